/- Generated. -/
import Derived.Test.YtjbifkimffmhpaaG1
namespace Go.Proofs.Ytjbifkimffmhpaa
open Go Go.AM
set_option maxRecDepth 20000
set_option maxHeartbeats 4000000
set_option linter.unusedVariables false
set_option linter.unusedSimpArgs false
noncomputable def w_FnExactFactorBoth (a0 : Int) (a1 : Int) (a2 : List F) (a3 : F) : Option (Bool) :=
  obind (w_szMatrix a0 a1 a2 1048576) fun (r1 : Int) =>
  bsel (decide (r1 < 0)) (
    some true) (
    obind3 (w_toMatrix a0 a1 a2) fun (r2 : Int) (r3 : Int) (r4 : List F) =>
    obind7 (s_FactorBoth r2 r3 r4 a3) fun (r5 : Int) (r6 : Int) (r7 : Int) (r8 : Bool) (r9 : List F) (r10 : List Int) (r11 : List Int) =>
    obind3 (w_toMatrix a0 a1 a2) fun (r12 : Int) (r13 : Int) (r14 : List F) =>
    obind7 (i_FactorBoth r12 r13 r14 a3) fun (r15 : Int) (r16 : Int) (r17 : Int) (r18 : Bool) (r19 : List F) (r20 : List Int) (r21 : List Int) =>
    obind (w_eqFactor r15 r16 r19 r20 r5 r6 r9 r10) fun (r22 : Bool) =>
    bsel r22 (
      obind (w_eqInt64S r21 r11) fun (r23 : Bool) =>
      bsel r23 (
        bsel (!decide (r17 = r7)) (
          some false) (
          bsel (!(r18 == r8)) (
            some false) (
            obind3 (w_toMatrix a0 a1 a2) fun (r24 : Int) (r25 : Int) (r26 : List F) =>
            obind (w_eqMatrix r12 r13 r14 r24 r25 r26) fun (r27 : Bool) =>
            bsel r27 (
              obind2 (w_markMatrix_02o r12 r13 1 r14) fun (r28 : Int) (r29 : List F) =>
              need (decide (r29.length = r14.length)) <|
              bsel (decide (r28 < 0)) (
                some false) (
                obind (w_eqFactor r15 r16 r19 r20 r5 r6 r9 r10) fun (r30 : Bool) =>
                bsel r30 (
                  obind (w_eqInt64S r21 r11) fun (r31 : Bool) =>
                  bsel r31 (
                    obind3 (w_markFactor_02o_03o1 r15 r16 1 r19 r20) fun (r32 : Int) (r33 : List F) (r34 : List Int) =>
                    need (decide (r33.length = r19.length)) <|
                    need (decide (r34.length = r20.length)) <|
                    obind2 (w_markInt64S_0o r32 r21) fun (r35 : Int) (r36 : List Int) =>
                    need (decide (r36.length = r21.length)) <|
                    obind (w_heldFactor r15 r16 r33 r34 1) fun (r37 : Int) =>
                    bsel (decide (r37 < 0)) (
                      some false) (
                      obind (w_heldInt64S r36 r37) fun (r38 : Int) =>
                      bsel (decide (r38 < 0)) (
                        some false) (
                        bsel (!decide (r38 = r35)) (
                          some false) (
                          obind3 (w_toMatrix a0 a1 a2) fun (r39 : Int) (r40 : Int) (r41 : List F) =>
                          obind7 (i_FactorBoth r39 r40 r41 a3) fun (r42 : Int) (r43 : Int) (r44 : Int) (r45 : Bool) (r46 : List F) (r47 : List Int) (r48 : List Int) =>
                          obind (w_eqFactor r42 r43 r46 r47 r5 r6 r9 r10) fun (r49 : Bool) =>
                          bsel r49 (
                            obind (w_eqInt64S r48 r11) fun (r50 : Bool) =>
                            bsel r50 (
                              bsel (!decide (r44 = r7)) (
                                some false) (
                                bsel (!(r45 == r8)) (
                                  some false) (
                                  obind (w_heldFactor r15 r16 r33 r34 1) fun (r51 : Int) =>
                                  bsel (decide (r51 < 0)) (
                                    some false) (
                                    obind (w_heldInt64S r36 r51) fun (r52 : Int) =>
                                    bsel (decide (r52 < 0)) (
                                      some false) (
                                      bsel (!decide (r52 = r35)) (
                                        some false) (
                                        some true)))))) (
                              some false)) (
                            some false))))) (
                    some false)) (
                  some false))) (
              some false)))) (
        some false)) (
      some false))
theorem w_FnExactFactorBoth_ok (a0 : Int) (a1 : Int) (a2 : List F) (a3 : F) (q0 : Bool) (h : w_FnExactFactorBoth a0 a1 a2 a3 = some q0) : Ev Try.prog 7 [AV.agg [AV.i64 a0, AV.i64 a1, AV.sl a2.length (a2.map AV.f32)], AV.f32 a3] [] (AV.b q0) [] := by
  refine Ev.start Try.func7 rfl rfl 13 (τ := [(0, AV.agg [AV.i64 a0, AV.i64 a1, AV.sl a2.length (a2.map AV.f32)]), (1, AV.f32 a3)]) rfl (Γ' := [⟨0, none⟩, ⟨0, none⟩, ⟨0, none⟩, ⟨0, none⟩, ⟨0, none⟩, ⟨0, none⟩, ⟨0, none⟩, ⟨0, none⟩, ⟨0, none⟩, ⟨0, none⟩, ⟨0, none⟩, ⟨0, none⟩, ⟨0, none⟩]) rfl (n := 159) rfl (g := 0) rfl ?_
  unfold w_FnExactFactorBoth at h
  refine RunC.seq ?_
  refine RunC.regionW ?_
  refine ROps.d (r := AV.ptr [AV.i64 a0, AV.i64 a1, AV.sl a2.length (a2.map AV.f32)]) (fs := []) (Γ' := [⟨0, none⟩, ⟨0, none⟩, ⟨0, none⟩, ⟨0, none⟩, ⟨0, none⟩, ⟨0, none⟩, ⟨0, none⟩, ⟨0, none⟩, ⟨0, none⟩, ⟨0, none⟩, ⟨0, none⟩, ⟨0, none⟩, ⟨0, none⟩]) rfl rfl rfl (TOp.box_s rfl rfl rfl) rfl ?_
  refine ROps.l (r := AV.b false) rfl rfl rfl (LOp.assign rfl rfl) ?_
  refine ROps.nil ?_
  refine RunC.seq ?_
  refine RunC.regionW ?_
  refine ROps.l (r := AV.i64 1048576) rfl rfl rfl (LOp.assign rfl rfl) ?_
  refine ROps.nil ?_
  refine RunC.seq ?_
  obtain ⟨r1, hf1, h⟩ := obind_some h
  refine RunC.regionW ?_
  refine ROps.l (r := AV.agg [AV.i64 a0, AV.i64 a1, AV.sl a2.length (a2.map AV.f32)]) rfl rfl rfl (LOp.loadAgg agg24 siz24 rfl rfl rfl rfl) ?_
  refine ROps.l (r := AV.i64 1048576) rfl rfl rfl (LOp.move rfl rfl) ?_
  refine ROps.d (r := AV.i64 r1) (fs := []) (Γ' := [⟨0, none⟩, ⟨0, none⟩, ⟨0, none⟩, ⟨0, none⟩, ⟨0, none⟩, ⟨0, none⟩, ⟨0, none⟩, ⟨0, none⟩, ⟨0, none⟩, ⟨0, none⟩, ⟨0, none⟩, ⟨0, none⟩, ⟨0, none⟩]) rfl rfl rfl (TOp.callB (CallAs.func ent9 rfl rfl) (Bors.cons (Bor.agg (Bors.cons (Bor.pure rfl) (Bors.cons (Bor.pure rfl) (Bors.cons (Bor.sl (fun _ => rfl)) Bors.nil)))) (Bors.cons (Bor.pure rfl) Bors.nil)) rfl rfl (w_szMatrix_ok a0 a1 a2 1048576 r1 hf1)) rfl ?_
  refine ROps.l (r := AV.i64 r1) rfl rfl rfl (LOp.assign rfl rfl) ?_
  refine ROps.nil ?_
  refine RunC.seq ?_
  refine RunC.seq ?_
  rcases bsel_some h with ⟨hc2, h⟩ | ⟨hc2, h⟩
  · refine RunC.regionW ?_
    refine ROps.l (r := AV.i64 r1) rfl rfl rfl (LOp.move rfl rfl) ?_
    refine ROps.l (r := AV.b true) rfl rfl rfl (LOp.eqb (LOp.lss rfl rfl rfl) hc2) ?_
    refine ROps.nil ?_
    refine RunC.cond_true rfl rfl ?_
    refine RunC.seq ?_
    refine RunC.regionW ?_
    refine ROps.l (r := AV.b true) rfl rfl rfl (LOp.assign rfl rfl) ?_
    refine ROps.nil ?_
    refine RunC.ret ?_
    have hq := Option.some.inj h
    subst q0
    exact bodyQ.pure (.inr rfl) rfl (Res.one rfl (RV.tmp rfl))
  · refine RunC.regionW ?_
    refine ROps.l (r := AV.i64 r1) rfl rfl rfl (LOp.move rfl rfl) ?_
    refine ROps.l (r := AV.b false) rfl rfl rfl (LOp.eqb (LOp.lss rfl rfl rfl) hc2) ?_
    refine ROps.nil ?_
    refine RunC.cond_false rfl rfl ?_
    refine RunC.skip ?_
    refine RunC.seq ?_
    obtain ⟨r2, r3, r4, hf3, h⟩ := obind3_some h
    obtain ⟨r5, r6, r7, r8, r9, r10, r11, hf4, h⟩ := obind7_some h
    refine RunC.regionW ?_
    refine ROps.l (r := AV.agg [AV.i64 a0, AV.i64 a1, AV.sl a2.length (a2.map AV.f32)]) rfl rfl rfl (LOp.loadAgg agg24 siz24 rfl rfl rfl rfl) ?_
    refine ROps.d (r := AV.agg [AV.i64 r2, AV.i64 r3, AV.oref 0 1 0 r4.length]) (fs := [(0, (r4.map AV.f32))]) (Γ' := [⟨1, some (r4.map AV.f32)⟩, ⟨0, none⟩, ⟨0, none⟩, ⟨0, none⟩, ⟨0, none⟩, ⟨0, none⟩, ⟨0, none⟩, ⟨0, none⟩, ⟨0, none⟩, ⟨0, none⟩, ⟨0, none⟩, ⟨0, none⟩, ⟨0, none⟩]) rfl rfl rfl (TOp.callBN (ls := [(r4.map AV.f32)]) [0] (CallAs.func ent11 rfl rfl) (Bors.cons (Bor.agg (Bors.cons (Bor.pure rfl) (Bors.cons (Bor.pure rfl) (Bors.cons (Bor.sl (fun _ => rfl)) Bors.nil)))) Bors.nil) rfl (w_toMatrix_ok a0 a1 a2 r2 r3 r4 hf3) (and_all (lts0_map (f := AV.f32) (fun _ => rfl) _) rfl) (and_all (noss_map (f := AV.f32) (fun _ => rfl) _) rfl) rfl (by decide) (ns_of ⟨⟨_, rfl⟩, trivial⟩)) rfl ?_
    refine ROps.l (r := AV.f32 a3) rfl rfl rfl (LOp.move rfl rfl) ?_
    refine ROps.d (r := AV.tup [AV.agg [AV.i64 r5, AV.i64 r6, AV.oref 1 1 0 r9.length, AV.oref 2 1 0 r10.length], AV.oref 3 1 0 r11.length, AV.i64 r7, AV.b r8]) (fs := [(1, (r9.map AV.f32)), (2, (r10.map AV.i64)), (3, (r11.map AV.i64))]) (Γ' := [⟨1, some (r4.map AV.f32)⟩, ⟨1, some (r9.map AV.f32)⟩, ⟨1, some (r10.map AV.i64)⟩, ⟨1, some (r11.map AV.i64)⟩, ⟨0, none⟩, ⟨0, none⟩, ⟨0, none⟩, ⟨0, none⟩, ⟨0, none⟩, ⟨0, none⟩, ⟨0, none⟩, ⟨0, none⟩, ⟨0, none⟩]) rfl rfl rfl (TOp.callBN (ls := [(r9.map AV.f32), (r10.map AV.i64), (r11.map AV.i64)]) [1, 2, 3] (CallAs.func ent32 rfl rfl) (Bors.cons (Bor.agg (Bors.cons (Bor.pure rfl) (Bors.cons (Bor.pure rfl) (Bors.cons (Bor.own (f := AV.f32) (fun _ => rfl) rfl rfl) Bors.nil)))) (Bors.cons (Bor.pure rfl) Bors.nil)) rfl (s_FactorBoth_ok r2 r3 r4 a3 r5 r6 r7 r8 r9 r10 r11 hf4) (and_all (lts0_map (f := AV.f32) (fun _ => rfl) _) (and_all (lts0_map (f := AV.i64) (fun _ => rfl) _) (and_all (lts0_map (f := AV.i64) (fun _ => rfl) _) rfl))) (and_all (noss_map (f := AV.f32) (fun _ => rfl) _) (and_all (noss_map (f := AV.i64) (fun _ => rfl) _) (and_all (noss_map (f := AV.i64) (fun _ => rfl) _) rfl))) rfl (by decide) (ns_of ⟨⟨_, rfl⟩, ⟨_, rfl⟩, ⟨_, rfl⟩, trivial⟩)) rfl ?_
    refine ROps.l (r := AV.tup [AV.agg [AV.i64 r5, AV.i64 r6, AV.oref 1 1 0 r9.length, AV.oref 2 1 0 r10.length], AV.oref 3 1 0 r11.length, AV.i64 r7, AV.b r8]) rfl rfl rfl (LOp.move rfl rfl) ?_
    refine ROps.l (r := AV.agg [AV.i64 r5, AV.i64 r6, AV.oref 1 1 0 r9.length, AV.oref 2 1 0 r10.length]) rfl rfl rfl (LOp.extract rfl rfl rfl) ?_
    refine ROps.l (r := AV.oref 3 1 0 r11.length) rfl rfl rfl (LOp.extract rfl rfl rfl) ?_
    refine ROps.l (r := AV.i64 r7) rfl rfl rfl (LOp.extract rfl rfl rfl) ?_
    refine ROps.l (r := AV.b r8) rfl rfl rfl (LOp.extract rfl rfl rfl) ?_
    refine ROps.d (r := AV.optr 4 1 0) (fs := [(4, [AV.i64 0, AV.i64 0, AV.nilsl, AV.nilsl])]) (Γ' := [⟨1, some (r4.map AV.f32)⟩, ⟨1, some (r9.map AV.f32)⟩, ⟨1, some (r10.map AV.i64)⟩, ⟨1, some (r11.map AV.i64)⟩, ⟨1, some [AV.i64 0, AV.i64 0, AV.nilsl, AV.nilsl]⟩, ⟨0, none⟩, ⟨0, none⟩, ⟨0, none⟩, ⟨0, none⟩, ⟨0, none⟩, ⟨0, none⟩, ⟨0, none⟩, ⟨0, none⟩]) rfl rfl rfl (TOp.alloc_o (g := ⟨0, none⟩) 4 rfl zer48 zok48 rfl) rfl ?_
    refine ROps.store_le (r := AV.agg [AV.i64 r5, AV.i64 r6, AV.oref 1 1 0 r9.length, AV.oref 2 1 0 r10.length]) (l' := [AV.i64 r5, AV.i64 r6, AV.oref 1 1 0 r9.length, AV.oref 2 1 0 r10.length]) (Γ' := [⟨1, some (r4.map AV.f32)⟩, ⟨1, some (r9.map AV.f32)⟩, ⟨1, some (r10.map AV.i64)⟩, ⟨1, some (r11.map AV.i64)⟩, ⟨1, some [AV.i64 r5, AV.i64 r6, AV.oref 1 1 0 r9.length, AV.oref 2 1 0 r10.length]⟩, ⟨0, none⟩, ⟨0, none⟩, ⟨0, none⟩, ⟨0, none⟩, ⟨0, none⟩, ⟨0, none⟩, ⟨0, none⟩, ⟨0, none⟩]) rfl siz48 rfl rfl rfl (ALe.refl _) rfl rfl rfl rfl (Nat.le_of_ble_eq_true rfl) rfl rfl ?_
    refine ROps.l (r := AV.oref 3 1 0 r11.length) rfl rfl rfl (LOp.assign rfl rfl) ?_
    refine ROps.l (r := AV.i64 r7) rfl rfl rfl (LOp.assign rfl rfl) ?_
    refine ROps.l (r := AV.b r8) rfl rfl rfl (LOp.assign rfl rfl) ?_
    refine ROps.nil ?_
    refine RunC.wl (τ' := [(1, AV.f32 a3), (2, AV.ptr [AV.i64 a0, AV.i64 a1, AV.sl a2.length (a2.map AV.f32)]), (6, AV.optr 4 1 0), (7, AV.oref 3 1 0 r11.length), (8, AV.i64 r7), (9, AV.b r8)]) (Γ' := [⟨1, none⟩, ⟨1, some (r9.map AV.f32)⟩, ⟨1, some (r10.map AV.i64)⟩, ⟨1, some (r11.map AV.i64)⟩, ⟨1, some [AV.i64 r5, AV.i64 r6, AV.oref 1 1 0 r9.length, AV.oref 2 1 0 r10.length]⟩, ⟨0, none⟩, ⟨0, none⟩, ⟨0, none⟩, ⟨0, none⟩, ⟨0, none⟩, ⟨0, none⟩, ⟨0, none⟩, ⟨0, none⟩]) ⟨(ALe.refl _), (ALe.refl _), (ALe.refl _), (ALe.refl _), (ALe.refl _), (ALe.refl _), trivial⟩ ⟨⟨rfl, .inl rfl⟩, ⟨rfl, .inr rfl⟩, ⟨rfl, .inr rfl⟩, ⟨rfl, .inr rfl⟩, ⟨rfl, .inr rfl⟩, ⟨rfl, .inr rfl⟩, ⟨rfl, .inr rfl⟩, ⟨rfl, .inr rfl⟩, ⟨rfl, .inr rfl⟩, ⟨rfl, .inr rfl⟩, ⟨rfl, .inr rfl⟩, ⟨rfl, .inr rfl⟩, ⟨rfl, .inr rfl⟩, trivial⟩ ?_
    refine RunC.seq ?_
    obtain ⟨r12, r13, r14, hf5, h⟩ := obind3_some h
    refine RunC.regionW ?_
    refine ROps.l (r := AV.agg [AV.i64 a0, AV.i64 a1, AV.sl a2.length (a2.map AV.f32)]) rfl rfl rfl (LOp.loadAgg agg24 siz24 rfl rfl rfl rfl) ?_
    refine ROps.d (r := AV.agg [AV.i64 r12, AV.i64 r13, AV.oref 0 2 0 r14.length]) (fs := [(0, (r14.map AV.f32))]) (Γ' := [⟨2, some (r14.map AV.f32)⟩, ⟨1, some (r9.map AV.f32)⟩, ⟨1, some (r10.map AV.i64)⟩, ⟨1, some (r11.map AV.i64)⟩, ⟨1, some [AV.i64 r5, AV.i64 r6, AV.oref 1 1 0 r9.length, AV.oref 2 1 0 r10.length]⟩, ⟨0, none⟩, ⟨0, none⟩, ⟨0, none⟩, ⟨0, none⟩, ⟨0, none⟩, ⟨0, none⟩, ⟨0, none⟩, ⟨0, none⟩]) rfl rfl rfl (TOp.callBN (ls := [(r14.map AV.f32)]) [0] (CallAs.func ent11 rfl rfl) (Bors.cons (Bor.agg (Bors.cons (Bor.pure rfl) (Bors.cons (Bor.pure rfl) (Bors.cons (Bor.sl (fun _ => rfl)) Bors.nil)))) Bors.nil) rfl (w_toMatrix_ok a0 a1 a2 r12 r13 r14 hf5) (and_all (lts0_map (f := AV.f32) (fun _ => rfl) _) rfl) (and_all (noss_map (f := AV.f32) (fun _ => rfl) _) rfl) rfl (by decide) (ns_of ⟨⟨_, rfl⟩, trivial⟩)) rfl ?_
    refine ROps.d (r := AV.optr 5 1 0) (fs := [(5, [AV.i64 0, AV.i64 0, AV.nilsl])]) (Γ' := [⟨2, some (r14.map AV.f32)⟩, ⟨1, some (r9.map AV.f32)⟩, ⟨1, some (r10.map AV.i64)⟩, ⟨1, some (r11.map AV.i64)⟩, ⟨1, some [AV.i64 r5, AV.i64 r6, AV.oref 1 1 0 r9.length, AV.oref 2 1 0 r10.length]⟩, ⟨1, some [AV.i64 0, AV.i64 0, AV.nilsl]⟩, ⟨0, none⟩, ⟨0, none⟩, ⟨0, none⟩, ⟨0, none⟩, ⟨0, none⟩, ⟨0, none⟩, ⟨0, none⟩]) rfl rfl rfl (TOp.alloc_o (g := ⟨0, none⟩) 5 rfl zer27 zok27 rfl) rfl ?_
    refine ROps.store_le (r := AV.agg [AV.i64 r12, AV.i64 r13, AV.oref 0 2 0 r14.length]) (l' := [AV.i64 r12, AV.i64 r13, AV.oref 0 2 0 r14.length]) (Γ' := [⟨2, some (r14.map AV.f32)⟩, ⟨1, some (r9.map AV.f32)⟩, ⟨1, some (r10.map AV.i64)⟩, ⟨1, some (r11.map AV.i64)⟩, ⟨1, some [AV.i64 r5, AV.i64 r6, AV.oref 1 1 0 r9.length, AV.oref 2 1 0 r10.length]⟩, ⟨1, some [AV.i64 r12, AV.i64 r13, AV.oref 0 2 0 r14.length]⟩, ⟨0, none⟩, ⟨0, none⟩, ⟨0, none⟩, ⟨0, none⟩, ⟨0, none⟩, ⟨0, none⟩, ⟨0, none⟩]) rfl siz27 rfl rfl rfl (ALe.refl _) rfl rfl rfl rfl (Nat.le_of_ble_eq_true rfl) rfl rfl ?_
    refine ROps.nil ?_
    refine RunC.seq ?_
    obtain ⟨r15, r16, r17, r18, r19, r20, r21, hf6, h⟩ := obind7_some h
    refine RunC.regionW ?_
    refine ROps.d (r := AV.agg [AV.i64 r12, AV.i64 r13, AV.oref 0 2 0 r14.length]) (fs := []) (Γ' := [⟨2, some (r14.map AV.f32)⟩, ⟨1, some (r9.map AV.f32)⟩, ⟨1, some (r10.map AV.i64)⟩, ⟨1, some (r11.map AV.i64)⟩, ⟨1, some [AV.i64 r5, AV.i64 r6, AV.oref 1 1 0 r9.length, AV.oref 2 1 0 r10.length]⟩, ⟨1, some [AV.i64 r12, AV.i64 r13, AV.oref 0 2 0 r14.length]⟩, ⟨0, none⟩, ⟨0, none⟩, ⟨0, none⟩, ⟨0, none⟩, ⟨0, none⟩, ⟨0, none⟩, ⟨0, none⟩]) rfl rfl rfl (TOp.loadAgg_o rfl agg27 siz27 rfl rfl rfl rfl) rfl ?_
    refine ROps.l (r := AV.f32 a3) rfl rfl rfl (LOp.move rfl rfl) ?_
    refine ROps.d (r := AV.tup [AV.agg [AV.i64 r15, AV.i64 r16, AV.oref 6 1 0 r19.length, AV.oref 7 1 0 r20.length], AV.oref 8 1 0 r21.length, AV.i64 r17, AV.b r18]) (fs := [(6, (r19.map AV.f32)), (7, (r20.map AV.i64)), (8, (r21.map AV.i64))]) (Γ' := [⟨2, some (r14.map AV.f32)⟩, ⟨1, some (r9.map AV.f32)⟩, ⟨1, some (r10.map AV.i64)⟩, ⟨1, some (r11.map AV.i64)⟩, ⟨1, some [AV.i64 r5, AV.i64 r6, AV.oref 1 1 0 r9.length, AV.oref 2 1 0 r10.length]⟩, ⟨1, some [AV.i64 r12, AV.i64 r13, AV.oref 0 2 0 r14.length]⟩, ⟨1, some (r19.map AV.f32)⟩, ⟨1, some (r20.map AV.i64)⟩, ⟨1, some (r21.map AV.i64)⟩, ⟨0, none⟩, ⟨0, none⟩, ⟨0, none⟩, ⟨0, none⟩]) rfl rfl rfl (TOp.callBN (ls := [(r19.map AV.f32), (r20.map AV.i64), (r21.map AV.i64)]) [6, 7, 8] (CallAs.func ent33 rfl rfl) (Bors.cons (Bor.agg (Bors.cons (Bor.pure rfl) (Bors.cons (Bor.pure rfl) (Bors.cons (Bor.own (f := AV.f32) (fun _ => rfl) rfl rfl) Bors.nil)))) (Bors.cons (Bor.pure rfl) Bors.nil)) rfl (i_FactorBoth_ok r12 r13 r14 a3 r15 r16 r17 r18 r19 r20 r21 hf6) (and_all (lts0_map (f := AV.f32) (fun _ => rfl) _) (and_all (lts0_map (f := AV.i64) (fun _ => rfl) _) (and_all (lts0_map (f := AV.i64) (fun _ => rfl) _) rfl))) (and_all (noss_map (f := AV.f32) (fun _ => rfl) _) (and_all (noss_map (f := AV.i64) (fun _ => rfl) _) (and_all (noss_map (f := AV.i64) (fun _ => rfl) _) rfl))) rfl (by decide) (ns_of ⟨⟨_, rfl⟩, ⟨_, rfl⟩, ⟨_, rfl⟩, trivial⟩)) rfl ?_
    refine ROps.l (r := AV.tup [AV.agg [AV.i64 r15, AV.i64 r16, AV.oref 6 1 0 r19.length, AV.oref 7 1 0 r20.length], AV.oref 8 1 0 r21.length, AV.i64 r17, AV.b r18]) rfl rfl rfl (LOp.move rfl rfl) ?_
    refine ROps.l (r := AV.agg [AV.i64 r15, AV.i64 r16, AV.oref 6 1 0 r19.length, AV.oref 7 1 0 r20.length]) rfl rfl rfl (LOp.extract rfl rfl rfl) ?_
    refine ROps.l (r := AV.oref 8 1 0 r21.length) rfl rfl rfl (LOp.extract rfl rfl rfl) ?_
    refine ROps.l (r := AV.i64 r17) rfl rfl rfl (LOp.extract rfl rfl rfl) ?_
    refine ROps.l (r := AV.b r18) rfl rfl rfl (LOp.extract rfl rfl rfl) ?_
    refine ROps.d (r := AV.optr 9 1 0) (fs := [(9, [AV.i64 0, AV.i64 0, AV.nilsl, AV.nilsl])]) (Γ' := [⟨2, some (r14.map AV.f32)⟩, ⟨1, some (r9.map AV.f32)⟩, ⟨1, some (r10.map AV.i64)⟩, ⟨1, some (r11.map AV.i64)⟩, ⟨1, some [AV.i64 r5, AV.i64 r6, AV.oref 1 1 0 r9.length, AV.oref 2 1 0 r10.length]⟩, ⟨1, some [AV.i64 r12, AV.i64 r13, AV.oref 0 2 0 r14.length]⟩, ⟨1, some (r19.map AV.f32)⟩, ⟨1, some (r20.map AV.i64)⟩, ⟨1, some (r21.map AV.i64)⟩, ⟨1, some [AV.i64 0, AV.i64 0, AV.nilsl, AV.nilsl]⟩, ⟨0, none⟩, ⟨0, none⟩, ⟨0, none⟩]) rfl rfl rfl (TOp.alloc_o (g := ⟨0, none⟩) 9 rfl zer48 zok48 rfl) rfl ?_
    refine ROps.store_le (r := AV.agg [AV.i64 r15, AV.i64 r16, AV.oref 6 1 0 r19.length, AV.oref 7 1 0 r20.length]) (l' := [AV.i64 r15, AV.i64 r16, AV.oref 6 1 0 r19.length, AV.oref 7 1 0 r20.length]) (Γ' := [⟨2, some (r14.map AV.f32)⟩, ⟨1, some (r9.map AV.f32)⟩, ⟨1, some (r10.map AV.i64)⟩, ⟨1, some (r11.map AV.i64)⟩, ⟨1, some [AV.i64 r5, AV.i64 r6, AV.oref 1 1 0 r9.length, AV.oref 2 1 0 r10.length]⟩, ⟨1, some [AV.i64 r12, AV.i64 r13, AV.oref 0 2 0 r14.length]⟩, ⟨1, some (r19.map AV.f32)⟩, ⟨1, some (r20.map AV.i64)⟩, ⟨1, some (r21.map AV.i64)⟩, ⟨1, some [AV.i64 r15, AV.i64 r16, AV.oref 6 1 0 r19.length, AV.oref 7 1 0 r20.length]⟩, ⟨0, none⟩, ⟨0, none⟩, ⟨0, none⟩]) rfl siz48 rfl rfl rfl (ALe.refl _) rfl rfl rfl rfl (Nat.le_of_ble_eq_true rfl) rfl rfl ?_
    refine ROps.l (r := AV.oref 8 1 0 r21.length) rfl rfl rfl (LOp.assign rfl rfl) ?_
    refine ROps.l (r := AV.i64 r17) rfl rfl rfl (LOp.assign rfl rfl) ?_
    refine ROps.l (r := AV.b r18) rfl rfl rfl (LOp.assign rfl rfl) ?_
    refine ROps.nil ?_
    refine RunC.seq ?_
    refine RunC.seq ?_
    obtain ⟨r22, hf7, h⟩ := obind_some h
    rcases bsel_some h with ⟨hc8, h⟩ | ⟨hc8, h⟩
    · obtain ⟨r23, hf9, h⟩ := obind_some h
      rcases bsel_some h with ⟨hc10, h⟩ | ⟨hc10, h⟩
      · rcases bsel_some h with ⟨hc11, h⟩ | ⟨hc11, h⟩
        · refine RunC.regionW ?_
          refine ROps.d (r := AV.agg [AV.i64 r15, AV.i64 r16, AV.oref 6 1 0 r19.length, AV.oref 7 1 0 r20.length]) (fs := []) (Γ' := [⟨2, some (r14.map AV.f32)⟩, ⟨1, some (r9.map AV.f32)⟩, ⟨1, some (r10.map AV.i64)⟩, ⟨1, some (r11.map AV.i64)⟩, ⟨1, some [AV.i64 r5, AV.i64 r6, AV.oref 1 1 0 r9.length, AV.oref 2 1 0 r10.length]⟩, ⟨1, some [AV.i64 r12, AV.i64 r13, AV.oref 0 2 0 r14.length]⟩, ⟨1, some (r19.map AV.f32)⟩, ⟨1, some (r20.map AV.i64)⟩, ⟨1, some (r21.map AV.i64)⟩, ⟨1, some [AV.i64 r15, AV.i64 r16, AV.oref 6 1 0 r19.length, AV.oref 7 1 0 r20.length]⟩, ⟨0, none⟩, ⟨0, none⟩, ⟨0, none⟩]) rfl rfl rfl (TOp.loadAgg_o rfl agg48 siz48 rfl rfl rfl rfl) rfl ?_
          refine ROps.d (r := AV.agg [AV.i64 r5, AV.i64 r6, AV.oref 1 1 0 r9.length, AV.oref 2 1 0 r10.length]) (fs := []) (Γ' := [⟨2, some (r14.map AV.f32)⟩, ⟨1, some (r9.map AV.f32)⟩, ⟨1, some (r10.map AV.i64)⟩, ⟨1, some (r11.map AV.i64)⟩, ⟨1, some [AV.i64 r5, AV.i64 r6, AV.oref 1 1 0 r9.length, AV.oref 2 1 0 r10.length]⟩, ⟨1, some [AV.i64 r12, AV.i64 r13, AV.oref 0 2 0 r14.length]⟩, ⟨1, some (r19.map AV.f32)⟩, ⟨1, some (r20.map AV.i64)⟩, ⟨1, some (r21.map AV.i64)⟩, ⟨1, some [AV.i64 r15, AV.i64 r16, AV.oref 6 1 0 r19.length, AV.oref 7 1 0 r20.length]⟩, ⟨0, none⟩, ⟨0, none⟩, ⟨0, none⟩]) rfl rfl rfl (TOp.loadAgg_o rfl agg48 siz48 rfl rfl rfl rfl) rfl ?_
          refine ROps.d (r := AV.b true) (fs := []) (Γ' := [⟨2, some (r14.map AV.f32)⟩, ⟨1, some (r9.map AV.f32)⟩, ⟨1, some (r10.map AV.i64)⟩, ⟨1, some (r11.map AV.i64)⟩, ⟨1, some [AV.i64 r5, AV.i64 r6, AV.oref 1 1 0 r9.length, AV.oref 2 1 0 r10.length]⟩, ⟨1, some [AV.i64 r12, AV.i64 r13, AV.oref 0 2 0 r14.length]⟩, ⟨1, some (r19.map AV.f32)⟩, ⟨1, some (r20.map AV.i64)⟩, ⟨1, some (r21.map AV.i64)⟩, ⟨1, some [AV.i64 r15, AV.i64 r16, AV.oref 6 1 0 r19.length, AV.oref 7 1 0 r20.length]⟩, ⟨0, none⟩, ⟨0, none⟩, ⟨0, none⟩]) rfl rfl rfl (TOp.eqb (TOp.callB (CallAs.func ent29 rfl rfl) (Bors.cons (Bor.agg (Bors.cons (Bor.pure rfl) (Bors.cons (Bor.pure rfl) (Bors.cons (Bor.own (f := AV.f32) (fun _ => rfl) rfl rfl) (Bors.cons (Bor.own (f := AV.i64) (fun _ => rfl) rfl rfl) Bors.nil))))) (Bors.cons (Bor.agg (Bors.cons (Bor.pure rfl) (Bors.cons (Bor.pure rfl) (Bors.cons (Bor.own (f := AV.f32) (fun _ => rfl) rfl rfl) (Bors.cons (Bor.own (f := AV.i64) (fun _ => rfl) rfl rfl) Bors.nil))))) Bors.nil)) rfl rfl (w_eqFactor_ok r15 r16 r19 r20 r5 r6 r9 r10 r22 hf7)) hc8) rfl ?_
          refine ROps.l (r := AV.b false) rfl rfl rfl (LOp.eqb (LOp.not rfl rfl) rfl) ?_
          refine ROps.l (r := AV.b false) rfl rfl rfl (LOp.move rfl rfl) ?_
          refine ROps.l (r := AV.oref 8 1 0 r21.length) rfl rfl rfl (LOp.move rfl rfl) ?_
          refine ROps.l (r := AV.oref 3 1 0 r11.length) rfl rfl rfl (LOp.move rfl rfl) ?_
          refine ROps.d (r := AV.b true) (fs := []) (Γ' := [⟨2, some (r14.map AV.f32)⟩, ⟨1, some (r9.map AV.f32)⟩, ⟨1, some (r10.map AV.i64)⟩, ⟨1, some (r11.map AV.i64)⟩, ⟨1, some [AV.i64 r5, AV.i64 r6, AV.oref 1 1 0 r9.length, AV.oref 2 1 0 r10.length]⟩, ⟨1, some [AV.i64 r12, AV.i64 r13, AV.oref 0 2 0 r14.length]⟩, ⟨1, some (r19.map AV.f32)⟩, ⟨1, some (r20.map AV.i64)⟩, ⟨1, some (r21.map AV.i64)⟩, ⟨1, some [AV.i64 r15, AV.i64 r16, AV.oref 6 1 0 r19.length, AV.oref 7 1 0 r20.length]⟩, ⟨0, none⟩, ⟨0, none⟩, ⟨0, none⟩]) rfl rfl rfl (TOp.eqb (TOp.callB (CallAs.func ent14 rfl rfl) (Bors.cons (Bor.own (f := AV.i64) (fun _ => rfl) rfl rfl) (Bors.cons (Bor.own (f := AV.i64) (fun _ => rfl) rfl rfl) Bors.nil)) rfl rfl (w_eqInt64S_ok r21 r11 r23 hf9)) hc10) rfl ?_
          refine ROps.l (r := AV.b false) rfl rfl rfl (LOp.eqb (LOp.not rfl rfl) rfl) ?_
          refine ROps.l (r := AV.b false) rfl rfl rfl (LOp.pick_false rfl rfl rfl) ?_
          refine ROps.l (r := AV.b false) rfl rfl rfl (LOp.move rfl rfl) ?_
          refine ROps.l (r := AV.i64 r17) rfl rfl rfl (LOp.move rfl rfl) ?_
          refine ROps.l (r := AV.i64 r7) rfl rfl rfl (LOp.move rfl rfl) ?_
          refine ROps.l (r := AV.b true) rfl rfl rfl (LOp.eqb (LOp.neq rfl rfl rfl) hc11) ?_
          refine ROps.l (r := AV.b true) rfl rfl rfl (LOp.pick_false rfl rfl rfl) ?_
          refine ROps.l (r := AV.b true) rfl rfl rfl (LOp.move rfl rfl) ?_
          refine ROps.s rfl rfl rfl ?_
          refine ROps.s rfl rfl rfl ?_
          refine ROps.s rfl rfl rfl ?_
          refine ROps.l (r := AV.b true) rfl rfl rfl (LOp.pick_true rfl rfl rfl) ?_
          refine ROps.nil ?_
          refine RunC.cond_true rfl rfl ?_
          refine RunC.seq ?_
          refine RunC.regionW ?_
          refine ROps.l (r := AV.b false) rfl rfl rfl (LOp.assign rfl rfl) ?_
          refine ROps.nil ?_
          refine RunC.ret ?_
          have hq := Option.some.inj h
          subst q0
          exact bodyQ.pure (.inr rfl) rfl (Res.one rfl (RV.tmp rfl))
        · rcases bsel_some h with ⟨hc12, h⟩ | ⟨hc12, h⟩
          · refine RunC.regionW ?_
            refine ROps.d (r := AV.agg [AV.i64 r15, AV.i64 r16, AV.oref 6 1 0 r19.length, AV.oref 7 1 0 r20.length]) (fs := []) (Γ' := [⟨2, some (r14.map AV.f32)⟩, ⟨1, some (r9.map AV.f32)⟩, ⟨1, some (r10.map AV.i64)⟩, ⟨1, some (r11.map AV.i64)⟩, ⟨1, some [AV.i64 r5, AV.i64 r6, AV.oref 1 1 0 r9.length, AV.oref 2 1 0 r10.length]⟩, ⟨1, some [AV.i64 r12, AV.i64 r13, AV.oref 0 2 0 r14.length]⟩, ⟨1, some (r19.map AV.f32)⟩, ⟨1, some (r20.map AV.i64)⟩, ⟨1, some (r21.map AV.i64)⟩, ⟨1, some [AV.i64 r15, AV.i64 r16, AV.oref 6 1 0 r19.length, AV.oref 7 1 0 r20.length]⟩, ⟨0, none⟩, ⟨0, none⟩, ⟨0, none⟩]) rfl rfl rfl (TOp.loadAgg_o rfl agg48 siz48 rfl rfl rfl rfl) rfl ?_
            refine ROps.d (r := AV.agg [AV.i64 r5, AV.i64 r6, AV.oref 1 1 0 r9.length, AV.oref 2 1 0 r10.length]) (fs := []) (Γ' := [⟨2, some (r14.map AV.f32)⟩, ⟨1, some (r9.map AV.f32)⟩, ⟨1, some (r10.map AV.i64)⟩, ⟨1, some (r11.map AV.i64)⟩, ⟨1, some [AV.i64 r5, AV.i64 r6, AV.oref 1 1 0 r9.length, AV.oref 2 1 0 r10.length]⟩, ⟨1, some [AV.i64 r12, AV.i64 r13, AV.oref 0 2 0 r14.length]⟩, ⟨1, some (r19.map AV.f32)⟩, ⟨1, some (r20.map AV.i64)⟩, ⟨1, some (r21.map AV.i64)⟩, ⟨1, some [AV.i64 r15, AV.i64 r16, AV.oref 6 1 0 r19.length, AV.oref 7 1 0 r20.length]⟩, ⟨0, none⟩, ⟨0, none⟩, ⟨0, none⟩]) rfl rfl rfl (TOp.loadAgg_o rfl agg48 siz48 rfl rfl rfl rfl) rfl ?_
            refine ROps.d (r := AV.b true) (fs := []) (Γ' := [⟨2, some (r14.map AV.f32)⟩, ⟨1, some (r9.map AV.f32)⟩, ⟨1, some (r10.map AV.i64)⟩, ⟨1, some (r11.map AV.i64)⟩, ⟨1, some [AV.i64 r5, AV.i64 r6, AV.oref 1 1 0 r9.length, AV.oref 2 1 0 r10.length]⟩, ⟨1, some [AV.i64 r12, AV.i64 r13, AV.oref 0 2 0 r14.length]⟩, ⟨1, some (r19.map AV.f32)⟩, ⟨1, some (r20.map AV.i64)⟩, ⟨1, some (r21.map AV.i64)⟩, ⟨1, some [AV.i64 r15, AV.i64 r16, AV.oref 6 1 0 r19.length, AV.oref 7 1 0 r20.length]⟩, ⟨0, none⟩, ⟨0, none⟩, ⟨0, none⟩]) rfl rfl rfl (TOp.eqb (TOp.callB (CallAs.func ent29 rfl rfl) (Bors.cons (Bor.agg (Bors.cons (Bor.pure rfl) (Bors.cons (Bor.pure rfl) (Bors.cons (Bor.own (f := AV.f32) (fun _ => rfl) rfl rfl) (Bors.cons (Bor.own (f := AV.i64) (fun _ => rfl) rfl rfl) Bors.nil))))) (Bors.cons (Bor.agg (Bors.cons (Bor.pure rfl) (Bors.cons (Bor.pure rfl) (Bors.cons (Bor.own (f := AV.f32) (fun _ => rfl) rfl rfl) (Bors.cons (Bor.own (f := AV.i64) (fun _ => rfl) rfl rfl) Bors.nil))))) Bors.nil)) rfl rfl (w_eqFactor_ok r15 r16 r19 r20 r5 r6 r9 r10 r22 hf7)) hc8) rfl ?_
            refine ROps.l (r := AV.b false) rfl rfl rfl (LOp.eqb (LOp.not rfl rfl) rfl) ?_
            refine ROps.l (r := AV.b false) rfl rfl rfl (LOp.move rfl rfl) ?_
            refine ROps.l (r := AV.oref 8 1 0 r21.length) rfl rfl rfl (LOp.move rfl rfl) ?_
            refine ROps.l (r := AV.oref 3 1 0 r11.length) rfl rfl rfl (LOp.move rfl rfl) ?_
            refine ROps.d (r := AV.b true) (fs := []) (Γ' := [⟨2, some (r14.map AV.f32)⟩, ⟨1, some (r9.map AV.f32)⟩, ⟨1, some (r10.map AV.i64)⟩, ⟨1, some (r11.map AV.i64)⟩, ⟨1, some [AV.i64 r5, AV.i64 r6, AV.oref 1 1 0 r9.length, AV.oref 2 1 0 r10.length]⟩, ⟨1, some [AV.i64 r12, AV.i64 r13, AV.oref 0 2 0 r14.length]⟩, ⟨1, some (r19.map AV.f32)⟩, ⟨1, some (r20.map AV.i64)⟩, ⟨1, some (r21.map AV.i64)⟩, ⟨1, some [AV.i64 r15, AV.i64 r16, AV.oref 6 1 0 r19.length, AV.oref 7 1 0 r20.length]⟩, ⟨0, none⟩, ⟨0, none⟩, ⟨0, none⟩]) rfl rfl rfl (TOp.eqb (TOp.callB (CallAs.func ent14 rfl rfl) (Bors.cons (Bor.own (f := AV.i64) (fun _ => rfl) rfl rfl) (Bors.cons (Bor.own (f := AV.i64) (fun _ => rfl) rfl rfl) Bors.nil)) rfl rfl (w_eqInt64S_ok r21 r11 r23 hf9)) hc10) rfl ?_
            refine ROps.l (r := AV.b false) rfl rfl rfl (LOp.eqb (LOp.not rfl rfl) rfl) ?_
            refine ROps.l (r := AV.b false) rfl rfl rfl (LOp.pick_false rfl rfl rfl) ?_
            refine ROps.l (r := AV.b false) rfl rfl rfl (LOp.move rfl rfl) ?_
            refine ROps.l (r := AV.i64 r17) rfl rfl rfl (LOp.move rfl rfl) ?_
            refine ROps.l (r := AV.i64 r7) rfl rfl rfl (LOp.move rfl rfl) ?_
            refine ROps.l (r := AV.b false) rfl rfl rfl (LOp.eqb (LOp.neq rfl rfl rfl) hc11) ?_
            refine ROps.l (r := AV.b false) rfl rfl rfl (LOp.pick_false rfl rfl rfl) ?_
            refine ROps.l (r := AV.b false) rfl rfl rfl (LOp.move rfl rfl) ?_
            refine ROps.l (r := AV.b r18) rfl rfl rfl (LOp.move rfl rfl) ?_
            refine ROps.l (r := AV.b r8) rfl rfl rfl (LOp.move rfl rfl) ?_
            refine ROps.l (r := AV.b true) rfl rfl rfl (LOp.eqb (LOp.neqb pun4 rfl rfl rfl) hc12) ?_
            refine ROps.l (r := AV.b true) rfl rfl rfl (LOp.pick_false rfl rfl rfl) ?_
            refine ROps.nil ?_
            refine RunC.cond_true rfl rfl ?_
            refine RunC.seq ?_
            refine RunC.regionW ?_
            refine ROps.l (r := AV.b false) rfl rfl rfl (LOp.assign rfl rfl) ?_
            refine ROps.nil ?_
            refine RunC.ret ?_
            have hq := Option.some.inj h
            subst q0
            exact bodyQ.pure (.inr rfl) rfl (Res.one rfl (RV.tmp rfl))
          · refine RunC.regionW ?_
            refine ROps.d (r := AV.agg [AV.i64 r15, AV.i64 r16, AV.oref 6 1 0 r19.length, AV.oref 7 1 0 r20.length]) (fs := []) (Γ' := [⟨2, some (r14.map AV.f32)⟩, ⟨1, some (r9.map AV.f32)⟩, ⟨1, some (r10.map AV.i64)⟩, ⟨1, some (r11.map AV.i64)⟩, ⟨1, some [AV.i64 r5, AV.i64 r6, AV.oref 1 1 0 r9.length, AV.oref 2 1 0 r10.length]⟩, ⟨1, some [AV.i64 r12, AV.i64 r13, AV.oref 0 2 0 r14.length]⟩, ⟨1, some (r19.map AV.f32)⟩, ⟨1, some (r20.map AV.i64)⟩, ⟨1, some (r21.map AV.i64)⟩, ⟨1, some [AV.i64 r15, AV.i64 r16, AV.oref 6 1 0 r19.length, AV.oref 7 1 0 r20.length]⟩, ⟨0, none⟩, ⟨0, none⟩, ⟨0, none⟩]) rfl rfl rfl (TOp.loadAgg_o rfl agg48 siz48 rfl rfl rfl rfl) rfl ?_
            refine ROps.d (r := AV.agg [AV.i64 r5, AV.i64 r6, AV.oref 1 1 0 r9.length, AV.oref 2 1 0 r10.length]) (fs := []) (Γ' := [⟨2, some (r14.map AV.f32)⟩, ⟨1, some (r9.map AV.f32)⟩, ⟨1, some (r10.map AV.i64)⟩, ⟨1, some (r11.map AV.i64)⟩, ⟨1, some [AV.i64 r5, AV.i64 r6, AV.oref 1 1 0 r9.length, AV.oref 2 1 0 r10.length]⟩, ⟨1, some [AV.i64 r12, AV.i64 r13, AV.oref 0 2 0 r14.length]⟩, ⟨1, some (r19.map AV.f32)⟩, ⟨1, some (r20.map AV.i64)⟩, ⟨1, some (r21.map AV.i64)⟩, ⟨1, some [AV.i64 r15, AV.i64 r16, AV.oref 6 1 0 r19.length, AV.oref 7 1 0 r20.length]⟩, ⟨0, none⟩, ⟨0, none⟩, ⟨0, none⟩]) rfl rfl rfl (TOp.loadAgg_o rfl agg48 siz48 rfl rfl rfl rfl) rfl ?_
            refine ROps.d (r := AV.b true) (fs := []) (Γ' := [⟨2, some (r14.map AV.f32)⟩, ⟨1, some (r9.map AV.f32)⟩, ⟨1, some (r10.map AV.i64)⟩, ⟨1, some (r11.map AV.i64)⟩, ⟨1, some [AV.i64 r5, AV.i64 r6, AV.oref 1 1 0 r9.length, AV.oref 2 1 0 r10.length]⟩, ⟨1, some [AV.i64 r12, AV.i64 r13, AV.oref 0 2 0 r14.length]⟩, ⟨1, some (r19.map AV.f32)⟩, ⟨1, some (r20.map AV.i64)⟩, ⟨1, some (r21.map AV.i64)⟩, ⟨1, some [AV.i64 r15, AV.i64 r16, AV.oref 6 1 0 r19.length, AV.oref 7 1 0 r20.length]⟩, ⟨0, none⟩, ⟨0, none⟩, ⟨0, none⟩]) rfl rfl rfl (TOp.eqb (TOp.callB (CallAs.func ent29 rfl rfl) (Bors.cons (Bor.agg (Bors.cons (Bor.pure rfl) (Bors.cons (Bor.pure rfl) (Bors.cons (Bor.own (f := AV.f32) (fun _ => rfl) rfl rfl) (Bors.cons (Bor.own (f := AV.i64) (fun _ => rfl) rfl rfl) Bors.nil))))) (Bors.cons (Bor.agg (Bors.cons (Bor.pure rfl) (Bors.cons (Bor.pure rfl) (Bors.cons (Bor.own (f := AV.f32) (fun _ => rfl) rfl rfl) (Bors.cons (Bor.own (f := AV.i64) (fun _ => rfl) rfl rfl) Bors.nil))))) Bors.nil)) rfl rfl (w_eqFactor_ok r15 r16 r19 r20 r5 r6 r9 r10 r22 hf7)) hc8) rfl ?_
            refine ROps.l (r := AV.b false) rfl rfl rfl (LOp.eqb (LOp.not rfl rfl) rfl) ?_
            refine ROps.l (r := AV.b false) rfl rfl rfl (LOp.move rfl rfl) ?_
            refine ROps.l (r := AV.oref 8 1 0 r21.length) rfl rfl rfl (LOp.move rfl rfl) ?_
            refine ROps.l (r := AV.oref 3 1 0 r11.length) rfl rfl rfl (LOp.move rfl rfl) ?_
            refine ROps.d (r := AV.b true) (fs := []) (Γ' := [⟨2, some (r14.map AV.f32)⟩, ⟨1, some (r9.map AV.f32)⟩, ⟨1, some (r10.map AV.i64)⟩, ⟨1, some (r11.map AV.i64)⟩, ⟨1, some [AV.i64 r5, AV.i64 r6, AV.oref 1 1 0 r9.length, AV.oref 2 1 0 r10.length]⟩, ⟨1, some [AV.i64 r12, AV.i64 r13, AV.oref 0 2 0 r14.length]⟩, ⟨1, some (r19.map AV.f32)⟩, ⟨1, some (r20.map AV.i64)⟩, ⟨1, some (r21.map AV.i64)⟩, ⟨1, some [AV.i64 r15, AV.i64 r16, AV.oref 6 1 0 r19.length, AV.oref 7 1 0 r20.length]⟩, ⟨0, none⟩, ⟨0, none⟩, ⟨0, none⟩]) rfl rfl rfl (TOp.eqb (TOp.callB (CallAs.func ent14 rfl rfl) (Bors.cons (Bor.own (f := AV.i64) (fun _ => rfl) rfl rfl) (Bors.cons (Bor.own (f := AV.i64) (fun _ => rfl) rfl rfl) Bors.nil)) rfl rfl (w_eqInt64S_ok r21 r11 r23 hf9)) hc10) rfl ?_
            refine ROps.l (r := AV.b false) rfl rfl rfl (LOp.eqb (LOp.not rfl rfl) rfl) ?_
            refine ROps.l (r := AV.b false) rfl rfl rfl (LOp.pick_false rfl rfl rfl) ?_
            refine ROps.l (r := AV.b false) rfl rfl rfl (LOp.move rfl rfl) ?_
            refine ROps.l (r := AV.i64 r17) rfl rfl rfl (LOp.move rfl rfl) ?_
            refine ROps.l (r := AV.i64 r7) rfl rfl rfl (LOp.move rfl rfl) ?_
            refine ROps.l (r := AV.b false) rfl rfl rfl (LOp.eqb (LOp.neq rfl rfl rfl) hc11) ?_
            refine ROps.l (r := AV.b false) rfl rfl rfl (LOp.pick_false rfl rfl rfl) ?_
            refine ROps.l (r := AV.b false) rfl rfl rfl (LOp.move rfl rfl) ?_
            refine ROps.l (r := AV.b r18) rfl rfl rfl (LOp.move rfl rfl) ?_
            refine ROps.l (r := AV.b r8) rfl rfl rfl (LOp.move rfl rfl) ?_
            refine ROps.l (r := AV.b false) rfl rfl rfl (LOp.eqb (LOp.neqb pun4 rfl rfl rfl) hc12) ?_
            refine ROps.l (r := AV.b false) rfl rfl rfl (LOp.pick_false rfl rfl rfl) ?_
            refine ROps.nil ?_
            refine RunC.cond_false rfl rfl ?_
            refine RunC.skip ?_
            refine RunC.seq ?_
            refine RunC.seq ?_
            obtain ⟨r24, r25, r26, hf13, h⟩ := obind3_some h
            obtain ⟨r27, hf14, h⟩ := obind_some h
            rcases bsel_some h with ⟨hc15, h⟩ | ⟨hc15, h⟩
            · refine RunC.region_draw (Γ' := [⟨2, some (r14.map AV.f32)⟩, ⟨1, some (r9.map AV.f32)⟩, ⟨1, some (r10.map AV.i64)⟩, ⟨1, some (r11.map AV.i64)⟩, ⟨1, some [AV.i64 r5, AV.i64 r6, AV.oref 1 1 0 r9.length, AV.oref 2 1 0 r10.length]⟩, ⟨1, some [AV.i64 r12, AV.i64 r13, AV.oref 0 2 0 r14.length]⟩, ⟨1, some (r19.map AV.f32)⟩, ⟨1, some (r20.map AV.i64)⟩, ⟨1, some (r21.map AV.i64)⟩, ⟨1, some [AV.i64 r15, AV.i64 r16, AV.oref 6 1 0 r19.length, AV.oref 7 1 0 r20.length]⟩, ⟨0, none⟩, ⟨0, none⟩, ⟨0, none⟩]) 5 mixed 
                (TR.d (r := AV.agg [AV.i64 r12, AV.i64 r13, AV.oref 0 2 0 r14.length]) (fs := []) rfl rfl (TOp.loadAgg_o rfl agg27 siz27 rfl rfl rfl rfl) <|
                (TR.l (r := AV.agg [AV.i64 a0, AV.i64 a1, AV.sl a2.length (a2.map AV.f32)]) rfl rfl (LOp.loadAgg agg24 siz24 rfl rfl rfl rfl) <|
                (TR.d (r := AV.agg [AV.i64 r24, AV.i64 r25, AV.sl r26.length (r26.map AV.f32)]) (fs := []) rfl rfl (TOp.callS (CallAs.func ent11 rfl rfl) (ALes.cons (ALe.refl _) ALes.nil) (lts_cons (lt_agg (lts_cons rfl (lts_cons rfl (lts_cons (lt_sl (fun _ => rfl)) lts_nil)))) lts_nil) (lt_agg (lts_cons rfl (lts_cons rfl (lts_cons (lt_sl (fun _ => rfl)) lts_nil)))) (w_toMatrix_ok a0 a1 a2 r24 r25 r26 hf13) (Bor.agg (Bors.cons (Bor.pure rfl) (Bors.cons (Bor.pure rfl) (Bors.cons (Bor.own (f := AV.f32) (fun _ => rfl) rfl rfl) Bors.nil))))) <|
                (TR.d (r := AV.b true) (fs := []) rfl rfl (TOp.eqb (TOp.callB (CallAs.func ent13 rfl rfl) (Bors.cons (Bor.agg (Bors.cons (Bor.pure rfl) (Bors.cons (Bor.pure rfl) (Bors.cons (Bor.own (f := AV.f32) (fun _ => rfl) rfl rfl) Bors.nil)))) (Bors.cons (Bor.agg (Bors.cons (Bor.pure rfl) (Bors.cons (Bor.pure rfl) (Bors.cons (Bor.sl (fun _ => rfl)) Bors.nil)))) Bors.nil)) rfl rfl (w_eqMatrix_ok r12 r13 r14 r24 r25 r26 r27 hf14)) hc15) <|
                (TR.l (r := AV.b false) rfl rfl (LOp.eqb (LOp.not rfl rfl) rfl) <|
                TR.nil))))) rfl (by kernel_rfl) rfl fills_nil rfl ?_
              iterate 5 refine ROps.dropS ?_
              refine ROps.drop0 ?_
              refine ROps.nil ?_
              refine RunC.cond_false rfl rfl ?_
              refine RunC.skip ?_
              refine RunC.seq ?_
              refine RunC.regionW ?_
              refine ROps.l (r := AV.i64 1) rfl rfl rfl (LOp.assign rfl rfl) ?_
              refine ROps.nil ?_
              refine RunC.seq ?_
              obtain ⟨r28, r29, hf16, h⟩ := obind2_some h
              obtain ⟨hn17, h⟩ := need_some h
              refine RunC.regionW ?_
              refine ROps.d (r := AV.agg [AV.i64 r12, AV.i64 r13, AV.oref 0 2 0 r14.length]) (fs := []) (Γ' := [⟨2, some (r14.map AV.f32)⟩, ⟨1, some (r9.map AV.f32)⟩, ⟨1, some (r10.map AV.i64)⟩, ⟨1, some (r11.map AV.i64)⟩, ⟨1, some [AV.i64 r5, AV.i64 r6, AV.oref 1 1 0 r9.length, AV.oref 2 1 0 r10.length]⟩, ⟨1, some [AV.i64 r12, AV.i64 r13, AV.oref 0 2 0 r14.length]⟩, ⟨1, some (r19.map AV.f32)⟩, ⟨1, some (r20.map AV.i64)⟩, ⟨1, some (r21.map AV.i64)⟩, ⟨1, some [AV.i64 r15, AV.i64 r16, AV.oref 6 1 0 r19.length, AV.oref 7 1 0 r20.length]⟩, ⟨0, none⟩, ⟨0, none⟩, ⟨0, none⟩]) rfl rfl rfl (TOp.loadAgg_o rfl agg27 siz27 rfl rfl rfl rfl) rfl ?_
              refine ROps.l (r := AV.i64 1) rfl rfl rfl (LOp.move rfl rfl) ?_
              refine ROps.callO (A := [AV.agg [AV.i64 r12, AV.i64 r13, AV.oref 0 2 0 r14.length], AV.i64 1]) (args := [AV.agg [AV.i64 r12, AV.i64 r13, AV.oref 0 0 0 r14.length], AV.i64 1]) (Γc := [⟨0, some (r14.map AV.f32)⟩]) (Γc' := [⟨0, some (r29.map AV.f32)⟩]) (r' := AV.i64 r28) (Γ' := [⟨2, some (r29.map AV.f32)⟩, ⟨1, some (r9.map AV.f32)⟩, ⟨1, some (r10.map AV.i64)⟩, ⟨1, some (r11.map AV.i64)⟩, ⟨1, some [AV.i64 r5, AV.i64 r6, AV.oref 1 1 0 r9.length, AV.oref 2 1 0 r10.length]⟩, ⟨1, some [AV.i64 r12, AV.i64 r13, AV.oref 0 2 0 r14.length]⟩, ⟨1, some (r19.map AV.f32)⟩, ⟨1, some (r20.map AV.i64)⟩, ⟨1, some (r21.map AV.i64)⟩, ⟨1, some [AV.i64 r15, AV.i64 r16, AV.oref 6 1 0 r19.length, AV.oref 7 1 0 r20.length]⟩, ⟨0, none⟩, ⟨0, none⟩, ⟨0, none⟩]) [(0, 2)] [] rfl (CallAs.func ent15 rfl rfl) rfl rfl (SelOk.of (show List.Nodup [0] from by decide) (SelL.arr0 (f := AV.f32) (fun _ => rfl) rfl trivial)) (live_of ⟨⟨_, _, rfl⟩, trivial⟩) (by simp [AV.ren, AV.rens, sigma, rens_f32, rens_f64, rens_i64, rens_ik, rens_str, rens_cp]) rfl (w_markMatrix_02o_ok r12 r13 1 r14 r28 r29 hf16) rfl (news_of trivial) (show List.Nodup [0] from by decide) (by simp [AV.ren, AV.rens, sigma, of_decide_eq_true hn17]) (by simp [backOb, sigma, AV.ren, AV.rens, rens_f32, rens_f64, rens_i64, rens_ik, rens_str, rens_cp]) ?_
              refine ROps.l (r := AV.i64 r28) rfl rfl rfl (LOp.assign rfl rfl) ?_
              refine ROps.nil ?_
              refine RunC.wl (τ' := [(1, AV.f32 a3), (2, AV.ptr [AV.i64 a0, AV.i64 a1, AV.sl a2.length (a2.map AV.f32)]), (6, AV.optr 4 1 0), (7, AV.oref 3 1 0 r11.length), (8, AV.i64 r7), (9, AV.b r8), (11, AV.optr 9 1 0), (12, AV.oref 8 1 0 r21.length), (13, AV.i64 r17), (14, AV.b r18), (15, AV.i64 r28)]) (Γ' := [⟨2, none⟩, ⟨1, some (r9.map AV.f32)⟩, ⟨1, some (r10.map AV.i64)⟩, ⟨1, some (r11.map AV.i64)⟩, ⟨1, some [AV.i64 r5, AV.i64 r6, AV.oref 1 1 0 r9.length, AV.oref 2 1 0 r10.length]⟩, ⟨1, none⟩, ⟨1, some (r19.map AV.f32)⟩, ⟨1, some (r20.map AV.i64)⟩, ⟨1, some (r21.map AV.i64)⟩, ⟨1, some [AV.i64 r15, AV.i64 r16, AV.oref 6 1 0 r19.length, AV.oref 7 1 0 r20.length]⟩, ⟨0, none⟩, ⟨0, none⟩, ⟨0, none⟩]) ⟨(ALe.refl _), (ALe.refl _), (ALe.refl _), (ALe.refl _), (ALe.refl _), (ALe.refl _), (ALe.refl _), (ALe.refl _), (ALe.refl _), (ALe.refl _), (ALe.refl _), trivial⟩ ⟨⟨rfl, .inl rfl⟩, ⟨rfl, .inr rfl⟩, ⟨rfl, .inr rfl⟩, ⟨rfl, .inr rfl⟩, ⟨rfl, .inr rfl⟩, ⟨rfl, .inl rfl⟩, ⟨rfl, .inr rfl⟩, ⟨rfl, .inr rfl⟩, ⟨rfl, .inr rfl⟩, ⟨rfl, .inr rfl⟩, ⟨rfl, .inr rfl⟩, ⟨rfl, .inr rfl⟩, ⟨rfl, .inr rfl⟩, trivial⟩ ?_
              refine RunC.seq ?_
              refine RunC.seq ?_
              rcases bsel_some h with ⟨hc18, h⟩ | ⟨hc18, h⟩
              · refine RunC.regionW ?_
                refine ROps.l (r := AV.i64 r28) rfl rfl rfl (LOp.move rfl rfl) ?_
                refine ROps.l (r := AV.b true) rfl rfl rfl (LOp.eqb (LOp.lss rfl rfl rfl) hc18) ?_
                refine ROps.l (r := AV.b true) rfl rfl rfl (LOp.move rfl rfl) ?_
                refine ROps.s rfl rfl rfl ?_
                refine ROps.s rfl rfl rfl ?_
                refine ROps.s rfl rfl rfl ?_
                refine ROps.s rfl rfl rfl ?_
                refine ROps.l (r := AV.b true) rfl rfl rfl (LOp.pick_true rfl rfl rfl) ?_
                refine ROps.l (r := AV.b true) rfl rfl rfl (LOp.move rfl rfl) ?_
                refine ROps.s rfl rfl rfl ?_
                refine ROps.s rfl rfl rfl ?_
                refine ROps.s rfl rfl rfl ?_
                refine ROps.s rfl rfl rfl ?_
                refine ROps.l (r := AV.b true) rfl rfl rfl (LOp.pick_true rfl rfl rfl) ?_
                refine ROps.l (r := AV.b true) rfl rfl rfl (LOp.move rfl rfl) ?_
                refine ROps.s rfl rfl rfl ?_
                refine ROps.s rfl rfl rfl ?_
                refine ROps.s rfl rfl rfl ?_
                refine ROps.l (r := AV.b true) rfl rfl rfl (LOp.pick_true rfl rfl rfl) ?_
                refine ROps.l (r := AV.b true) rfl rfl rfl (LOp.move rfl rfl) ?_
                refine ROps.s rfl rfl rfl ?_
                refine ROps.s rfl rfl rfl ?_
                refine ROps.s rfl rfl rfl ?_
                refine ROps.l (r := AV.b true) rfl rfl rfl (LOp.pick_true rfl rfl rfl) ?_
                refine ROps.nil ?_
                refine RunC.wl (τ' := [(1, AV.f32 a3), (2, AV.ptr [AV.i64 a0, AV.i64 a1, AV.sl a2.length (a2.map AV.f32)]), (6, AV.optr 4 1 0), (7, AV.oref 3 1 0 r11.length), (8, AV.i64 r7), (9, AV.b r8), (11, AV.optr 9 1 0), (12, AV.oref 8 1 0 r21.length), (97, AV.b true)]) (Γ' := [⟨2, none⟩, ⟨1, some (r9.map AV.f32)⟩, ⟨1, some (r10.map AV.i64)⟩, ⟨1, some (r11.map AV.i64)⟩, ⟨1, some [AV.i64 r5, AV.i64 r6, AV.oref 1 1 0 r9.length, AV.oref 2 1 0 r10.length]⟩, ⟨1, none⟩, ⟨1, some (r19.map AV.f32)⟩, ⟨1, some (r20.map AV.i64)⟩, ⟨1, some (r21.map AV.i64)⟩, ⟨1, some [AV.i64 r15, AV.i64 r16, AV.oref 6 1 0 r19.length, AV.oref 7 1 0 r20.length]⟩, ⟨0, none⟩, ⟨0, none⟩, ⟨0, none⟩]) ⟨(ALe.refl _), (ALe.refl _), (ALe.refl _), (ALe.refl _), (ALe.refl _), (ALe.refl _), (ALe.refl _), (ALe.refl _), (ALe.refl _), trivial⟩ ⟨⟨rfl, .inl rfl⟩, ⟨rfl, .inr rfl⟩, ⟨rfl, .inr rfl⟩, ⟨rfl, .inr rfl⟩, ⟨rfl, .inr rfl⟩, ⟨rfl, .inl rfl⟩, ⟨rfl, .inr rfl⟩, ⟨rfl, .inr rfl⟩, ⟨rfl, .inr rfl⟩, ⟨rfl, .inr rfl⟩, ⟨rfl, .inr rfl⟩, ⟨rfl, .inr rfl⟩, ⟨rfl, .inr rfl⟩, trivial⟩ ?_
                refine RunC.cond_true rfl rfl ?_
                refine RunC.seq ?_
                refine RunC.regionW ?_
                refine ROps.l (r := AV.b false) rfl rfl rfl (LOp.assign rfl rfl) ?_
                refine ROps.nil ?_
                refine RunC.ret ?_
                have hq := Option.some.inj h
                subst q0
                exact bodyQ.pure (.inr rfl) rfl (Res.one rfl (RV.tmp rfl))
              · obtain ⟨r30, hf19, h⟩ := obind_some h
                rcases bsel_some h with ⟨hc20, h⟩ | ⟨hc20, h⟩
                · obtain ⟨r31, hf21, h⟩ := obind_some h
                  rcases bsel_some h with ⟨hc22, h⟩ | ⟨hc22, h⟩
                  · refine RunC.regionW ?_
                    refine ROps.l (r := AV.i64 r28) rfl rfl rfl (LOp.move rfl rfl) ?_
                    refine ROps.l (r := AV.b false) rfl rfl rfl (LOp.eqb (LOp.lss rfl rfl rfl) hc18) ?_
                    refine ROps.l (r := AV.b false) rfl rfl rfl (LOp.move rfl rfl) ?_
                    refine ROps.d (r := AV.agg [AV.i64 r15, AV.i64 r16, AV.oref 6 1 0 r19.length, AV.oref 7 1 0 r20.length]) (fs := []) (Γ' := [⟨2, none⟩, ⟨1, some (r9.map AV.f32)⟩, ⟨1, some (r10.map AV.i64)⟩, ⟨1, some (r11.map AV.i64)⟩, ⟨1, some [AV.i64 r5, AV.i64 r6, AV.oref 1 1 0 r9.length, AV.oref 2 1 0 r10.length]⟩, ⟨1, none⟩, ⟨1, some (r19.map AV.f32)⟩, ⟨1, some (r20.map AV.i64)⟩, ⟨1, some (r21.map AV.i64)⟩, ⟨1, some [AV.i64 r15, AV.i64 r16, AV.oref 6 1 0 r19.length, AV.oref 7 1 0 r20.length]⟩, ⟨0, none⟩, ⟨0, none⟩, ⟨0, none⟩]) rfl rfl rfl (TOp.loadAgg_o rfl agg48 siz48 rfl rfl rfl rfl) rfl ?_
                    refine ROps.d (r := AV.agg [AV.i64 r5, AV.i64 r6, AV.oref 1 1 0 r9.length, AV.oref 2 1 0 r10.length]) (fs := []) (Γ' := [⟨2, none⟩, ⟨1, some (r9.map AV.f32)⟩, ⟨1, some (r10.map AV.i64)⟩, ⟨1, some (r11.map AV.i64)⟩, ⟨1, some [AV.i64 r5, AV.i64 r6, AV.oref 1 1 0 r9.length, AV.oref 2 1 0 r10.length]⟩, ⟨1, none⟩, ⟨1, some (r19.map AV.f32)⟩, ⟨1, some (r20.map AV.i64)⟩, ⟨1, some (r21.map AV.i64)⟩, ⟨1, some [AV.i64 r15, AV.i64 r16, AV.oref 6 1 0 r19.length, AV.oref 7 1 0 r20.length]⟩, ⟨0, none⟩, ⟨0, none⟩, ⟨0, none⟩]) rfl rfl rfl (TOp.loadAgg_o rfl agg48 siz48 rfl rfl rfl rfl) rfl ?_
                    refine ROps.d (r := AV.b true) (fs := []) (Γ' := [⟨2, none⟩, ⟨1, some (r9.map AV.f32)⟩, ⟨1, some (r10.map AV.i64)⟩, ⟨1, some (r11.map AV.i64)⟩, ⟨1, some [AV.i64 r5, AV.i64 r6, AV.oref 1 1 0 r9.length, AV.oref 2 1 0 r10.length]⟩, ⟨1, none⟩, ⟨1, some (r19.map AV.f32)⟩, ⟨1, some (r20.map AV.i64)⟩, ⟨1, some (r21.map AV.i64)⟩, ⟨1, some [AV.i64 r15, AV.i64 r16, AV.oref 6 1 0 r19.length, AV.oref 7 1 0 r20.length]⟩, ⟨0, none⟩, ⟨0, none⟩, ⟨0, none⟩]) rfl rfl rfl (TOp.eqb (TOp.callB (CallAs.func ent29 rfl rfl) (Bors.cons (Bor.agg (Bors.cons (Bor.pure rfl) (Bors.cons (Bor.pure rfl) (Bors.cons (Bor.own (f := AV.f32) (fun _ => rfl) rfl rfl) (Bors.cons (Bor.own (f := AV.i64) (fun _ => rfl) rfl rfl) Bors.nil))))) (Bors.cons (Bor.agg (Bors.cons (Bor.pure rfl) (Bors.cons (Bor.pure rfl) (Bors.cons (Bor.own (f := AV.f32) (fun _ => rfl) rfl rfl) (Bors.cons (Bor.own (f := AV.i64) (fun _ => rfl) rfl rfl) Bors.nil))))) Bors.nil)) rfl rfl (w_eqFactor_ok r15 r16 r19 r20 r5 r6 r9 r10 r30 hf19)) hc20) rfl ?_
                    refine ROps.l (r := AV.b false) rfl rfl rfl (LOp.eqb (LOp.not rfl rfl) rfl) ?_
                    refine ROps.l (r := AV.b false) rfl rfl rfl (LOp.pick_false rfl rfl rfl) ?_
                    refine ROps.l (r := AV.b false) rfl rfl rfl (LOp.move rfl rfl) ?_
                    refine ROps.l (r := AV.oref 8 1 0 r21.length) rfl rfl rfl (LOp.move rfl rfl) ?_
                    refine ROps.l (r := AV.oref 3 1 0 r11.length) rfl rfl rfl (LOp.move rfl rfl) ?_
                    refine ROps.d (r := AV.b true) (fs := []) (Γ' := [⟨2, none⟩, ⟨1, some (r9.map AV.f32)⟩, ⟨1, some (r10.map AV.i64)⟩, ⟨1, some (r11.map AV.i64)⟩, ⟨1, some [AV.i64 r5, AV.i64 r6, AV.oref 1 1 0 r9.length, AV.oref 2 1 0 r10.length]⟩, ⟨1, none⟩, ⟨1, some (r19.map AV.f32)⟩, ⟨1, some (r20.map AV.i64)⟩, ⟨1, some (r21.map AV.i64)⟩, ⟨1, some [AV.i64 r15, AV.i64 r16, AV.oref 6 1 0 r19.length, AV.oref 7 1 0 r20.length]⟩, ⟨0, none⟩, ⟨0, none⟩, ⟨0, none⟩]) rfl rfl rfl (TOp.eqb (TOp.callB (CallAs.func ent14 rfl rfl) (Bors.cons (Bor.own (f := AV.i64) (fun _ => rfl) rfl rfl) (Bors.cons (Bor.own (f := AV.i64) (fun _ => rfl) rfl rfl) Bors.nil)) rfl rfl (w_eqInt64S_ok r21 r11 r31 hf21)) hc22) rfl ?_
                    refine ROps.l (r := AV.b false) rfl rfl rfl (LOp.eqb (LOp.not rfl rfl) rfl) ?_
                    refine ROps.l (r := AV.b false) rfl rfl rfl (LOp.pick_false rfl rfl rfl) ?_
                    refine ROps.l (r := AV.b false) rfl rfl rfl (LOp.move rfl rfl) ?_
                    refine ROps.l (r := AV.i64 r17) rfl rfl rfl (LOp.move rfl rfl) ?_
                    refine ROps.l (r := AV.i64 r7) rfl rfl rfl (LOp.move rfl rfl) ?_
                    refine ROps.l (r := AV.b false) rfl rfl rfl (LOp.eqb (LOp.neq rfl rfl rfl) hc11) ?_
                    refine ROps.l (r := AV.b false) rfl rfl rfl (LOp.pick_false rfl rfl rfl) ?_
                    refine ROps.l (r := AV.b false) rfl rfl rfl (LOp.move rfl rfl) ?_
                    refine ROps.l (r := AV.b r18) rfl rfl rfl (LOp.move rfl rfl) ?_
                    refine ROps.l (r := AV.b r8) rfl rfl rfl (LOp.move rfl rfl) ?_
                    refine ROps.l (r := AV.b false) rfl rfl rfl (LOp.eqb (LOp.neqb pun4 rfl rfl rfl) hc12) ?_
                    refine ROps.l (r := AV.b false) rfl rfl rfl (LOp.pick_false rfl rfl rfl) ?_
                    refine ROps.nil ?_
                    refine RunC.wl (τ' := [(1, AV.f32 a3), (2, AV.ptr [AV.i64 a0, AV.i64 a1, AV.sl a2.length (a2.map AV.f32)]), (6, AV.optr 4 1 0), (7, AV.oref 3 1 0 r11.length), (8, AV.i64 r7), (9, AV.b r8), (11, AV.optr 9 1 0), (12, AV.oref 8 1 0 r21.length), (97, AV.b false)]) (Γ' := [⟨2, none⟩, ⟨1, some (r9.map AV.f32)⟩, ⟨1, some (r10.map AV.i64)⟩, ⟨1, some (r11.map AV.i64)⟩, ⟨1, some [AV.i64 r5, AV.i64 r6, AV.oref 1 1 0 r9.length, AV.oref 2 1 0 r10.length]⟩, ⟨1, none⟩, ⟨1, some (r19.map AV.f32)⟩, ⟨1, some (r20.map AV.i64)⟩, ⟨1, some (r21.map AV.i64)⟩, ⟨1, some [AV.i64 r15, AV.i64 r16, AV.oref 6 1 0 r19.length, AV.oref 7 1 0 r20.length]⟩, ⟨0, none⟩, ⟨0, none⟩, ⟨0, none⟩]) ⟨(ALe.refl _), (ALe.refl _), (ALe.refl _), (ALe.refl _), (ALe.refl _), (ALe.refl _), (ALe.refl _), (ALe.refl _), (ALe.refl _), trivial⟩ ⟨⟨rfl, .inl rfl⟩, ⟨rfl, .inr rfl⟩, ⟨rfl, .inr rfl⟩, ⟨rfl, .inr rfl⟩, ⟨rfl, .inr rfl⟩, ⟨rfl, .inl rfl⟩, ⟨rfl, .inr rfl⟩, ⟨rfl, .inr rfl⟩, ⟨rfl, .inr rfl⟩, ⟨rfl, .inr rfl⟩, ⟨rfl, .inr rfl⟩, ⟨rfl, .inr rfl⟩, ⟨rfl, .inr rfl⟩, trivial⟩ ?_
                    refine RunC.cond_false rfl rfl ?_
                    refine RunC.skip ?_
                    refine RunC.seq ?_
                    refine RunC.regionW ?_
                    refine ROps.l (r := AV.i64 1) rfl rfl rfl (LOp.assign rfl rfl) ?_
                    refine ROps.nil ?_
                    refine RunC.seq ?_
                    obtain ⟨r32, r33, r34, hf23, h⟩ := obind3_some h
                    obtain ⟨hn24, h⟩ := need_some h
                    obtain ⟨hn25, h⟩ := need_some h
                    refine RunC.regionW ?_
                    refine ROps.d (r := AV.agg [AV.i64 r15, AV.i64 r16, AV.oref 6 1 0 r19.length, AV.oref 7 1 0 r20.length]) (fs := []) (Γ' := [⟨2, none⟩, ⟨1, some (r9.map AV.f32)⟩, ⟨1, some (r10.map AV.i64)⟩, ⟨1, some (r11.map AV.i64)⟩, ⟨1, some [AV.i64 r5, AV.i64 r6, AV.oref 1 1 0 r9.length, AV.oref 2 1 0 r10.length]⟩, ⟨1, none⟩, ⟨1, some (r19.map AV.f32)⟩, ⟨1, some (r20.map AV.i64)⟩, ⟨1, some (r21.map AV.i64)⟩, ⟨1, some [AV.i64 r15, AV.i64 r16, AV.oref 6 1 0 r19.length, AV.oref 7 1 0 r20.length]⟩, ⟨0, none⟩, ⟨0, none⟩, ⟨0, none⟩]) rfl rfl rfl (TOp.loadAgg_o rfl agg48 siz48 rfl rfl rfl rfl) rfl ?_
                    refine ROps.l (r := AV.i64 1) rfl rfl rfl (LOp.move rfl rfl) ?_
                    refine ROps.callO (A := [AV.agg [AV.i64 r15, AV.i64 r16, AV.oref 6 1 0 r19.length, AV.oref 7 1 0 r20.length], AV.i64 1]) (args := [AV.agg [AV.i64 r15, AV.i64 r16, AV.oref 0 0 0 r19.length, AV.oref 1 0 0 r20.length], AV.i64 1]) (Γc := [⟨0, some (r19.map AV.f32)⟩, ⟨0, some (r20.map AV.i64)⟩]) (Γc' := [⟨0, some (r33.map AV.f32)⟩, ⟨0, some (r34.map AV.i64)⟩]) (r' := AV.i64 r32) (Γ' := [⟨2, none⟩, ⟨1, some (r9.map AV.f32)⟩, ⟨1, some (r10.map AV.i64)⟩, ⟨1, some (r11.map AV.i64)⟩, ⟨1, some [AV.i64 r5, AV.i64 r6, AV.oref 1 1 0 r9.length, AV.oref 2 1 0 r10.length]⟩, ⟨1, none⟩, ⟨1, some (r33.map AV.f32)⟩, ⟨1, some (r34.map AV.i64)⟩, ⟨1, some (r21.map AV.i64)⟩, ⟨1, some [AV.i64 r15, AV.i64 r16, AV.oref 6 1 0 r19.length, AV.oref 7 1 0 r20.length]⟩, ⟨0, none⟩, ⟨0, none⟩, ⟨0, none⟩]) [(6, 1), (7, 1)] [] rfl (CallAs.func ent30 rfl rfl) rfl rfl (SelOk.of (show List.Nodup [6, 7] from by decide) (SelL.arr0 (f := AV.f32) (fun _ => rfl) rfl (SelL.arr0 (f := AV.i64) (fun _ => rfl) rfl trivial))) (live_of ⟨⟨_, _, rfl⟩, ⟨_, _, rfl⟩, trivial⟩) (by simp [AV.ren, AV.rens, sigma, rens_f32, rens_f64, rens_i64, rens_ik, rens_str, rens_cp]) rfl (w_markFactor_02o_03o1_ok r15 r16 1 r19 r20 r32 r33 r34 hf23) rfl (news_of trivial) (show List.Nodup [6, 7] from by decide) (by simp [AV.ren, AV.rens, sigma, of_decide_eq_true hn24, of_decide_eq_true hn25]) (by simp [backOb, sigma, AV.ren, AV.rens, rens_f32, rens_f64, rens_i64, rens_ik, rens_str, rens_cp]) ?_
                    refine ROps.l (r := AV.i64 r32) rfl rfl rfl (LOp.assign rfl rfl) ?_
                    refine ROps.nil ?_
                    refine RunC.seq ?_
                    obtain ⟨r35, r36, hf26, h⟩ := obind2_some h
                    obtain ⟨hn27, h⟩ := need_some h
                    refine RunC.regionW ?_
                    refine ROps.l (r := AV.oref 8 1 0 r21.length) rfl rfl rfl (LOp.move rfl rfl) ?_
                    refine ROps.l (r := AV.i64 r32) rfl rfl rfl (LOp.move rfl rfl) ?_
                    refine ROps.callO (A := [AV.oref 8 1 0 r21.length, AV.i64 r32]) (args := [AV.oref 0 0 0 r21.length, AV.i64 r32]) (Γc := [⟨0, some (r21.map AV.i64)⟩]) (Γc' := [⟨0, some (r36.map AV.i64)⟩]) (r' := AV.i64 r35) (Γ' := [⟨2, none⟩, ⟨1, some (r9.map AV.f32)⟩, ⟨1, some (r10.map AV.i64)⟩, ⟨1, some (r11.map AV.i64)⟩, ⟨1, some [AV.i64 r5, AV.i64 r6, AV.oref 1 1 0 r9.length, AV.oref 2 1 0 r10.length]⟩, ⟨1, none⟩, ⟨1, some (r33.map AV.f32)⟩, ⟨1, some (r34.map AV.i64)⟩, ⟨1, some (r36.map AV.i64)⟩, ⟨1, some [AV.i64 r15, AV.i64 r16, AV.oref 6 1 0 r19.length, AV.oref 7 1 0 r20.length]⟩, ⟨0, none⟩, ⟨0, none⟩, ⟨0, none⟩]) [(8, 1)] [] rfl (CallAs.func ent16 rfl rfl) rfl rfl (SelOk.of (show List.Nodup [8] from by decide) (SelL.arr0 (f := AV.i64) (fun _ => rfl) rfl trivial)) (live_of ⟨⟨_, _, rfl⟩, trivial⟩) (by simp [AV.ren, AV.rens, sigma, rens_f32, rens_f64, rens_i64, rens_ik, rens_str, rens_cp]) rfl (w_markInt64S_0o_ok r32 r21 r35 r36 hf26) rfl (news_of trivial) (show List.Nodup [8] from by decide) (by simp [AV.ren, AV.rens, sigma, of_decide_eq_true hn27]) (by simp [backOb, sigma, AV.ren, AV.rens, rens_f32, rens_f64, rens_i64, rens_ik, rens_str, rens_cp]) ?_
                    refine ROps.l (r := AV.i64 r35) rfl rfl rfl (LOp.assign rfl rfl) ?_
                    refine ROps.nil ?_
                    refine RunC.seq ?_
                    refine RunC.regionW ?_
                    refine ROps.l (r := AV.i64 1) rfl rfl rfl (LOp.assign rfl rfl) ?_
                    refine ROps.nil ?_
                    refine RunC.seq ?_
                    obtain ⟨r37, hf28, h⟩ := obind_some h
                    refine RunC.regionW ?_
                    refine ROps.d (r := AV.agg [AV.i64 r15, AV.i64 r16, AV.oref 6 1 0 r19.length, AV.oref 7 1 0 r20.length]) (fs := []) (Γ' := [⟨2, none⟩, ⟨1, some (r9.map AV.f32)⟩, ⟨1, some (r10.map AV.i64)⟩, ⟨1, some (r11.map AV.i64)⟩, ⟨1, some [AV.i64 r5, AV.i64 r6, AV.oref 1 1 0 r9.length, AV.oref 2 1 0 r10.length]⟩, ⟨1, none⟩, ⟨1, some (r33.map AV.f32)⟩, ⟨1, some (r34.map AV.i64)⟩, ⟨1, some (r36.map AV.i64)⟩, ⟨1, some [AV.i64 r15, AV.i64 r16, AV.oref 6 1 0 r19.length, AV.oref 7 1 0 r20.length]⟩, ⟨0, none⟩, ⟨0, none⟩, ⟨0, none⟩]) rfl rfl rfl (TOp.loadAgg_o rfl agg48 siz48 rfl rfl rfl rfl) rfl ?_
                    refine ROps.l (r := AV.i64 1) rfl rfl rfl (LOp.move rfl rfl) ?_
                    refine ROps.d (r := AV.i64 r37) (fs := []) (Γ' := [⟨2, none⟩, ⟨1, some (r9.map AV.f32)⟩, ⟨1, some (r10.map AV.i64)⟩, ⟨1, some (r11.map AV.i64)⟩, ⟨1, some [AV.i64 r5, AV.i64 r6, AV.oref 1 1 0 r9.length, AV.oref 2 1 0 r10.length]⟩, ⟨1, none⟩, ⟨1, some (r33.map AV.f32)⟩, ⟨1, some (r34.map AV.i64)⟩, ⟨1, some (r36.map AV.i64)⟩, ⟨1, some [AV.i64 r15, AV.i64 r16, AV.oref 6 1 0 r19.length, AV.oref 7 1 0 r20.length]⟩, ⟨0, none⟩, ⟨0, none⟩, ⟨0, none⟩]) rfl rfl rfl (TOp.callB (CallAs.func ent31 rfl rfl) (Bors.cons (Bor.agg (Bors.cons (Bor.pure rfl) (Bors.cons (Bor.pure rfl) (Bors.cons (Bor.own (f := AV.f32) (fun _ => rfl) rfl (of_decide_eq_true hn24)) (Bors.cons (Bor.own (f := AV.i64) (fun _ => rfl) rfl (of_decide_eq_true hn25)) Bors.nil))))) (Bors.cons (Bor.pure rfl) Bors.nil)) rfl rfl (w_heldFactor_ok r15 r16 r33 r34 1 r37 hf28)) rfl ?_
                    refine ROps.l (r := AV.i64 r37) rfl rfl rfl (LOp.assign rfl rfl) ?_
                    refine ROps.nil ?_
                    refine RunC.seq ?_
                    refine RunC.seq ?_
                    rcases bsel_some h with ⟨hc29, h⟩ | ⟨hc29, h⟩
                    · refine RunC.regionW ?_
                      refine ROps.l (r := AV.i64 r37) rfl rfl rfl (LOp.move rfl rfl) ?_
                      refine ROps.l (r := AV.b true) rfl rfl rfl (LOp.eqb (LOp.lss rfl rfl rfl) hc29) ?_
                      refine ROps.nil ?_
                      refine RunC.cond_true rfl rfl ?_
                      refine RunC.seq ?_
                      refine RunC.regionW ?_
                      refine ROps.l (r := AV.b false) rfl rfl rfl (LOp.assign rfl rfl) ?_
                      refine ROps.nil ?_
                      refine RunC.ret ?_
                      have hq := Option.some.inj h
                      subst q0
                      exact bodyQ.pure (.inr rfl) rfl (Res.one rfl (RV.tmp rfl))
                    · refine RunC.regionW ?_
                      refine ROps.l (r := AV.i64 r37) rfl rfl rfl (LOp.move rfl rfl) ?_
                      refine ROps.l (r := AV.b false) rfl rfl rfl (LOp.eqb (LOp.lss rfl rfl rfl) hc29) ?_
                      refine ROps.nil ?_
                      refine RunC.cond_false rfl rfl ?_
                      refine RunC.skip ?_
                      refine RunC.seq ?_
                      obtain ⟨r38, hf30, h⟩ := obind_some h
                      refine RunC.regionW ?_
                      refine ROps.l (r := AV.oref 8 1 0 r21.length) rfl rfl rfl (LOp.move rfl rfl) ?_
                      refine ROps.l (r := AV.i64 r37) rfl rfl rfl (LOp.move rfl rfl) ?_
                      refine ROps.d (r := AV.i64 r38) (fs := []) (Γ' := [⟨2, none⟩, ⟨1, some (r9.map AV.f32)⟩, ⟨1, some (r10.map AV.i64)⟩, ⟨1, some (r11.map AV.i64)⟩, ⟨1, some [AV.i64 r5, AV.i64 r6, AV.oref 1 1 0 r9.length, AV.oref 2 1 0 r10.length]⟩, ⟨1, none⟩, ⟨1, some (r33.map AV.f32)⟩, ⟨1, some (r34.map AV.i64)⟩, ⟨1, some (r36.map AV.i64)⟩, ⟨1, some [AV.i64 r15, AV.i64 r16, AV.oref 6 1 0 r19.length, AV.oref 7 1 0 r20.length]⟩, ⟨0, none⟩, ⟨0, none⟩, ⟨0, none⟩]) rfl rfl rfl (TOp.callB (CallAs.func ent18 rfl rfl) (Bors.cons (Bor.own (f := AV.i64) (fun _ => rfl) rfl (of_decide_eq_true hn27)) (Bors.cons (Bor.pure rfl) Bors.nil)) rfl rfl (w_heldInt64S_ok r36 r37 r38 hf30)) rfl ?_
                      refine ROps.l (r := AV.i64 r38) rfl rfl rfl (LOp.assign rfl rfl) ?_
                      refine ROps.nil ?_
                      refine RunC.seq ?_
                      refine RunC.seq ?_
                      rcases bsel_some h with ⟨hc31, h⟩ | ⟨hc31, h⟩
                      · refine RunC.regionW ?_
                        refine ROps.l (r := AV.i64 r38) rfl rfl rfl (LOp.move rfl rfl) ?_
                        refine ROps.l (r := AV.b true) rfl rfl rfl (LOp.eqb (LOp.lss rfl rfl rfl) hc31) ?_
                        refine ROps.nil ?_
                        refine RunC.cond_true rfl rfl ?_
                        refine RunC.seq ?_
                        refine RunC.regionW ?_
                        refine ROps.l (r := AV.b false) rfl rfl rfl (LOp.assign rfl rfl) ?_
                        refine ROps.nil ?_
                        refine RunC.ret ?_
                        have hq := Option.some.inj h
                        subst q0
                        exact bodyQ.pure (.inr rfl) rfl (Res.one rfl (RV.tmp rfl))
                      · refine RunC.regionW ?_
                        refine ROps.l (r := AV.i64 r38) rfl rfl rfl (LOp.move rfl rfl) ?_
                        refine ROps.l (r := AV.b false) rfl rfl rfl (LOp.eqb (LOp.lss rfl rfl rfl) hc31) ?_
                        refine ROps.nil ?_
                        refine RunC.cond_false rfl rfl ?_
                        refine RunC.skip ?_
                        refine RunC.seq ?_
                        refine RunC.seq ?_
                        rcases bsel_some h with ⟨hc32, h⟩ | ⟨hc32, h⟩
                        · refine RunC.regionW ?_
                          refine ROps.l (r := AV.i64 r38) rfl rfl rfl (LOp.move rfl rfl) ?_
                          refine ROps.l (r := AV.i64 r35) rfl rfl rfl (LOp.move rfl rfl) ?_
                          refine ROps.l (r := AV.b true) rfl rfl rfl (LOp.eqb (LOp.neq rfl rfl rfl) hc32) ?_
                          refine ROps.nil ?_
                          refine RunC.cond_true rfl rfl ?_
                          refine RunC.seq ?_
                          refine RunC.regionW ?_
                          refine ROps.l (r := AV.b false) rfl rfl rfl (LOp.assign rfl rfl) ?_
                          refine ROps.nil ?_
                          refine RunC.ret ?_
                          have hq := Option.some.inj h
                          subst q0
                          exact bodyQ.pure (.inr rfl) rfl (Res.one rfl (RV.tmp rfl))
                        · refine RunC.regionW ?_
                          refine ROps.l (r := AV.i64 r38) rfl rfl rfl (LOp.move rfl rfl) ?_
                          refine ROps.l (r := AV.i64 r35) rfl rfl rfl (LOp.move rfl rfl) ?_
                          refine ROps.l (r := AV.b false) rfl rfl rfl (LOp.eqb (LOp.neq rfl rfl rfl) hc32) ?_
                          refine ROps.nil ?_
                          refine RunC.cond_false rfl rfl ?_
                          refine RunC.skip ?_
                          refine RunC.seq ?_
                          obtain ⟨r39, r40, r41, hf33, h⟩ := obind3_some h
                          obtain ⟨r42, r43, r44, r45, r46, r47, r48, hf34, h⟩ := obind7_some h
                          refine RunC.regionW ?_
                          refine ROps.l (r := AV.agg [AV.i64 a0, AV.i64 a1, AV.sl a2.length (a2.map AV.f32)]) rfl rfl rfl (LOp.loadAgg agg24 siz24 rfl rfl rfl rfl) ?_
                          refine ROps.d (r := AV.agg [AV.i64 r39, AV.i64 r40, AV.oref 0 3 0 r41.length]) (fs := [(0, (r41.map AV.f32))]) (Γ' := [⟨3, some (r41.map AV.f32)⟩, ⟨1, some (r9.map AV.f32)⟩, ⟨1, some (r10.map AV.i64)⟩, ⟨1, some (r11.map AV.i64)⟩, ⟨1, some [AV.i64 r5, AV.i64 r6, AV.oref 1 1 0 r9.length, AV.oref 2 1 0 r10.length]⟩, ⟨1, none⟩, ⟨1, some (r33.map AV.f32)⟩, ⟨1, some (r34.map AV.i64)⟩, ⟨1, some (r36.map AV.i64)⟩, ⟨1, some [AV.i64 r15, AV.i64 r16, AV.oref 6 1 0 r19.length, AV.oref 7 1 0 r20.length]⟩, ⟨0, none⟩, ⟨0, none⟩, ⟨0, none⟩]) rfl rfl rfl (TOp.callBN (ls := [(r41.map AV.f32)]) [0] (CallAs.func ent11 rfl rfl) (Bors.cons (Bor.agg (Bors.cons (Bor.pure rfl) (Bors.cons (Bor.pure rfl) (Bors.cons (Bor.sl (fun _ => rfl)) Bors.nil)))) Bors.nil) rfl (w_toMatrix_ok a0 a1 a2 r39 r40 r41 hf33) (and_all (lts0_map (f := AV.f32) (fun _ => rfl) _) rfl) (and_all (noss_map (f := AV.f32) (fun _ => rfl) _) rfl) rfl (by decide) (ns_of ⟨⟨_, rfl⟩, trivial⟩)) rfl ?_
                          refine ROps.l (r := AV.f32 a3) rfl rfl rfl (LOp.move rfl rfl) ?_
                          refine ROps.d (r := AV.tup [AV.agg [AV.i64 r42, AV.i64 r43, AV.oref 5 2 0 r46.length, AV.oref 10 1 0 r47.length], AV.oref 11 1 0 r48.length, AV.i64 r44, AV.b r45]) (fs := [(5, (r46.map AV.f32)), (10, (r47.map AV.i64)), (11, (r48.map AV.i64))]) (Γ' := [⟨3, some (r41.map AV.f32)⟩, ⟨1, some (r9.map AV.f32)⟩, ⟨1, some (r10.map AV.i64)⟩, ⟨1, some (r11.map AV.i64)⟩, ⟨1, some [AV.i64 r5, AV.i64 r6, AV.oref 1 1 0 r9.length, AV.oref 2 1 0 r10.length]⟩, ⟨2, some (r46.map AV.f32)⟩, ⟨1, some (r33.map AV.f32)⟩, ⟨1, some (r34.map AV.i64)⟩, ⟨1, some (r36.map AV.i64)⟩, ⟨1, some [AV.i64 r15, AV.i64 r16, AV.oref 6 1 0 r19.length, AV.oref 7 1 0 r20.length]⟩, ⟨1, some (r47.map AV.i64)⟩, ⟨1, some (r48.map AV.i64)⟩, ⟨0, none⟩]) rfl rfl rfl (TOp.callBN (ls := [(r46.map AV.f32), (r47.map AV.i64), (r48.map AV.i64)]) [5, 10, 11] (CallAs.func ent33 rfl rfl) (Bors.cons (Bor.agg (Bors.cons (Bor.pure rfl) (Bors.cons (Bor.pure rfl) (Bors.cons (Bor.own (f := AV.f32) (fun _ => rfl) rfl rfl) Bors.nil)))) (Bors.cons (Bor.pure rfl) Bors.nil)) rfl (i_FactorBoth_ok r39 r40 r41 a3 r42 r43 r44 r45 r46 r47 r48 hf34) (and_all (lts0_map (f := AV.f32) (fun _ => rfl) _) (and_all (lts0_map (f := AV.i64) (fun _ => rfl) _) (and_all (lts0_map (f := AV.i64) (fun _ => rfl) _) rfl))) (and_all (noss_map (f := AV.f32) (fun _ => rfl) _) (and_all (noss_map (f := AV.i64) (fun _ => rfl) _) (and_all (noss_map (f := AV.i64) (fun _ => rfl) _) rfl))) rfl (by decide) (ns_of ⟨⟨_, rfl⟩, ⟨_, rfl⟩, ⟨_, rfl⟩, trivial⟩)) rfl ?_
                          refine ROps.l (r := AV.tup [AV.agg [AV.i64 r42, AV.i64 r43, AV.oref 5 2 0 r46.length, AV.oref 10 1 0 r47.length], AV.oref 11 1 0 r48.length, AV.i64 r44, AV.b r45]) rfl rfl rfl (LOp.move rfl rfl) ?_
                          refine ROps.l (r := AV.agg [AV.i64 r42, AV.i64 r43, AV.oref 5 2 0 r46.length, AV.oref 10 1 0 r47.length]) rfl rfl rfl (LOp.extract rfl rfl rfl) ?_
                          refine ROps.l (r := AV.oref 11 1 0 r48.length) rfl rfl rfl (LOp.extract rfl rfl rfl) ?_
                          refine ROps.l (r := AV.i64 r44) rfl rfl rfl (LOp.extract rfl rfl rfl) ?_
                          refine ROps.l (r := AV.b r45) rfl rfl rfl (LOp.extract rfl rfl rfl) ?_
                          refine ROps.d (r := AV.optr 12 1 0) (fs := [(12, [AV.i64 0, AV.i64 0, AV.nilsl, AV.nilsl])]) (Γ' := [⟨3, some (r41.map AV.f32)⟩, ⟨1, some (r9.map AV.f32)⟩, ⟨1, some (r10.map AV.i64)⟩, ⟨1, some (r11.map AV.i64)⟩, ⟨1, some [AV.i64 r5, AV.i64 r6, AV.oref 1 1 0 r9.length, AV.oref 2 1 0 r10.length]⟩, ⟨2, some (r46.map AV.f32)⟩, ⟨1, some (r33.map AV.f32)⟩, ⟨1, some (r34.map AV.i64)⟩, ⟨1, some (r36.map AV.i64)⟩, ⟨1, some [AV.i64 r15, AV.i64 r16, AV.oref 6 1 0 r19.length, AV.oref 7 1 0 r20.length]⟩, ⟨1, some (r47.map AV.i64)⟩, ⟨1, some (r48.map AV.i64)⟩, ⟨1, some [AV.i64 0, AV.i64 0, AV.nilsl, AV.nilsl]⟩]) rfl rfl rfl (TOp.alloc_o (g := ⟨0, none⟩) 12 rfl zer48 zok48 rfl) rfl ?_
                          refine ROps.store_le (r := AV.agg [AV.i64 r42, AV.i64 r43, AV.oref 5 2 0 r46.length, AV.oref 10 1 0 r47.length]) (l' := [AV.i64 r42, AV.i64 r43, AV.oref 5 2 0 r46.length, AV.oref 10 1 0 r47.length]) (Γ' := [⟨3, some (r41.map AV.f32)⟩, ⟨1, some (r9.map AV.f32)⟩, ⟨1, some (r10.map AV.i64)⟩, ⟨1, some (r11.map AV.i64)⟩, ⟨1, some [AV.i64 r5, AV.i64 r6, AV.oref 1 1 0 r9.length, AV.oref 2 1 0 r10.length]⟩, ⟨2, some (r46.map AV.f32)⟩, ⟨1, some (r33.map AV.f32)⟩, ⟨1, some (r34.map AV.i64)⟩, ⟨1, some (r36.map AV.i64)⟩, ⟨1, some [AV.i64 r15, AV.i64 r16, AV.oref 6 1 0 r19.length, AV.oref 7 1 0 r20.length]⟩, ⟨1, some (r47.map AV.i64)⟩, ⟨1, some (r48.map AV.i64)⟩, ⟨1, some [AV.i64 r42, AV.i64 r43, AV.oref 5 2 0 r46.length, AV.oref 10 1 0 r47.length]⟩]) rfl siz48 rfl rfl rfl (ALe.refl _) rfl rfl rfl rfl (Nat.le_of_ble_eq_true rfl) rfl rfl ?_
                          refine ROps.l (r := AV.oref 11 1 0 r48.length) rfl rfl rfl (LOp.assign rfl rfl) ?_
                          refine ROps.l (r := AV.i64 r44) rfl rfl rfl (LOp.assign rfl rfl) ?_
                          refine ROps.l (r := AV.b r45) rfl rfl rfl (LOp.assign rfl rfl) ?_
                          refine ROps.nil ?_
                          refine RunC.wl (τ' := [(6, AV.optr 4 1 0), (7, AV.oref 3 1 0 r11.length), (8, AV.i64 r7), (9, AV.b r8), (11, AV.optr 9 1 0), (12, AV.oref 8 1 0 r21.length), (16, AV.i64 r35), (18, AV.optr 12 1 0), (19, AV.oref 11 1 0 r48.length), (20, AV.i64 r44), (21, AV.b r45)]) (Γ' := [⟨3, none⟩, ⟨1, some (r9.map AV.f32)⟩, ⟨1, some (r10.map AV.i64)⟩, ⟨1, some (r11.map AV.i64)⟩, ⟨1, some [AV.i64 r5, AV.i64 r6, AV.oref 1 1 0 r9.length, AV.oref 2 1 0 r10.length]⟩, ⟨2, some (r46.map AV.f32)⟩, ⟨1, some (r33.map AV.f32)⟩, ⟨1, some (r34.map AV.i64)⟩, ⟨1, some (r36.map AV.i64)⟩, ⟨1, some [AV.i64 r15, AV.i64 r16, AV.oref 6 1 0 r19.length, AV.oref 7 1 0 r20.length]⟩, ⟨1, some (r47.map AV.i64)⟩, ⟨1, some (r48.map AV.i64)⟩, ⟨1, some [AV.i64 r42, AV.i64 r43, AV.oref 5 2 0 r46.length, AV.oref 10 1 0 r47.length]⟩]) ⟨(ALe.refl _), (ALe.refl _), (ALe.refl _), (ALe.refl _), (ALe.refl _), (ALe.refl _), (ALe.refl _), (ALe.refl _), (ALe.refl _), (ALe.refl _), (ALe.refl _), trivial⟩ ⟨⟨rfl, .inl rfl⟩, ⟨rfl, .inr rfl⟩, ⟨rfl, .inr rfl⟩, ⟨rfl, .inr rfl⟩, ⟨rfl, .inr rfl⟩, ⟨rfl, .inr rfl⟩, ⟨rfl, .inr rfl⟩, ⟨rfl, .inr rfl⟩, ⟨rfl, .inr rfl⟩, ⟨rfl, .inr rfl⟩, ⟨rfl, .inr rfl⟩, ⟨rfl, .inr rfl⟩, ⟨rfl, .inr rfl⟩, trivial⟩ ?_
                          refine RunC.seq ?_
                          refine RunC.seq ?_
                          obtain ⟨r49, hf35, h⟩ := obind_some h
                          rcases bsel_some h with ⟨hc36, h⟩ | ⟨hc36, h⟩
                          · obtain ⟨r50, hf37, h⟩ := obind_some h
                            rcases bsel_some h with ⟨hc38, h⟩ | ⟨hc38, h⟩
                            · rcases bsel_some h with ⟨hc39, h⟩ | ⟨hc39, h⟩
                              · refine RunC.regionW ?_
                                refine ROps.d (r := AV.agg [AV.i64 r42, AV.i64 r43, AV.oref 5 2 0 r46.length, AV.oref 10 1 0 r47.length]) (fs := []) (Γ' := [⟨3, none⟩, ⟨1, some (r9.map AV.f32)⟩, ⟨1, some (r10.map AV.i64)⟩, ⟨1, some (r11.map AV.i64)⟩, ⟨1, some [AV.i64 r5, AV.i64 r6, AV.oref 1 1 0 r9.length, AV.oref 2 1 0 r10.length]⟩, ⟨2, some (r46.map AV.f32)⟩, ⟨1, some (r33.map AV.f32)⟩, ⟨1, some (r34.map AV.i64)⟩, ⟨1, some (r36.map AV.i64)⟩, ⟨1, some [AV.i64 r15, AV.i64 r16, AV.oref 6 1 0 r19.length, AV.oref 7 1 0 r20.length]⟩, ⟨1, some (r47.map AV.i64)⟩, ⟨1, some (r48.map AV.i64)⟩, ⟨1, some [AV.i64 r42, AV.i64 r43, AV.oref 5 2 0 r46.length, AV.oref 10 1 0 r47.length]⟩]) rfl rfl rfl (TOp.loadAgg_o rfl agg48 siz48 rfl rfl rfl rfl) rfl ?_
                                refine ROps.d (r := AV.agg [AV.i64 r5, AV.i64 r6, AV.oref 1 1 0 r9.length, AV.oref 2 1 0 r10.length]) (fs := []) (Γ' := [⟨3, none⟩, ⟨1, some (r9.map AV.f32)⟩, ⟨1, some (r10.map AV.i64)⟩, ⟨1, some (r11.map AV.i64)⟩, ⟨1, some [AV.i64 r5, AV.i64 r6, AV.oref 1 1 0 r9.length, AV.oref 2 1 0 r10.length]⟩, ⟨2, some (r46.map AV.f32)⟩, ⟨1, some (r33.map AV.f32)⟩, ⟨1, some (r34.map AV.i64)⟩, ⟨1, some (r36.map AV.i64)⟩, ⟨1, some [AV.i64 r15, AV.i64 r16, AV.oref 6 1 0 r19.length, AV.oref 7 1 0 r20.length]⟩, ⟨1, some (r47.map AV.i64)⟩, ⟨1, some (r48.map AV.i64)⟩, ⟨1, some [AV.i64 r42, AV.i64 r43, AV.oref 5 2 0 r46.length, AV.oref 10 1 0 r47.length]⟩]) rfl rfl rfl (TOp.loadAgg_o rfl agg48 siz48 rfl rfl rfl rfl) rfl ?_
                                refine ROps.d (r := AV.b true) (fs := []) (Γ' := [⟨3, none⟩, ⟨1, some (r9.map AV.f32)⟩, ⟨1, some (r10.map AV.i64)⟩, ⟨1, some (r11.map AV.i64)⟩, ⟨1, some [AV.i64 r5, AV.i64 r6, AV.oref 1 1 0 r9.length, AV.oref 2 1 0 r10.length]⟩, ⟨2, some (r46.map AV.f32)⟩, ⟨1, some (r33.map AV.f32)⟩, ⟨1, some (r34.map AV.i64)⟩, ⟨1, some (r36.map AV.i64)⟩, ⟨1, some [AV.i64 r15, AV.i64 r16, AV.oref 6 1 0 r19.length, AV.oref 7 1 0 r20.length]⟩, ⟨1, some (r47.map AV.i64)⟩, ⟨1, some (r48.map AV.i64)⟩, ⟨1, some [AV.i64 r42, AV.i64 r43, AV.oref 5 2 0 r46.length, AV.oref 10 1 0 r47.length]⟩]) rfl rfl rfl (TOp.eqb (TOp.callB (CallAs.func ent29 rfl rfl) (Bors.cons (Bor.agg (Bors.cons (Bor.pure rfl) (Bors.cons (Bor.pure rfl) (Bors.cons (Bor.own (f := AV.f32) (fun _ => rfl) rfl rfl) (Bors.cons (Bor.own (f := AV.i64) (fun _ => rfl) rfl rfl) Bors.nil))))) (Bors.cons (Bor.agg (Bors.cons (Bor.pure rfl) (Bors.cons (Bor.pure rfl) (Bors.cons (Bor.own (f := AV.f32) (fun _ => rfl) rfl rfl) (Bors.cons (Bor.own (f := AV.i64) (fun _ => rfl) rfl rfl) Bors.nil))))) Bors.nil)) rfl rfl (w_eqFactor_ok r42 r43 r46 r47 r5 r6 r9 r10 r49 hf35)) hc36) rfl ?_
                                refine ROps.l (r := AV.b false) rfl rfl rfl (LOp.eqb (LOp.not rfl rfl) rfl) ?_
                                refine ROps.l (r := AV.b false) rfl rfl rfl (LOp.move rfl rfl) ?_
                                refine ROps.l (r := AV.oref 11 1 0 r48.length) rfl rfl rfl (LOp.move rfl rfl) ?_
                                refine ROps.l (r := AV.oref 3 1 0 r11.length) rfl rfl rfl (LOp.move rfl rfl) ?_
                                refine ROps.d (r := AV.b true) (fs := []) (Γ' := [⟨3, none⟩, ⟨1, some (r9.map AV.f32)⟩, ⟨1, some (r10.map AV.i64)⟩, ⟨1, some (r11.map AV.i64)⟩, ⟨1, some [AV.i64 r5, AV.i64 r6, AV.oref 1 1 0 r9.length, AV.oref 2 1 0 r10.length]⟩, ⟨2, some (r46.map AV.f32)⟩, ⟨1, some (r33.map AV.f32)⟩, ⟨1, some (r34.map AV.i64)⟩, ⟨1, some (r36.map AV.i64)⟩, ⟨1, some [AV.i64 r15, AV.i64 r16, AV.oref 6 1 0 r19.length, AV.oref 7 1 0 r20.length]⟩, ⟨1, some (r47.map AV.i64)⟩, ⟨1, some (r48.map AV.i64)⟩, ⟨1, some [AV.i64 r42, AV.i64 r43, AV.oref 5 2 0 r46.length, AV.oref 10 1 0 r47.length]⟩]) rfl rfl rfl (TOp.eqb (TOp.callB (CallAs.func ent14 rfl rfl) (Bors.cons (Bor.own (f := AV.i64) (fun _ => rfl) rfl rfl) (Bors.cons (Bor.own (f := AV.i64) (fun _ => rfl) rfl rfl) Bors.nil)) rfl rfl (w_eqInt64S_ok r48 r11 r50 hf37)) hc38) rfl ?_
                                refine ROps.l (r := AV.b false) rfl rfl rfl (LOp.eqb (LOp.not rfl rfl) rfl) ?_
                                refine ROps.l (r := AV.b false) rfl rfl rfl (LOp.pick_false rfl rfl rfl) ?_
                                refine ROps.l (r := AV.b false) rfl rfl rfl (LOp.move rfl rfl) ?_
                                refine ROps.l (r := AV.i64 r44) rfl rfl rfl (LOp.move rfl rfl) ?_
                                refine ROps.l (r := AV.i64 r7) rfl rfl rfl (LOp.move rfl rfl) ?_
                                refine ROps.l (r := AV.b true) rfl rfl rfl (LOp.eqb (LOp.neq rfl rfl rfl) hc39) ?_
                                refine ROps.l (r := AV.b true) rfl rfl rfl (LOp.pick_false rfl rfl rfl) ?_
                                refine ROps.l (r := AV.b true) rfl rfl rfl (LOp.move rfl rfl) ?_
                                refine ROps.s rfl rfl rfl ?_
                                refine ROps.s rfl rfl rfl ?_
                                refine ROps.s rfl rfl rfl ?_
                                refine ROps.l (r := AV.b true) rfl rfl rfl (LOp.pick_true rfl rfl rfl) ?_
                                refine ROps.nil ?_
                                refine RunC.wl (τ' := [(11, AV.optr 9 1 0), (12, AV.oref 8 1 0 r21.length), (16, AV.i64 r35), (145, AV.b true)]) (Γ' := [⟨3, none⟩, ⟨1, none⟩, ⟨1, none⟩, ⟨1, none⟩, ⟨1, none⟩, ⟨2, none⟩, ⟨1, some (r33.map AV.f32)⟩, ⟨1, some (r34.map AV.i64)⟩, ⟨1, some (r36.map AV.i64)⟩, ⟨1, some [AV.i64 r15, AV.i64 r16, AV.oref 6 1 0 r19.length, AV.oref 7 1 0 r20.length]⟩, ⟨1, none⟩, ⟨1, none⟩, ⟨1, none⟩]) ⟨(ALe.refl _), (ALe.refl _), (ALe.refl _), (ALe.refl _), trivial⟩ ⟨⟨rfl, .inl rfl⟩, ⟨rfl, .inl rfl⟩, ⟨rfl, .inl rfl⟩, ⟨rfl, .inl rfl⟩, ⟨rfl, .inl rfl⟩, ⟨rfl, .inl rfl⟩, ⟨rfl, .inr rfl⟩, ⟨rfl, .inr rfl⟩, ⟨rfl, .inr rfl⟩, ⟨rfl, .inr rfl⟩, ⟨rfl, .inl rfl⟩, ⟨rfl, .inl rfl⟩, ⟨rfl, .inl rfl⟩, trivial⟩ ?_
                                refine RunC.cond_true rfl rfl ?_
                                refine RunC.seq ?_
                                refine RunC.regionW ?_
                                refine ROps.l (r := AV.b false) rfl rfl rfl (LOp.assign rfl rfl) ?_
                                refine ROps.nil ?_
                                refine RunC.ret ?_
                                have hq := Option.some.inj h
                                subst q0
                                exact bodyQ.pure (.inr rfl) rfl (Res.one rfl (RV.tmp rfl))
                              · rcases bsel_some h with ⟨hc40, h⟩ | ⟨hc40, h⟩
                                · refine RunC.regionW ?_
                                  refine ROps.d (r := AV.agg [AV.i64 r42, AV.i64 r43, AV.oref 5 2 0 r46.length, AV.oref 10 1 0 r47.length]) (fs := []) (Γ' := [⟨3, none⟩, ⟨1, some (r9.map AV.f32)⟩, ⟨1, some (r10.map AV.i64)⟩, ⟨1, some (r11.map AV.i64)⟩, ⟨1, some [AV.i64 r5, AV.i64 r6, AV.oref 1 1 0 r9.length, AV.oref 2 1 0 r10.length]⟩, ⟨2, some (r46.map AV.f32)⟩, ⟨1, some (r33.map AV.f32)⟩, ⟨1, some (r34.map AV.i64)⟩, ⟨1, some (r36.map AV.i64)⟩, ⟨1, some [AV.i64 r15, AV.i64 r16, AV.oref 6 1 0 r19.length, AV.oref 7 1 0 r20.length]⟩, ⟨1, some (r47.map AV.i64)⟩, ⟨1, some (r48.map AV.i64)⟩, ⟨1, some [AV.i64 r42, AV.i64 r43, AV.oref 5 2 0 r46.length, AV.oref 10 1 0 r47.length]⟩]) rfl rfl rfl (TOp.loadAgg_o rfl agg48 siz48 rfl rfl rfl rfl) rfl ?_
                                  refine ROps.d (r := AV.agg [AV.i64 r5, AV.i64 r6, AV.oref 1 1 0 r9.length, AV.oref 2 1 0 r10.length]) (fs := []) (Γ' := [⟨3, none⟩, ⟨1, some (r9.map AV.f32)⟩, ⟨1, some (r10.map AV.i64)⟩, ⟨1, some (r11.map AV.i64)⟩, ⟨1, some [AV.i64 r5, AV.i64 r6, AV.oref 1 1 0 r9.length, AV.oref 2 1 0 r10.length]⟩, ⟨2, some (r46.map AV.f32)⟩, ⟨1, some (r33.map AV.f32)⟩, ⟨1, some (r34.map AV.i64)⟩, ⟨1, some (r36.map AV.i64)⟩, ⟨1, some [AV.i64 r15, AV.i64 r16, AV.oref 6 1 0 r19.length, AV.oref 7 1 0 r20.length]⟩, ⟨1, some (r47.map AV.i64)⟩, ⟨1, some (r48.map AV.i64)⟩, ⟨1, some [AV.i64 r42, AV.i64 r43, AV.oref 5 2 0 r46.length, AV.oref 10 1 0 r47.length]⟩]) rfl rfl rfl (TOp.loadAgg_o rfl agg48 siz48 rfl rfl rfl rfl) rfl ?_
                                  refine ROps.d (r := AV.b true) (fs := []) (Γ' := [⟨3, none⟩, ⟨1, some (r9.map AV.f32)⟩, ⟨1, some (r10.map AV.i64)⟩, ⟨1, some (r11.map AV.i64)⟩, ⟨1, some [AV.i64 r5, AV.i64 r6, AV.oref 1 1 0 r9.length, AV.oref 2 1 0 r10.length]⟩, ⟨2, some (r46.map AV.f32)⟩, ⟨1, some (r33.map AV.f32)⟩, ⟨1, some (r34.map AV.i64)⟩, ⟨1, some (r36.map AV.i64)⟩, ⟨1, some [AV.i64 r15, AV.i64 r16, AV.oref 6 1 0 r19.length, AV.oref 7 1 0 r20.length]⟩, ⟨1, some (r47.map AV.i64)⟩, ⟨1, some (r48.map AV.i64)⟩, ⟨1, some [AV.i64 r42, AV.i64 r43, AV.oref 5 2 0 r46.length, AV.oref 10 1 0 r47.length]⟩]) rfl rfl rfl (TOp.eqb (TOp.callB (CallAs.func ent29 rfl rfl) (Bors.cons (Bor.agg (Bors.cons (Bor.pure rfl) (Bors.cons (Bor.pure rfl) (Bors.cons (Bor.own (f := AV.f32) (fun _ => rfl) rfl rfl) (Bors.cons (Bor.own (f := AV.i64) (fun _ => rfl) rfl rfl) Bors.nil))))) (Bors.cons (Bor.agg (Bors.cons (Bor.pure rfl) (Bors.cons (Bor.pure rfl) (Bors.cons (Bor.own (f := AV.f32) (fun _ => rfl) rfl rfl) (Bors.cons (Bor.own (f := AV.i64) (fun _ => rfl) rfl rfl) Bors.nil))))) Bors.nil)) rfl rfl (w_eqFactor_ok r42 r43 r46 r47 r5 r6 r9 r10 r49 hf35)) hc36) rfl ?_
                                  refine ROps.l (r := AV.b false) rfl rfl rfl (LOp.eqb (LOp.not rfl rfl) rfl) ?_
                                  refine ROps.l (r := AV.b false) rfl rfl rfl (LOp.move rfl rfl) ?_
                                  refine ROps.l (r := AV.oref 11 1 0 r48.length) rfl rfl rfl (LOp.move rfl rfl) ?_
                                  refine ROps.l (r := AV.oref 3 1 0 r11.length) rfl rfl rfl (LOp.move rfl rfl) ?_
                                  refine ROps.d (r := AV.b true) (fs := []) (Γ' := [⟨3, none⟩, ⟨1, some (r9.map AV.f32)⟩, ⟨1, some (r10.map AV.i64)⟩, ⟨1, some (r11.map AV.i64)⟩, ⟨1, some [AV.i64 r5, AV.i64 r6, AV.oref 1 1 0 r9.length, AV.oref 2 1 0 r10.length]⟩, ⟨2, some (r46.map AV.f32)⟩, ⟨1, some (r33.map AV.f32)⟩, ⟨1, some (r34.map AV.i64)⟩, ⟨1, some (r36.map AV.i64)⟩, ⟨1, some [AV.i64 r15, AV.i64 r16, AV.oref 6 1 0 r19.length, AV.oref 7 1 0 r20.length]⟩, ⟨1, some (r47.map AV.i64)⟩, ⟨1, some (r48.map AV.i64)⟩, ⟨1, some [AV.i64 r42, AV.i64 r43, AV.oref 5 2 0 r46.length, AV.oref 10 1 0 r47.length]⟩]) rfl rfl rfl (TOp.eqb (TOp.callB (CallAs.func ent14 rfl rfl) (Bors.cons (Bor.own (f := AV.i64) (fun _ => rfl) rfl rfl) (Bors.cons (Bor.own (f := AV.i64) (fun _ => rfl) rfl rfl) Bors.nil)) rfl rfl (w_eqInt64S_ok r48 r11 r50 hf37)) hc38) rfl ?_
                                  refine ROps.l (r := AV.b false) rfl rfl rfl (LOp.eqb (LOp.not rfl rfl) rfl) ?_
                                  refine ROps.l (r := AV.b false) rfl rfl rfl (LOp.pick_false rfl rfl rfl) ?_
                                  refine ROps.l (r := AV.b false) rfl rfl rfl (LOp.move rfl rfl) ?_
                                  refine ROps.l (r := AV.i64 r44) rfl rfl rfl (LOp.move rfl rfl) ?_
                                  refine ROps.l (r := AV.i64 r7) rfl rfl rfl (LOp.move rfl rfl) ?_
                                  refine ROps.l (r := AV.b false) rfl rfl rfl (LOp.eqb (LOp.neq rfl rfl rfl) hc39) ?_
                                  refine ROps.l (r := AV.b false) rfl rfl rfl (LOp.pick_false rfl rfl rfl) ?_
                                  refine ROps.l (r := AV.b false) rfl rfl rfl (LOp.move rfl rfl) ?_
                                  refine ROps.l (r := AV.b r45) rfl rfl rfl (LOp.move rfl rfl) ?_
                                  refine ROps.l (r := AV.b r8) rfl rfl rfl (LOp.move rfl rfl) ?_
                                  refine ROps.l (r := AV.b true) rfl rfl rfl (LOp.eqb (LOp.neqb pun4 rfl rfl rfl) hc40) ?_
                                  refine ROps.l (r := AV.b true) rfl rfl rfl (LOp.pick_false rfl rfl rfl) ?_
                                  refine ROps.nil ?_
                                  refine RunC.wl (τ' := [(11, AV.optr 9 1 0), (12, AV.oref 8 1 0 r21.length), (16, AV.i64 r35), (145, AV.b true)]) (Γ' := [⟨3, none⟩, ⟨1, none⟩, ⟨1, none⟩, ⟨1, none⟩, ⟨1, none⟩, ⟨2, none⟩, ⟨1, some (r33.map AV.f32)⟩, ⟨1, some (r34.map AV.i64)⟩, ⟨1, some (r36.map AV.i64)⟩, ⟨1, some [AV.i64 r15, AV.i64 r16, AV.oref 6 1 0 r19.length, AV.oref 7 1 0 r20.length]⟩, ⟨1, none⟩, ⟨1, none⟩, ⟨1, none⟩]) ⟨(ALe.refl _), (ALe.refl _), (ALe.refl _), (ALe.refl _), trivial⟩ ⟨⟨rfl, .inl rfl⟩, ⟨rfl, .inl rfl⟩, ⟨rfl, .inl rfl⟩, ⟨rfl, .inl rfl⟩, ⟨rfl, .inl rfl⟩, ⟨rfl, .inl rfl⟩, ⟨rfl, .inr rfl⟩, ⟨rfl, .inr rfl⟩, ⟨rfl, .inr rfl⟩, ⟨rfl, .inr rfl⟩, ⟨rfl, .inl rfl⟩, ⟨rfl, .inl rfl⟩, ⟨rfl, .inl rfl⟩, trivial⟩ ?_
                                  refine RunC.cond_true rfl rfl ?_
                                  refine RunC.seq ?_
                                  refine RunC.regionW ?_
                                  refine ROps.l (r := AV.b false) rfl rfl rfl (LOp.assign rfl rfl) ?_
                                  refine ROps.nil ?_
                                  refine RunC.ret ?_
                                  have hq := Option.some.inj h
                                  subst q0
                                  exact bodyQ.pure (.inr rfl) rfl (Res.one rfl (RV.tmp rfl))
                                · refine RunC.regionW ?_
                                  refine ROps.d (r := AV.agg [AV.i64 r42, AV.i64 r43, AV.oref 5 2 0 r46.length, AV.oref 10 1 0 r47.length]) (fs := []) (Γ' := [⟨3, none⟩, ⟨1, some (r9.map AV.f32)⟩, ⟨1, some (r10.map AV.i64)⟩, ⟨1, some (r11.map AV.i64)⟩, ⟨1, some [AV.i64 r5, AV.i64 r6, AV.oref 1 1 0 r9.length, AV.oref 2 1 0 r10.length]⟩, ⟨2, some (r46.map AV.f32)⟩, ⟨1, some (r33.map AV.f32)⟩, ⟨1, some (r34.map AV.i64)⟩, ⟨1, some (r36.map AV.i64)⟩, ⟨1, some [AV.i64 r15, AV.i64 r16, AV.oref 6 1 0 r19.length, AV.oref 7 1 0 r20.length]⟩, ⟨1, some (r47.map AV.i64)⟩, ⟨1, some (r48.map AV.i64)⟩, ⟨1, some [AV.i64 r42, AV.i64 r43, AV.oref 5 2 0 r46.length, AV.oref 10 1 0 r47.length]⟩]) rfl rfl rfl (TOp.loadAgg_o rfl agg48 siz48 rfl rfl rfl rfl) rfl ?_
                                  refine ROps.d (r := AV.agg [AV.i64 r5, AV.i64 r6, AV.oref 1 1 0 r9.length, AV.oref 2 1 0 r10.length]) (fs := []) (Γ' := [⟨3, none⟩, ⟨1, some (r9.map AV.f32)⟩, ⟨1, some (r10.map AV.i64)⟩, ⟨1, some (r11.map AV.i64)⟩, ⟨1, some [AV.i64 r5, AV.i64 r6, AV.oref 1 1 0 r9.length, AV.oref 2 1 0 r10.length]⟩, ⟨2, some (r46.map AV.f32)⟩, ⟨1, some (r33.map AV.f32)⟩, ⟨1, some (r34.map AV.i64)⟩, ⟨1, some (r36.map AV.i64)⟩, ⟨1, some [AV.i64 r15, AV.i64 r16, AV.oref 6 1 0 r19.length, AV.oref 7 1 0 r20.length]⟩, ⟨1, some (r47.map AV.i64)⟩, ⟨1, some (r48.map AV.i64)⟩, ⟨1, some [AV.i64 r42, AV.i64 r43, AV.oref 5 2 0 r46.length, AV.oref 10 1 0 r47.length]⟩]) rfl rfl rfl (TOp.loadAgg_o rfl agg48 siz48 rfl rfl rfl rfl) rfl ?_
                                  refine ROps.d (r := AV.b true) (fs := []) (Γ' := [⟨3, none⟩, ⟨1, some (r9.map AV.f32)⟩, ⟨1, some (r10.map AV.i64)⟩, ⟨1, some (r11.map AV.i64)⟩, ⟨1, some [AV.i64 r5, AV.i64 r6, AV.oref 1 1 0 r9.length, AV.oref 2 1 0 r10.length]⟩, ⟨2, some (r46.map AV.f32)⟩, ⟨1, some (r33.map AV.f32)⟩, ⟨1, some (r34.map AV.i64)⟩, ⟨1, some (r36.map AV.i64)⟩, ⟨1, some [AV.i64 r15, AV.i64 r16, AV.oref 6 1 0 r19.length, AV.oref 7 1 0 r20.length]⟩, ⟨1, some (r47.map AV.i64)⟩, ⟨1, some (r48.map AV.i64)⟩, ⟨1, some [AV.i64 r42, AV.i64 r43, AV.oref 5 2 0 r46.length, AV.oref 10 1 0 r47.length]⟩]) rfl rfl rfl (TOp.eqb (TOp.callB (CallAs.func ent29 rfl rfl) (Bors.cons (Bor.agg (Bors.cons (Bor.pure rfl) (Bors.cons (Bor.pure rfl) (Bors.cons (Bor.own (f := AV.f32) (fun _ => rfl) rfl rfl) (Bors.cons (Bor.own (f := AV.i64) (fun _ => rfl) rfl rfl) Bors.nil))))) (Bors.cons (Bor.agg (Bors.cons (Bor.pure rfl) (Bors.cons (Bor.pure rfl) (Bors.cons (Bor.own (f := AV.f32) (fun _ => rfl) rfl rfl) (Bors.cons (Bor.own (f := AV.i64) (fun _ => rfl) rfl rfl) Bors.nil))))) Bors.nil)) rfl rfl (w_eqFactor_ok r42 r43 r46 r47 r5 r6 r9 r10 r49 hf35)) hc36) rfl ?_
                                  refine ROps.l (r := AV.b false) rfl rfl rfl (LOp.eqb (LOp.not rfl rfl) rfl) ?_
                                  refine ROps.l (r := AV.b false) rfl rfl rfl (LOp.move rfl rfl) ?_
                                  refine ROps.l (r := AV.oref 11 1 0 r48.length) rfl rfl rfl (LOp.move rfl rfl) ?_
                                  refine ROps.l (r := AV.oref 3 1 0 r11.length) rfl rfl rfl (LOp.move rfl rfl) ?_
                                  refine ROps.d (r := AV.b true) (fs := []) (Γ' := [⟨3, none⟩, ⟨1, some (r9.map AV.f32)⟩, ⟨1, some (r10.map AV.i64)⟩, ⟨1, some (r11.map AV.i64)⟩, ⟨1, some [AV.i64 r5, AV.i64 r6, AV.oref 1 1 0 r9.length, AV.oref 2 1 0 r10.length]⟩, ⟨2, some (r46.map AV.f32)⟩, ⟨1, some (r33.map AV.f32)⟩, ⟨1, some (r34.map AV.i64)⟩, ⟨1, some (r36.map AV.i64)⟩, ⟨1, some [AV.i64 r15, AV.i64 r16, AV.oref 6 1 0 r19.length, AV.oref 7 1 0 r20.length]⟩, ⟨1, some (r47.map AV.i64)⟩, ⟨1, some (r48.map AV.i64)⟩, ⟨1, some [AV.i64 r42, AV.i64 r43, AV.oref 5 2 0 r46.length, AV.oref 10 1 0 r47.length]⟩]) rfl rfl rfl (TOp.eqb (TOp.callB (CallAs.func ent14 rfl rfl) (Bors.cons (Bor.own (f := AV.i64) (fun _ => rfl) rfl rfl) (Bors.cons (Bor.own (f := AV.i64) (fun _ => rfl) rfl rfl) Bors.nil)) rfl rfl (w_eqInt64S_ok r48 r11 r50 hf37)) hc38) rfl ?_
                                  refine ROps.l (r := AV.b false) rfl rfl rfl (LOp.eqb (LOp.not rfl rfl) rfl) ?_
                                  refine ROps.l (r := AV.b false) rfl rfl rfl (LOp.pick_false rfl rfl rfl) ?_
                                  refine ROps.l (r := AV.b false) rfl rfl rfl (LOp.move rfl rfl) ?_
                                  refine ROps.l (r := AV.i64 r44) rfl rfl rfl (LOp.move rfl rfl) ?_
                                  refine ROps.l (r := AV.i64 r7) rfl rfl rfl (LOp.move rfl rfl) ?_
                                  refine ROps.l (r := AV.b false) rfl rfl rfl (LOp.eqb (LOp.neq rfl rfl rfl) hc39) ?_
                                  refine ROps.l (r := AV.b false) rfl rfl rfl (LOp.pick_false rfl rfl rfl) ?_
                                  refine ROps.l (r := AV.b false) rfl rfl rfl (LOp.move rfl rfl) ?_
                                  refine ROps.l (r := AV.b r45) rfl rfl rfl (LOp.move rfl rfl) ?_
                                  refine ROps.l (r := AV.b r8) rfl rfl rfl (LOp.move rfl rfl) ?_
                                  refine ROps.l (r := AV.b false) rfl rfl rfl (LOp.eqb (LOp.neqb pun4 rfl rfl rfl) hc40) ?_
                                  refine ROps.l (r := AV.b false) rfl rfl rfl (LOp.pick_false rfl rfl rfl) ?_
                                  refine ROps.nil ?_
                                  refine RunC.wl (τ' := [(11, AV.optr 9 1 0), (12, AV.oref 8 1 0 r21.length), (16, AV.i64 r35), (145, AV.b false)]) (Γ' := [⟨3, none⟩, ⟨1, none⟩, ⟨1, none⟩, ⟨1, none⟩, ⟨1, none⟩, ⟨2, none⟩, ⟨1, some (r33.map AV.f32)⟩, ⟨1, some (r34.map AV.i64)⟩, ⟨1, some (r36.map AV.i64)⟩, ⟨1, some [AV.i64 r15, AV.i64 r16, AV.oref 6 1 0 r19.length, AV.oref 7 1 0 r20.length]⟩, ⟨1, none⟩, ⟨1, none⟩, ⟨1, none⟩]) ⟨(ALe.refl _), (ALe.refl _), (ALe.refl _), (ALe.refl _), trivial⟩ ⟨⟨rfl, .inl rfl⟩, ⟨rfl, .inl rfl⟩, ⟨rfl, .inl rfl⟩, ⟨rfl, .inl rfl⟩, ⟨rfl, .inl rfl⟩, ⟨rfl, .inl rfl⟩, ⟨rfl, .inr rfl⟩, ⟨rfl, .inr rfl⟩, ⟨rfl, .inr rfl⟩, ⟨rfl, .inr rfl⟩, ⟨rfl, .inl rfl⟩, ⟨rfl, .inl rfl⟩, ⟨rfl, .inl rfl⟩, trivial⟩ ?_
                                  refine RunC.cond_false rfl rfl ?_
                                  refine RunC.skip ?_
                                  refine RunC.seq ?_
                                  refine RunC.regionW ?_
                                  refine ROps.l (r := AV.i64 1) rfl rfl rfl (LOp.assign rfl rfl) ?_
                                  refine ROps.nil ?_
                                  refine RunC.seq ?_
                                  obtain ⟨r51, hf41, h⟩ := obind_some h
                                  refine RunC.regionW ?_
                                  refine ROps.d (r := AV.agg [AV.i64 r15, AV.i64 r16, AV.oref 6 1 0 r19.length, AV.oref 7 1 0 r20.length]) (fs := []) (Γ' := [⟨3, none⟩, ⟨1, none⟩, ⟨1, none⟩, ⟨1, none⟩, ⟨1, none⟩, ⟨2, none⟩, ⟨1, some (r33.map AV.f32)⟩, ⟨1, some (r34.map AV.i64)⟩, ⟨1, some (r36.map AV.i64)⟩, ⟨1, some [AV.i64 r15, AV.i64 r16, AV.oref 6 1 0 r19.length, AV.oref 7 1 0 r20.length]⟩, ⟨1, none⟩, ⟨1, none⟩, ⟨1, none⟩]) rfl rfl rfl (TOp.loadAgg_o rfl agg48 siz48 rfl rfl rfl rfl) rfl ?_
                                  refine ROps.l (r := AV.i64 1) rfl rfl rfl (LOp.move rfl rfl) ?_
                                  refine ROps.d (r := AV.i64 r51) (fs := []) (Γ' := [⟨3, none⟩, ⟨1, none⟩, ⟨1, none⟩, ⟨1, none⟩, ⟨1, none⟩, ⟨2, none⟩, ⟨1, some (r33.map AV.f32)⟩, ⟨1, some (r34.map AV.i64)⟩, ⟨1, some (r36.map AV.i64)⟩, ⟨1, some [AV.i64 r15, AV.i64 r16, AV.oref 6 1 0 r19.length, AV.oref 7 1 0 r20.length]⟩, ⟨1, none⟩, ⟨1, none⟩, ⟨1, none⟩]) rfl rfl rfl (TOp.callB (CallAs.func ent31 rfl rfl) (Bors.cons (Bor.agg (Bors.cons (Bor.pure rfl) (Bors.cons (Bor.pure rfl) (Bors.cons (Bor.own (f := AV.f32) (fun _ => rfl) rfl (of_decide_eq_true hn24)) (Bors.cons (Bor.own (f := AV.i64) (fun _ => rfl) rfl (of_decide_eq_true hn25)) Bors.nil))))) (Bors.cons (Bor.pure rfl) Bors.nil)) rfl rfl (w_heldFactor_ok r15 r16 r33 r34 1 r51 hf41)) rfl ?_
                                  refine ROps.l (r := AV.i64 r51) rfl rfl rfl (LOp.assign rfl rfl) ?_
                                  refine ROps.nil ?_
                                  refine RunC.wl (τ' := [(12, AV.oref 8 1 0 r21.length), (16, AV.i64 r35), (17, AV.i64 r51)]) (Γ' := [⟨3, none⟩, ⟨1, none⟩, ⟨1, none⟩, ⟨1, none⟩, ⟨1, none⟩, ⟨2, none⟩, ⟨1, none⟩, ⟨1, none⟩, ⟨1, some (r36.map AV.i64)⟩, ⟨1, none⟩, ⟨1, none⟩, ⟨1, none⟩, ⟨1, none⟩]) ⟨(ALe.refl _), (ALe.refl _), (ALe.refl _), trivial⟩ ⟨⟨rfl, .inl rfl⟩, ⟨rfl, .inl rfl⟩, ⟨rfl, .inl rfl⟩, ⟨rfl, .inl rfl⟩, ⟨rfl, .inl rfl⟩, ⟨rfl, .inl rfl⟩, ⟨rfl, .inl rfl⟩, ⟨rfl, .inl rfl⟩, ⟨rfl, .inr rfl⟩, ⟨rfl, .inl rfl⟩, ⟨rfl, .inl rfl⟩, ⟨rfl, .inl rfl⟩, ⟨rfl, .inl rfl⟩, trivial⟩ ?_
                                  refine RunC.seq ?_
                                  refine RunC.seq ?_
                                  rcases bsel_some h with ⟨hc42, h⟩ | ⟨hc42, h⟩
                                  · refine RunC.regionW ?_
                                    refine ROps.l (r := AV.i64 r51) rfl rfl rfl (LOp.move rfl rfl) ?_
                                    refine ROps.l (r := AV.b true) rfl rfl rfl (LOp.eqb (LOp.lss rfl rfl rfl) hc42) ?_
                                    refine ROps.nil ?_
                                    refine RunC.cond_true rfl rfl ?_
                                    refine RunC.seq ?_
                                    refine RunC.regionW ?_
                                    refine ROps.l (r := AV.b false) rfl rfl rfl (LOp.assign rfl rfl) ?_
                                    refine ROps.nil ?_
                                    refine RunC.ret ?_
                                    have hq := Option.some.inj h
                                    subst q0
                                    exact bodyQ.pure (.inr rfl) rfl (Res.one rfl (RV.tmp rfl))
                                  · refine RunC.regionW ?_
                                    refine ROps.l (r := AV.i64 r51) rfl rfl rfl (LOp.move rfl rfl) ?_
                                    refine ROps.l (r := AV.b false) rfl rfl rfl (LOp.eqb (LOp.lss rfl rfl rfl) hc42) ?_
                                    refine ROps.nil ?_
                                    refine RunC.cond_false rfl rfl ?_
                                    refine RunC.skip ?_
                                    refine RunC.seq ?_
                                    obtain ⟨r52, hf43, h⟩ := obind_some h
                                    refine RunC.regionW ?_
                                    refine ROps.l (r := AV.oref 8 1 0 r21.length) rfl rfl rfl (LOp.move rfl rfl) ?_
                                    refine ROps.l (r := AV.i64 r51) rfl rfl rfl (LOp.move rfl rfl) ?_
                                    refine ROps.d (r := AV.i64 r52) (fs := []) (Γ' := [⟨3, none⟩, ⟨1, none⟩, ⟨1, none⟩, ⟨1, none⟩, ⟨1, none⟩, ⟨2, none⟩, ⟨1, none⟩, ⟨1, none⟩, ⟨1, some (r36.map AV.i64)⟩, ⟨1, none⟩, ⟨1, none⟩, ⟨1, none⟩, ⟨1, none⟩]) rfl rfl rfl (TOp.callB (CallAs.func ent18 rfl rfl) (Bors.cons (Bor.own (f := AV.i64) (fun _ => rfl) rfl (of_decide_eq_true hn27)) (Bors.cons (Bor.pure rfl) Bors.nil)) rfl rfl (w_heldInt64S_ok r36 r51 r52 hf43)) rfl ?_
                                    refine ROps.l (r := AV.i64 r52) rfl rfl rfl (LOp.assign rfl rfl) ?_
                                    refine ROps.nil ?_
                                    refine RunC.wl (τ' := [(16, AV.i64 r35), (17, AV.i64 r52)]) (Γ' := [⟨3, none⟩, ⟨1, none⟩, ⟨1, none⟩, ⟨1, none⟩, ⟨1, none⟩, ⟨2, none⟩, ⟨1, none⟩, ⟨1, none⟩, ⟨1, none⟩, ⟨1, none⟩, ⟨1, none⟩, ⟨1, none⟩, ⟨1, none⟩]) ⟨(ALe.refl _), (ALe.refl _), trivial⟩ ⟨⟨rfl, .inl rfl⟩, ⟨rfl, .inl rfl⟩, ⟨rfl, .inl rfl⟩, ⟨rfl, .inl rfl⟩, ⟨rfl, .inl rfl⟩, ⟨rfl, .inl rfl⟩, ⟨rfl, .inl rfl⟩, ⟨rfl, .inl rfl⟩, ⟨rfl, .inl rfl⟩, ⟨rfl, .inl rfl⟩, ⟨rfl, .inl rfl⟩, ⟨rfl, .inl rfl⟩, ⟨rfl, .inl rfl⟩, trivial⟩ ?_
                                    refine RunC.seq ?_
                                    refine RunC.seq ?_
                                    rcases bsel_some h with ⟨hc44, h⟩ | ⟨hc44, h⟩
                                    · refine RunC.regionW ?_
                                      refine ROps.l (r := AV.i64 r52) rfl rfl rfl (LOp.move rfl rfl) ?_
                                      refine ROps.l (r := AV.b true) rfl rfl rfl (LOp.eqb (LOp.lss rfl rfl rfl) hc44) ?_
                                      refine ROps.nil ?_
                                      refine RunC.cond_true rfl rfl ?_
                                      refine RunC.seq ?_
                                      refine RunC.regionW ?_
                                      refine ROps.l (r := AV.b false) rfl rfl rfl (LOp.assign rfl rfl) ?_
                                      refine ROps.nil ?_
                                      refine RunC.ret ?_
                                      have hq := Option.some.inj h
                                      subst q0
                                      exact bodyQ.pure (.inr rfl) rfl (Res.one rfl (RV.tmp rfl))
                                    · refine RunC.regionW ?_
                                      refine ROps.l (r := AV.i64 r52) rfl rfl rfl (LOp.move rfl rfl) ?_
                                      refine ROps.l (r := AV.b false) rfl rfl rfl (LOp.eqb (LOp.lss rfl rfl rfl) hc44) ?_
                                      refine ROps.nil ?_
                                      refine RunC.cond_false rfl rfl ?_
                                      refine RunC.skip ?_
                                      refine RunC.seq ?_
                                      refine RunC.seq ?_
                                      rcases bsel_some h with ⟨hc45, h⟩ | ⟨hc45, h⟩
                                      · refine RunC.regionW ?_
                                        refine ROps.l (r := AV.i64 r52) rfl rfl rfl (LOp.move rfl rfl) ?_
                                        refine ROps.l (r := AV.i64 r35) rfl rfl rfl (LOp.move rfl rfl) ?_
                                        refine ROps.l (r := AV.b true) rfl rfl rfl (LOp.eqb (LOp.neq rfl rfl rfl) hc45) ?_
                                        refine ROps.nil ?_
                                        refine RunC.cond_true rfl rfl ?_
                                        refine RunC.seq ?_
                                        refine RunC.regionW ?_
                                        refine ROps.l (r := AV.b false) rfl rfl rfl (LOp.assign rfl rfl) ?_
                                        refine ROps.nil ?_
                                        refine RunC.ret ?_
                                        have hq := Option.some.inj h
                                        subst q0
                                        exact bodyQ.pure (.inr rfl) rfl (Res.one rfl (RV.tmp rfl))
                                      · refine RunC.regionW ?_
                                        refine ROps.l (r := AV.i64 r52) rfl rfl rfl (LOp.move rfl rfl) ?_
                                        refine ROps.l (r := AV.i64 r35) rfl rfl rfl (LOp.move rfl rfl) ?_
                                        refine ROps.l (r := AV.b false) rfl rfl rfl (LOp.eqb (LOp.neq rfl rfl rfl) hc45) ?_
                                        refine ROps.nil ?_
                                        refine RunC.cond_false rfl rfl ?_
                                        refine RunC.skip ?_
                                        refine RunC.seq ?_
                                        refine RunC.regionW ?_
                                        refine ROps.l (r := AV.b true) rfl rfl rfl (LOp.assign rfl rfl) ?_
                                        refine ROps.nil ?_
                                        refine RunC.ret ?_
                                        have hq := Option.some.inj h
                                        subst q0
                                        exact bodyQ.pure (.inr rfl) rfl (Res.one rfl (RV.tmp rfl))
                            · refine RunC.regionW ?_
                              refine ROps.d (r := AV.agg [AV.i64 r42, AV.i64 r43, AV.oref 5 2 0 r46.length, AV.oref 10 1 0 r47.length]) (fs := []) (Γ' := [⟨3, none⟩, ⟨1, some (r9.map AV.f32)⟩, ⟨1, some (r10.map AV.i64)⟩, ⟨1, some (r11.map AV.i64)⟩, ⟨1, some [AV.i64 r5, AV.i64 r6, AV.oref 1 1 0 r9.length, AV.oref 2 1 0 r10.length]⟩, ⟨2, some (r46.map AV.f32)⟩, ⟨1, some (r33.map AV.f32)⟩, ⟨1, some (r34.map AV.i64)⟩, ⟨1, some (r36.map AV.i64)⟩, ⟨1, some [AV.i64 r15, AV.i64 r16, AV.oref 6 1 0 r19.length, AV.oref 7 1 0 r20.length]⟩, ⟨1, some (r47.map AV.i64)⟩, ⟨1, some (r48.map AV.i64)⟩, ⟨1, some [AV.i64 r42, AV.i64 r43, AV.oref 5 2 0 r46.length, AV.oref 10 1 0 r47.length]⟩]) rfl rfl rfl (TOp.loadAgg_o rfl agg48 siz48 rfl rfl rfl rfl) rfl ?_
                              refine ROps.d (r := AV.agg [AV.i64 r5, AV.i64 r6, AV.oref 1 1 0 r9.length, AV.oref 2 1 0 r10.length]) (fs := []) (Γ' := [⟨3, none⟩, ⟨1, some (r9.map AV.f32)⟩, ⟨1, some (r10.map AV.i64)⟩, ⟨1, some (r11.map AV.i64)⟩, ⟨1, some [AV.i64 r5, AV.i64 r6, AV.oref 1 1 0 r9.length, AV.oref 2 1 0 r10.length]⟩, ⟨2, some (r46.map AV.f32)⟩, ⟨1, some (r33.map AV.f32)⟩, ⟨1, some (r34.map AV.i64)⟩, ⟨1, some (r36.map AV.i64)⟩, ⟨1, some [AV.i64 r15, AV.i64 r16, AV.oref 6 1 0 r19.length, AV.oref 7 1 0 r20.length]⟩, ⟨1, some (r47.map AV.i64)⟩, ⟨1, some (r48.map AV.i64)⟩, ⟨1, some [AV.i64 r42, AV.i64 r43, AV.oref 5 2 0 r46.length, AV.oref 10 1 0 r47.length]⟩]) rfl rfl rfl (TOp.loadAgg_o rfl agg48 siz48 rfl rfl rfl rfl) rfl ?_
                              refine ROps.d (r := AV.b true) (fs := []) (Γ' := [⟨3, none⟩, ⟨1, some (r9.map AV.f32)⟩, ⟨1, some (r10.map AV.i64)⟩, ⟨1, some (r11.map AV.i64)⟩, ⟨1, some [AV.i64 r5, AV.i64 r6, AV.oref 1 1 0 r9.length, AV.oref 2 1 0 r10.length]⟩, ⟨2, some (r46.map AV.f32)⟩, ⟨1, some (r33.map AV.f32)⟩, ⟨1, some (r34.map AV.i64)⟩, ⟨1, some (r36.map AV.i64)⟩, ⟨1, some [AV.i64 r15, AV.i64 r16, AV.oref 6 1 0 r19.length, AV.oref 7 1 0 r20.length]⟩, ⟨1, some (r47.map AV.i64)⟩, ⟨1, some (r48.map AV.i64)⟩, ⟨1, some [AV.i64 r42, AV.i64 r43, AV.oref 5 2 0 r46.length, AV.oref 10 1 0 r47.length]⟩]) rfl rfl rfl (TOp.eqb (TOp.callB (CallAs.func ent29 rfl rfl) (Bors.cons (Bor.agg (Bors.cons (Bor.pure rfl) (Bors.cons (Bor.pure rfl) (Bors.cons (Bor.own (f := AV.f32) (fun _ => rfl) rfl rfl) (Bors.cons (Bor.own (f := AV.i64) (fun _ => rfl) rfl rfl) Bors.nil))))) (Bors.cons (Bor.agg (Bors.cons (Bor.pure rfl) (Bors.cons (Bor.pure rfl) (Bors.cons (Bor.own (f := AV.f32) (fun _ => rfl) rfl rfl) (Bors.cons (Bor.own (f := AV.i64) (fun _ => rfl) rfl rfl) Bors.nil))))) Bors.nil)) rfl rfl (w_eqFactor_ok r42 r43 r46 r47 r5 r6 r9 r10 r49 hf35)) hc36) rfl ?_
                              refine ROps.l (r := AV.b false) rfl rfl rfl (LOp.eqb (LOp.not rfl rfl) rfl) ?_
                              refine ROps.l (r := AV.b false) rfl rfl rfl (LOp.move rfl rfl) ?_
                              refine ROps.l (r := AV.oref 11 1 0 r48.length) rfl rfl rfl (LOp.move rfl rfl) ?_
                              refine ROps.l (r := AV.oref 3 1 0 r11.length) rfl rfl rfl (LOp.move rfl rfl) ?_
                              refine ROps.d (r := AV.b false) (fs := []) (Γ' := [⟨3, none⟩, ⟨1, some (r9.map AV.f32)⟩, ⟨1, some (r10.map AV.i64)⟩, ⟨1, some (r11.map AV.i64)⟩, ⟨1, some [AV.i64 r5, AV.i64 r6, AV.oref 1 1 0 r9.length, AV.oref 2 1 0 r10.length]⟩, ⟨2, some (r46.map AV.f32)⟩, ⟨1, some (r33.map AV.f32)⟩, ⟨1, some (r34.map AV.i64)⟩, ⟨1, some (r36.map AV.i64)⟩, ⟨1, some [AV.i64 r15, AV.i64 r16, AV.oref 6 1 0 r19.length, AV.oref 7 1 0 r20.length]⟩, ⟨1, some (r47.map AV.i64)⟩, ⟨1, some (r48.map AV.i64)⟩, ⟨1, some [AV.i64 r42, AV.i64 r43, AV.oref 5 2 0 r46.length, AV.oref 10 1 0 r47.length]⟩]) rfl rfl rfl (TOp.eqb (TOp.callB (CallAs.func ent14 rfl rfl) (Bors.cons (Bor.own (f := AV.i64) (fun _ => rfl) rfl rfl) (Bors.cons (Bor.own (f := AV.i64) (fun _ => rfl) rfl rfl) Bors.nil)) rfl rfl (w_eqInt64S_ok r48 r11 r50 hf37)) hc38) rfl ?_
                              refine ROps.l (r := AV.b true) rfl rfl rfl (LOp.eqb (LOp.not rfl rfl) rfl) ?_
                              refine ROps.l (r := AV.b true) rfl rfl rfl (LOp.pick_false rfl rfl rfl) ?_
                              refine ROps.l (r := AV.b true) rfl rfl rfl (LOp.move rfl rfl) ?_
                              refine ROps.s rfl rfl rfl ?_
                              refine ROps.s rfl rfl rfl ?_
                              refine ROps.s rfl rfl rfl ?_
                              refine ROps.l (r := AV.b true) rfl rfl rfl (LOp.pick_true rfl rfl rfl) ?_
                              refine ROps.l (r := AV.b true) rfl rfl rfl (LOp.move rfl rfl) ?_
                              refine ROps.s rfl rfl rfl ?_
                              refine ROps.s rfl rfl rfl ?_
                              refine ROps.s rfl rfl rfl ?_
                              refine ROps.l (r := AV.b true) rfl rfl rfl (LOp.pick_true rfl rfl rfl) ?_
                              refine ROps.nil ?_
                              refine RunC.wl (τ' := [(11, AV.optr 9 1 0), (12, AV.oref 8 1 0 r21.length), (16, AV.i64 r35), (145, AV.b true)]) (Γ' := [⟨3, none⟩, ⟨1, none⟩, ⟨1, none⟩, ⟨1, none⟩, ⟨1, none⟩, ⟨2, none⟩, ⟨1, some (r33.map AV.f32)⟩, ⟨1, some (r34.map AV.i64)⟩, ⟨1, some (r36.map AV.i64)⟩, ⟨1, some [AV.i64 r15, AV.i64 r16, AV.oref 6 1 0 r19.length, AV.oref 7 1 0 r20.length]⟩, ⟨1, none⟩, ⟨1, none⟩, ⟨1, none⟩]) ⟨(ALe.refl _), (ALe.refl _), (ALe.refl _), (ALe.refl _), trivial⟩ ⟨⟨rfl, .inl rfl⟩, ⟨rfl, .inl rfl⟩, ⟨rfl, .inl rfl⟩, ⟨rfl, .inl rfl⟩, ⟨rfl, .inl rfl⟩, ⟨rfl, .inl rfl⟩, ⟨rfl, .inr rfl⟩, ⟨rfl, .inr rfl⟩, ⟨rfl, .inr rfl⟩, ⟨rfl, .inr rfl⟩, ⟨rfl, .inl rfl⟩, ⟨rfl, .inl rfl⟩, ⟨rfl, .inl rfl⟩, trivial⟩ ?_
                              refine RunC.cond_true rfl rfl ?_
                              refine RunC.seq ?_
                              refine RunC.regionW ?_
                              refine ROps.l (r := AV.b false) rfl rfl rfl (LOp.assign rfl rfl) ?_
                              refine ROps.nil ?_
                              refine RunC.ret ?_
                              have hq := Option.some.inj h
                              subst q0
                              exact bodyQ.pure (.inr rfl) rfl (Res.one rfl (RV.tmp rfl))
                          · refine RunC.regionW ?_
                            refine ROps.d (r := AV.agg [AV.i64 r42, AV.i64 r43, AV.oref 5 2 0 r46.length, AV.oref 10 1 0 r47.length]) (fs := []) (Γ' := [⟨3, none⟩, ⟨1, some (r9.map AV.f32)⟩, ⟨1, some (r10.map AV.i64)⟩, ⟨1, some (r11.map AV.i64)⟩, ⟨1, some [AV.i64 r5, AV.i64 r6, AV.oref 1 1 0 r9.length, AV.oref 2 1 0 r10.length]⟩, ⟨2, some (r46.map AV.f32)⟩, ⟨1, some (r33.map AV.f32)⟩, ⟨1, some (r34.map AV.i64)⟩, ⟨1, some (r36.map AV.i64)⟩, ⟨1, some [AV.i64 r15, AV.i64 r16, AV.oref 6 1 0 r19.length, AV.oref 7 1 0 r20.length]⟩, ⟨1, some (r47.map AV.i64)⟩, ⟨1, some (r48.map AV.i64)⟩, ⟨1, some [AV.i64 r42, AV.i64 r43, AV.oref 5 2 0 r46.length, AV.oref 10 1 0 r47.length]⟩]) rfl rfl rfl (TOp.loadAgg_o rfl agg48 siz48 rfl rfl rfl rfl) rfl ?_
                            refine ROps.d (r := AV.agg [AV.i64 r5, AV.i64 r6, AV.oref 1 1 0 r9.length, AV.oref 2 1 0 r10.length]) (fs := []) (Γ' := [⟨3, none⟩, ⟨1, some (r9.map AV.f32)⟩, ⟨1, some (r10.map AV.i64)⟩, ⟨1, some (r11.map AV.i64)⟩, ⟨1, some [AV.i64 r5, AV.i64 r6, AV.oref 1 1 0 r9.length, AV.oref 2 1 0 r10.length]⟩, ⟨2, some (r46.map AV.f32)⟩, ⟨1, some (r33.map AV.f32)⟩, ⟨1, some (r34.map AV.i64)⟩, ⟨1, some (r36.map AV.i64)⟩, ⟨1, some [AV.i64 r15, AV.i64 r16, AV.oref 6 1 0 r19.length, AV.oref 7 1 0 r20.length]⟩, ⟨1, some (r47.map AV.i64)⟩, ⟨1, some (r48.map AV.i64)⟩, ⟨1, some [AV.i64 r42, AV.i64 r43, AV.oref 5 2 0 r46.length, AV.oref 10 1 0 r47.length]⟩]) rfl rfl rfl (TOp.loadAgg_o rfl agg48 siz48 rfl rfl rfl rfl) rfl ?_
                            refine ROps.d (r := AV.b false) (fs := []) (Γ' := [⟨3, none⟩, ⟨1, some (r9.map AV.f32)⟩, ⟨1, some (r10.map AV.i64)⟩, ⟨1, some (r11.map AV.i64)⟩, ⟨1, some [AV.i64 r5, AV.i64 r6, AV.oref 1 1 0 r9.length, AV.oref 2 1 0 r10.length]⟩, ⟨2, some (r46.map AV.f32)⟩, ⟨1, some (r33.map AV.f32)⟩, ⟨1, some (r34.map AV.i64)⟩, ⟨1, some (r36.map AV.i64)⟩, ⟨1, some [AV.i64 r15, AV.i64 r16, AV.oref 6 1 0 r19.length, AV.oref 7 1 0 r20.length]⟩, ⟨1, some (r47.map AV.i64)⟩, ⟨1, some (r48.map AV.i64)⟩, ⟨1, some [AV.i64 r42, AV.i64 r43, AV.oref 5 2 0 r46.length, AV.oref 10 1 0 r47.length]⟩]) rfl rfl rfl (TOp.eqb (TOp.callB (CallAs.func ent29 rfl rfl) (Bors.cons (Bor.agg (Bors.cons (Bor.pure rfl) (Bors.cons (Bor.pure rfl) (Bors.cons (Bor.own (f := AV.f32) (fun _ => rfl) rfl rfl) (Bors.cons (Bor.own (f := AV.i64) (fun _ => rfl) rfl rfl) Bors.nil))))) (Bors.cons (Bor.agg (Bors.cons (Bor.pure rfl) (Bors.cons (Bor.pure rfl) (Bors.cons (Bor.own (f := AV.f32) (fun _ => rfl) rfl rfl) (Bors.cons (Bor.own (f := AV.i64) (fun _ => rfl) rfl rfl) Bors.nil))))) Bors.nil)) rfl rfl (w_eqFactor_ok r42 r43 r46 r47 r5 r6 r9 r10 r49 hf35)) hc36) rfl ?_
                            refine ROps.l (r := AV.b true) rfl rfl rfl (LOp.eqb (LOp.not rfl rfl) rfl) ?_
                            refine ROps.l (r := AV.b true) rfl rfl rfl (LOp.move rfl rfl) ?_
                            refine ROps.s rfl rfl rfl ?_
                            refine ROps.s rfl rfl rfl ?_
                            refine ROps.s rfl rfl rfl ?_
                            refine ROps.s rfl rfl rfl ?_
                            refine ROps.l (r := AV.b true) rfl rfl rfl (LOp.pick_true rfl rfl rfl) ?_
                            refine ROps.l (r := AV.b true) rfl rfl rfl (LOp.move rfl rfl) ?_
                            refine ROps.s rfl rfl rfl ?_
                            refine ROps.s rfl rfl rfl ?_
                            refine ROps.s rfl rfl rfl ?_
                            refine ROps.l (r := AV.b true) rfl rfl rfl (LOp.pick_true rfl rfl rfl) ?_
                            refine ROps.l (r := AV.b true) rfl rfl rfl (LOp.move rfl rfl) ?_
                            refine ROps.s rfl rfl rfl ?_
                            refine ROps.s rfl rfl rfl ?_
                            refine ROps.s rfl rfl rfl ?_
                            refine ROps.l (r := AV.b true) rfl rfl rfl (LOp.pick_true rfl rfl rfl) ?_
                            refine ROps.nil ?_
                            refine RunC.wl (τ' := [(11, AV.optr 9 1 0), (12, AV.oref 8 1 0 r21.length), (16, AV.i64 r35), (145, AV.b true)]) (Γ' := [⟨3, none⟩, ⟨1, none⟩, ⟨1, none⟩, ⟨1, none⟩, ⟨1, none⟩, ⟨2, none⟩, ⟨1, some (r33.map AV.f32)⟩, ⟨1, some (r34.map AV.i64)⟩, ⟨1, some (r36.map AV.i64)⟩, ⟨1, some [AV.i64 r15, AV.i64 r16, AV.oref 6 1 0 r19.length, AV.oref 7 1 0 r20.length]⟩, ⟨1, none⟩, ⟨1, none⟩, ⟨1, none⟩]) ⟨(ALe.refl _), (ALe.refl _), (ALe.refl _), (ALe.refl _), trivial⟩ ⟨⟨rfl, .inl rfl⟩, ⟨rfl, .inl rfl⟩, ⟨rfl, .inl rfl⟩, ⟨rfl, .inl rfl⟩, ⟨rfl, .inl rfl⟩, ⟨rfl, .inl rfl⟩, ⟨rfl, .inr rfl⟩, ⟨rfl, .inr rfl⟩, ⟨rfl, .inr rfl⟩, ⟨rfl, .inr rfl⟩, ⟨rfl, .inl rfl⟩, ⟨rfl, .inl rfl⟩, ⟨rfl, .inl rfl⟩, trivial⟩ ?_
                            refine RunC.cond_true rfl rfl ?_
                            refine RunC.seq ?_
                            refine RunC.regionW ?_
                            refine ROps.l (r := AV.b false) rfl rfl rfl (LOp.assign rfl rfl) ?_
                            refine ROps.nil ?_
                            refine RunC.ret ?_
                            have hq := Option.some.inj h
                            subst q0
                            exact bodyQ.pure (.inr rfl) rfl (Res.one rfl (RV.tmp rfl))
                  · refine RunC.regionW ?_
                    refine ROps.l (r := AV.i64 r28) rfl rfl rfl (LOp.move rfl rfl) ?_
                    refine ROps.l (r := AV.b false) rfl rfl rfl (LOp.eqb (LOp.lss rfl rfl rfl) hc18) ?_
                    refine ROps.l (r := AV.b false) rfl rfl rfl (LOp.move rfl rfl) ?_
                    refine ROps.d (r := AV.agg [AV.i64 r15, AV.i64 r16, AV.oref 6 1 0 r19.length, AV.oref 7 1 0 r20.length]) (fs := []) (Γ' := [⟨2, none⟩, ⟨1, some (r9.map AV.f32)⟩, ⟨1, some (r10.map AV.i64)⟩, ⟨1, some (r11.map AV.i64)⟩, ⟨1, some [AV.i64 r5, AV.i64 r6, AV.oref 1 1 0 r9.length, AV.oref 2 1 0 r10.length]⟩, ⟨1, none⟩, ⟨1, some (r19.map AV.f32)⟩, ⟨1, some (r20.map AV.i64)⟩, ⟨1, some (r21.map AV.i64)⟩, ⟨1, some [AV.i64 r15, AV.i64 r16, AV.oref 6 1 0 r19.length, AV.oref 7 1 0 r20.length]⟩, ⟨0, none⟩, ⟨0, none⟩, ⟨0, none⟩]) rfl rfl rfl (TOp.loadAgg_o rfl agg48 siz48 rfl rfl rfl rfl) rfl ?_
                    refine ROps.d (r := AV.agg [AV.i64 r5, AV.i64 r6, AV.oref 1 1 0 r9.length, AV.oref 2 1 0 r10.length]) (fs := []) (Γ' := [⟨2, none⟩, ⟨1, some (r9.map AV.f32)⟩, ⟨1, some (r10.map AV.i64)⟩, ⟨1, some (r11.map AV.i64)⟩, ⟨1, some [AV.i64 r5, AV.i64 r6, AV.oref 1 1 0 r9.length, AV.oref 2 1 0 r10.length]⟩, ⟨1, none⟩, ⟨1, some (r19.map AV.f32)⟩, ⟨1, some (r20.map AV.i64)⟩, ⟨1, some (r21.map AV.i64)⟩, ⟨1, some [AV.i64 r15, AV.i64 r16, AV.oref 6 1 0 r19.length, AV.oref 7 1 0 r20.length]⟩, ⟨0, none⟩, ⟨0, none⟩, ⟨0, none⟩]) rfl rfl rfl (TOp.loadAgg_o rfl agg48 siz48 rfl rfl rfl rfl) rfl ?_
                    refine ROps.d (r := AV.b true) (fs := []) (Γ' := [⟨2, none⟩, ⟨1, some (r9.map AV.f32)⟩, ⟨1, some (r10.map AV.i64)⟩, ⟨1, some (r11.map AV.i64)⟩, ⟨1, some [AV.i64 r5, AV.i64 r6, AV.oref 1 1 0 r9.length, AV.oref 2 1 0 r10.length]⟩, ⟨1, none⟩, ⟨1, some (r19.map AV.f32)⟩, ⟨1, some (r20.map AV.i64)⟩, ⟨1, some (r21.map AV.i64)⟩, ⟨1, some [AV.i64 r15, AV.i64 r16, AV.oref 6 1 0 r19.length, AV.oref 7 1 0 r20.length]⟩, ⟨0, none⟩, ⟨0, none⟩, ⟨0, none⟩]) rfl rfl rfl (TOp.eqb (TOp.callB (CallAs.func ent29 rfl rfl) (Bors.cons (Bor.agg (Bors.cons (Bor.pure rfl) (Bors.cons (Bor.pure rfl) (Bors.cons (Bor.own (f := AV.f32) (fun _ => rfl) rfl rfl) (Bors.cons (Bor.own (f := AV.i64) (fun _ => rfl) rfl rfl) Bors.nil))))) (Bors.cons (Bor.agg (Bors.cons (Bor.pure rfl) (Bors.cons (Bor.pure rfl) (Bors.cons (Bor.own (f := AV.f32) (fun _ => rfl) rfl rfl) (Bors.cons (Bor.own (f := AV.i64) (fun _ => rfl) rfl rfl) Bors.nil))))) Bors.nil)) rfl rfl (w_eqFactor_ok r15 r16 r19 r20 r5 r6 r9 r10 r30 hf19)) hc20) rfl ?_
                    refine ROps.l (r := AV.b false) rfl rfl rfl (LOp.eqb (LOp.not rfl rfl) rfl) ?_
                    refine ROps.l (r := AV.b false) rfl rfl rfl (LOp.pick_false rfl rfl rfl) ?_
                    refine ROps.l (r := AV.b false) rfl rfl rfl (LOp.move rfl rfl) ?_
                    refine ROps.l (r := AV.oref 8 1 0 r21.length) rfl rfl rfl (LOp.move rfl rfl) ?_
                    refine ROps.l (r := AV.oref 3 1 0 r11.length) rfl rfl rfl (LOp.move rfl rfl) ?_
                    refine ROps.d (r := AV.b false) (fs := []) (Γ' := [⟨2, none⟩, ⟨1, some (r9.map AV.f32)⟩, ⟨1, some (r10.map AV.i64)⟩, ⟨1, some (r11.map AV.i64)⟩, ⟨1, some [AV.i64 r5, AV.i64 r6, AV.oref 1 1 0 r9.length, AV.oref 2 1 0 r10.length]⟩, ⟨1, none⟩, ⟨1, some (r19.map AV.f32)⟩, ⟨1, some (r20.map AV.i64)⟩, ⟨1, some (r21.map AV.i64)⟩, ⟨1, some [AV.i64 r15, AV.i64 r16, AV.oref 6 1 0 r19.length, AV.oref 7 1 0 r20.length]⟩, ⟨0, none⟩, ⟨0, none⟩, ⟨0, none⟩]) rfl rfl rfl (TOp.eqb (TOp.callB (CallAs.func ent14 rfl rfl) (Bors.cons (Bor.own (f := AV.i64) (fun _ => rfl) rfl rfl) (Bors.cons (Bor.own (f := AV.i64) (fun _ => rfl) rfl rfl) Bors.nil)) rfl rfl (w_eqInt64S_ok r21 r11 r31 hf21)) hc22) rfl ?_
                    refine ROps.l (r := AV.b true) rfl rfl rfl (LOp.eqb (LOp.not rfl rfl) rfl) ?_
                    refine ROps.l (r := AV.b true) rfl rfl rfl (LOp.pick_false rfl rfl rfl) ?_
                    refine ROps.l (r := AV.b true) rfl rfl rfl (LOp.move rfl rfl) ?_
                    refine ROps.s rfl rfl rfl ?_
                    refine ROps.s rfl rfl rfl ?_
                    refine ROps.s rfl rfl rfl ?_
                    refine ROps.l (r := AV.b true) rfl rfl rfl (LOp.pick_true rfl rfl rfl) ?_
                    refine ROps.l (r := AV.b true) rfl rfl rfl (LOp.move rfl rfl) ?_
                    refine ROps.s rfl rfl rfl ?_
                    refine ROps.s rfl rfl rfl ?_
                    refine ROps.s rfl rfl rfl ?_
                    refine ROps.l (r := AV.b true) rfl rfl rfl (LOp.pick_true rfl rfl rfl) ?_
                    refine ROps.nil ?_
                    refine RunC.wl (τ' := [(1, AV.f32 a3), (2, AV.ptr [AV.i64 a0, AV.i64 a1, AV.sl a2.length (a2.map AV.f32)]), (6, AV.optr 4 1 0), (7, AV.oref 3 1 0 r11.length), (8, AV.i64 r7), (9, AV.b r8), (11, AV.optr 9 1 0), (12, AV.oref 8 1 0 r21.length), (97, AV.b true)]) (Γ' := [⟨2, none⟩, ⟨1, some (r9.map AV.f32)⟩, ⟨1, some (r10.map AV.i64)⟩, ⟨1, some (r11.map AV.i64)⟩, ⟨1, some [AV.i64 r5, AV.i64 r6, AV.oref 1 1 0 r9.length, AV.oref 2 1 0 r10.length]⟩, ⟨1, none⟩, ⟨1, some (r19.map AV.f32)⟩, ⟨1, some (r20.map AV.i64)⟩, ⟨1, some (r21.map AV.i64)⟩, ⟨1, some [AV.i64 r15, AV.i64 r16, AV.oref 6 1 0 r19.length, AV.oref 7 1 0 r20.length]⟩, ⟨0, none⟩, ⟨0, none⟩, ⟨0, none⟩]) ⟨(ALe.refl _), (ALe.refl _), (ALe.refl _), (ALe.refl _), (ALe.refl _), (ALe.refl _), (ALe.refl _), (ALe.refl _), (ALe.refl _), trivial⟩ ⟨⟨rfl, .inl rfl⟩, ⟨rfl, .inr rfl⟩, ⟨rfl, .inr rfl⟩, ⟨rfl, .inr rfl⟩, ⟨rfl, .inr rfl⟩, ⟨rfl, .inl rfl⟩, ⟨rfl, .inr rfl⟩, ⟨rfl, .inr rfl⟩, ⟨rfl, .inr rfl⟩, ⟨rfl, .inr rfl⟩, ⟨rfl, .inr rfl⟩, ⟨rfl, .inr rfl⟩, ⟨rfl, .inr rfl⟩, trivial⟩ ?_
                    refine RunC.cond_true rfl rfl ?_
                    refine RunC.seq ?_
                    refine RunC.regionW ?_
                    refine ROps.l (r := AV.b false) rfl rfl rfl (LOp.assign rfl rfl) ?_
                    refine ROps.nil ?_
                    refine RunC.ret ?_
                    have hq := Option.some.inj h
                    subst q0
                    exact bodyQ.pure (.inr rfl) rfl (Res.one rfl (RV.tmp rfl))
                · refine RunC.regionW ?_
                  refine ROps.l (r := AV.i64 r28) rfl rfl rfl (LOp.move rfl rfl) ?_
                  refine ROps.l (r := AV.b false) rfl rfl rfl (LOp.eqb (LOp.lss rfl rfl rfl) hc18) ?_
                  refine ROps.l (r := AV.b false) rfl rfl rfl (LOp.move rfl rfl) ?_
                  refine ROps.d (r := AV.agg [AV.i64 r15, AV.i64 r16, AV.oref 6 1 0 r19.length, AV.oref 7 1 0 r20.length]) (fs := []) (Γ' := [⟨2, none⟩, ⟨1, some (r9.map AV.f32)⟩, ⟨1, some (r10.map AV.i64)⟩, ⟨1, some (r11.map AV.i64)⟩, ⟨1, some [AV.i64 r5, AV.i64 r6, AV.oref 1 1 0 r9.length, AV.oref 2 1 0 r10.length]⟩, ⟨1, none⟩, ⟨1, some (r19.map AV.f32)⟩, ⟨1, some (r20.map AV.i64)⟩, ⟨1, some (r21.map AV.i64)⟩, ⟨1, some [AV.i64 r15, AV.i64 r16, AV.oref 6 1 0 r19.length, AV.oref 7 1 0 r20.length]⟩, ⟨0, none⟩, ⟨0, none⟩, ⟨0, none⟩]) rfl rfl rfl (TOp.loadAgg_o rfl agg48 siz48 rfl rfl rfl rfl) rfl ?_
                  refine ROps.d (r := AV.agg [AV.i64 r5, AV.i64 r6, AV.oref 1 1 0 r9.length, AV.oref 2 1 0 r10.length]) (fs := []) (Γ' := [⟨2, none⟩, ⟨1, some (r9.map AV.f32)⟩, ⟨1, some (r10.map AV.i64)⟩, ⟨1, some (r11.map AV.i64)⟩, ⟨1, some [AV.i64 r5, AV.i64 r6, AV.oref 1 1 0 r9.length, AV.oref 2 1 0 r10.length]⟩, ⟨1, none⟩, ⟨1, some (r19.map AV.f32)⟩, ⟨1, some (r20.map AV.i64)⟩, ⟨1, some (r21.map AV.i64)⟩, ⟨1, some [AV.i64 r15, AV.i64 r16, AV.oref 6 1 0 r19.length, AV.oref 7 1 0 r20.length]⟩, ⟨0, none⟩, ⟨0, none⟩, ⟨0, none⟩]) rfl rfl rfl (TOp.loadAgg_o rfl agg48 siz48 rfl rfl rfl rfl) rfl ?_
                  refine ROps.d (r := AV.b false) (fs := []) (Γ' := [⟨2, none⟩, ⟨1, some (r9.map AV.f32)⟩, ⟨1, some (r10.map AV.i64)⟩, ⟨1, some (r11.map AV.i64)⟩, ⟨1, some [AV.i64 r5, AV.i64 r6, AV.oref 1 1 0 r9.length, AV.oref 2 1 0 r10.length]⟩, ⟨1, none⟩, ⟨1, some (r19.map AV.f32)⟩, ⟨1, some (r20.map AV.i64)⟩, ⟨1, some (r21.map AV.i64)⟩, ⟨1, some [AV.i64 r15, AV.i64 r16, AV.oref 6 1 0 r19.length, AV.oref 7 1 0 r20.length]⟩, ⟨0, none⟩, ⟨0, none⟩, ⟨0, none⟩]) rfl rfl rfl (TOp.eqb (TOp.callB (CallAs.func ent29 rfl rfl) (Bors.cons (Bor.agg (Bors.cons (Bor.pure rfl) (Bors.cons (Bor.pure rfl) (Bors.cons (Bor.own (f := AV.f32) (fun _ => rfl) rfl rfl) (Bors.cons (Bor.own (f := AV.i64) (fun _ => rfl) rfl rfl) Bors.nil))))) (Bors.cons (Bor.agg (Bors.cons (Bor.pure rfl) (Bors.cons (Bor.pure rfl) (Bors.cons (Bor.own (f := AV.f32) (fun _ => rfl) rfl rfl) (Bors.cons (Bor.own (f := AV.i64) (fun _ => rfl) rfl rfl) Bors.nil))))) Bors.nil)) rfl rfl (w_eqFactor_ok r15 r16 r19 r20 r5 r6 r9 r10 r30 hf19)) hc20) rfl ?_
                  refine ROps.l (r := AV.b true) rfl rfl rfl (LOp.eqb (LOp.not rfl rfl) rfl) ?_
                  refine ROps.l (r := AV.b true) rfl rfl rfl (LOp.pick_false rfl rfl rfl) ?_
                  refine ROps.l (r := AV.b true) rfl rfl rfl (LOp.move rfl rfl) ?_
                  refine ROps.s rfl rfl rfl ?_
                  refine ROps.s rfl rfl rfl ?_
                  refine ROps.s rfl rfl rfl ?_
                  refine ROps.s rfl rfl rfl ?_
                  refine ROps.l (r := AV.b true) rfl rfl rfl (LOp.pick_true rfl rfl rfl) ?_
                  refine ROps.l (r := AV.b true) rfl rfl rfl (LOp.move rfl rfl) ?_
                  refine ROps.s rfl rfl rfl ?_
                  refine ROps.s rfl rfl rfl ?_
                  refine ROps.s rfl rfl rfl ?_
                  refine ROps.l (r := AV.b true) rfl rfl rfl (LOp.pick_true rfl rfl rfl) ?_
                  refine ROps.l (r := AV.b true) rfl rfl rfl (LOp.move rfl rfl) ?_
                  refine ROps.s rfl rfl rfl ?_
                  refine ROps.s rfl rfl rfl ?_
                  refine ROps.s rfl rfl rfl ?_
                  refine ROps.l (r := AV.b true) rfl rfl rfl (LOp.pick_true rfl rfl rfl) ?_
                  refine ROps.nil ?_
                  refine RunC.wl (τ' := [(1, AV.f32 a3), (2, AV.ptr [AV.i64 a0, AV.i64 a1, AV.sl a2.length (a2.map AV.f32)]), (6, AV.optr 4 1 0), (7, AV.oref 3 1 0 r11.length), (8, AV.i64 r7), (9, AV.b r8), (11, AV.optr 9 1 0), (12, AV.oref 8 1 0 r21.length), (97, AV.b true)]) (Γ' := [⟨2, none⟩, ⟨1, some (r9.map AV.f32)⟩, ⟨1, some (r10.map AV.i64)⟩, ⟨1, some (r11.map AV.i64)⟩, ⟨1, some [AV.i64 r5, AV.i64 r6, AV.oref 1 1 0 r9.length, AV.oref 2 1 0 r10.length]⟩, ⟨1, none⟩, ⟨1, some (r19.map AV.f32)⟩, ⟨1, some (r20.map AV.i64)⟩, ⟨1, some (r21.map AV.i64)⟩, ⟨1, some [AV.i64 r15, AV.i64 r16, AV.oref 6 1 0 r19.length, AV.oref 7 1 0 r20.length]⟩, ⟨0, none⟩, ⟨0, none⟩, ⟨0, none⟩]) ⟨(ALe.refl _), (ALe.refl _), (ALe.refl _), (ALe.refl _), (ALe.refl _), (ALe.refl _), (ALe.refl _), (ALe.refl _), (ALe.refl _), trivial⟩ ⟨⟨rfl, .inl rfl⟩, ⟨rfl, .inr rfl⟩, ⟨rfl, .inr rfl⟩, ⟨rfl, .inr rfl⟩, ⟨rfl, .inr rfl⟩, ⟨rfl, .inl rfl⟩, ⟨rfl, .inr rfl⟩, ⟨rfl, .inr rfl⟩, ⟨rfl, .inr rfl⟩, ⟨rfl, .inr rfl⟩, ⟨rfl, .inr rfl⟩, ⟨rfl, .inr rfl⟩, ⟨rfl, .inr rfl⟩, trivial⟩ ?_
                  refine RunC.cond_true rfl rfl ?_
                  refine RunC.seq ?_
                  refine RunC.regionW ?_
                  refine ROps.l (r := AV.b false) rfl rfl rfl (LOp.assign rfl rfl) ?_
                  refine ROps.nil ?_
                  refine RunC.ret ?_
                  have hq := Option.some.inj h
                  subst q0
                  exact bodyQ.pure (.inr rfl) rfl (Res.one rfl (RV.tmp rfl))
            · refine RunC.region_draw (Γ' := [⟨2, some (r14.map AV.f32)⟩, ⟨1, some (r9.map AV.f32)⟩, ⟨1, some (r10.map AV.i64)⟩, ⟨1, some (r11.map AV.i64)⟩, ⟨1, some [AV.i64 r5, AV.i64 r6, AV.oref 1 1 0 r9.length, AV.oref 2 1 0 r10.length]⟩, ⟨1, some [AV.i64 r12, AV.i64 r13, AV.oref 0 2 0 r14.length]⟩, ⟨1, some (r19.map AV.f32)⟩, ⟨1, some (r20.map AV.i64)⟩, ⟨1, some (r21.map AV.i64)⟩, ⟨1, some [AV.i64 r15, AV.i64 r16, AV.oref 6 1 0 r19.length, AV.oref 7 1 0 r20.length]⟩, ⟨0, none⟩, ⟨0, none⟩, ⟨0, none⟩]) 5 mixed 
                (TR.d (r := AV.agg [AV.i64 r12, AV.i64 r13, AV.oref 0 2 0 r14.length]) (fs := []) rfl rfl (TOp.loadAgg_o rfl agg27 siz27 rfl rfl rfl rfl) <|
                (TR.l (r := AV.agg [AV.i64 a0, AV.i64 a1, AV.sl a2.length (a2.map AV.f32)]) rfl rfl (LOp.loadAgg agg24 siz24 rfl rfl rfl rfl) <|
                (TR.d (r := AV.agg [AV.i64 r24, AV.i64 r25, AV.sl r26.length (r26.map AV.f32)]) (fs := []) rfl rfl (TOp.callS (CallAs.func ent11 rfl rfl) (ALes.cons (ALe.refl _) ALes.nil) (lts_cons (lt_agg (lts_cons rfl (lts_cons rfl (lts_cons (lt_sl (fun _ => rfl)) lts_nil)))) lts_nil) (lt_agg (lts_cons rfl (lts_cons rfl (lts_cons (lt_sl (fun _ => rfl)) lts_nil)))) (w_toMatrix_ok a0 a1 a2 r24 r25 r26 hf13) (Bor.agg (Bors.cons (Bor.pure rfl) (Bors.cons (Bor.pure rfl) (Bors.cons (Bor.own (f := AV.f32) (fun _ => rfl) rfl rfl) Bors.nil))))) <|
                (TR.d (r := AV.b false) (fs := []) rfl rfl (TOp.eqb (TOp.callB (CallAs.func ent13 rfl rfl) (Bors.cons (Bor.agg (Bors.cons (Bor.pure rfl) (Bors.cons (Bor.pure rfl) (Bors.cons (Bor.own (f := AV.f32) (fun _ => rfl) rfl rfl) Bors.nil)))) (Bors.cons (Bor.agg (Bors.cons (Bor.pure rfl) (Bors.cons (Bor.pure rfl) (Bors.cons (Bor.sl (fun _ => rfl)) Bors.nil)))) Bors.nil)) rfl rfl (w_eqMatrix_ok r12 r13 r14 r24 r25 r26 r27 hf14)) hc15) <|
                (TR.l (r := AV.b true) rfl rfl (LOp.eqb (LOp.not rfl rfl) rfl) <|
                TR.nil))))) rfl (by kernel_rfl) rfl fills_nil rfl ?_
              iterate 5 refine ROps.dropS ?_
              refine ROps.drop0 ?_
              refine ROps.nil ?_
              refine RunC.cond_true rfl rfl ?_
              refine RunC.seq ?_
              refine RunC.regionW ?_
              refine ROps.l (r := AV.b false) rfl rfl rfl (LOp.assign rfl rfl) ?_
              refine ROps.nil ?_
              refine RunC.ret ?_
              have hq := Option.some.inj h
              subst q0
              exact bodyQ.pure (.inr rfl) rfl (Res.one rfl (RV.tmp rfl))
      · refine RunC.regionW ?_
        refine ROps.d (r := AV.agg [AV.i64 r15, AV.i64 r16, AV.oref 6 1 0 r19.length, AV.oref 7 1 0 r20.length]) (fs := []) (Γ' := [⟨2, some (r14.map AV.f32)⟩, ⟨1, some (r9.map AV.f32)⟩, ⟨1, some (r10.map AV.i64)⟩, ⟨1, some (r11.map AV.i64)⟩, ⟨1, some [AV.i64 r5, AV.i64 r6, AV.oref 1 1 0 r9.length, AV.oref 2 1 0 r10.length]⟩, ⟨1, some [AV.i64 r12, AV.i64 r13, AV.oref 0 2 0 r14.length]⟩, ⟨1, some (r19.map AV.f32)⟩, ⟨1, some (r20.map AV.i64)⟩, ⟨1, some (r21.map AV.i64)⟩, ⟨1, some [AV.i64 r15, AV.i64 r16, AV.oref 6 1 0 r19.length, AV.oref 7 1 0 r20.length]⟩, ⟨0, none⟩, ⟨0, none⟩, ⟨0, none⟩]) rfl rfl rfl (TOp.loadAgg_o rfl agg48 siz48 rfl rfl rfl rfl) rfl ?_
        refine ROps.d (r := AV.agg [AV.i64 r5, AV.i64 r6, AV.oref 1 1 0 r9.length, AV.oref 2 1 0 r10.length]) (fs := []) (Γ' := [⟨2, some (r14.map AV.f32)⟩, ⟨1, some (r9.map AV.f32)⟩, ⟨1, some (r10.map AV.i64)⟩, ⟨1, some (r11.map AV.i64)⟩, ⟨1, some [AV.i64 r5, AV.i64 r6, AV.oref 1 1 0 r9.length, AV.oref 2 1 0 r10.length]⟩, ⟨1, some [AV.i64 r12, AV.i64 r13, AV.oref 0 2 0 r14.length]⟩, ⟨1, some (r19.map AV.f32)⟩, ⟨1, some (r20.map AV.i64)⟩, ⟨1, some (r21.map AV.i64)⟩, ⟨1, some [AV.i64 r15, AV.i64 r16, AV.oref 6 1 0 r19.length, AV.oref 7 1 0 r20.length]⟩, ⟨0, none⟩, ⟨0, none⟩, ⟨0, none⟩]) rfl rfl rfl (TOp.loadAgg_o rfl agg48 siz48 rfl rfl rfl rfl) rfl ?_
        refine ROps.d (r := AV.b true) (fs := []) (Γ' := [⟨2, some (r14.map AV.f32)⟩, ⟨1, some (r9.map AV.f32)⟩, ⟨1, some (r10.map AV.i64)⟩, ⟨1, some (r11.map AV.i64)⟩, ⟨1, some [AV.i64 r5, AV.i64 r6, AV.oref 1 1 0 r9.length, AV.oref 2 1 0 r10.length]⟩, ⟨1, some [AV.i64 r12, AV.i64 r13, AV.oref 0 2 0 r14.length]⟩, ⟨1, some (r19.map AV.f32)⟩, ⟨1, some (r20.map AV.i64)⟩, ⟨1, some (r21.map AV.i64)⟩, ⟨1, some [AV.i64 r15, AV.i64 r16, AV.oref 6 1 0 r19.length, AV.oref 7 1 0 r20.length]⟩, ⟨0, none⟩, ⟨0, none⟩, ⟨0, none⟩]) rfl rfl rfl (TOp.eqb (TOp.callB (CallAs.func ent29 rfl rfl) (Bors.cons (Bor.agg (Bors.cons (Bor.pure rfl) (Bors.cons (Bor.pure rfl) (Bors.cons (Bor.own (f := AV.f32) (fun _ => rfl) rfl rfl) (Bors.cons (Bor.own (f := AV.i64) (fun _ => rfl) rfl rfl) Bors.nil))))) (Bors.cons (Bor.agg (Bors.cons (Bor.pure rfl) (Bors.cons (Bor.pure rfl) (Bors.cons (Bor.own (f := AV.f32) (fun _ => rfl) rfl rfl) (Bors.cons (Bor.own (f := AV.i64) (fun _ => rfl) rfl rfl) Bors.nil))))) Bors.nil)) rfl rfl (w_eqFactor_ok r15 r16 r19 r20 r5 r6 r9 r10 r22 hf7)) hc8) rfl ?_
        refine ROps.l (r := AV.b false) rfl rfl rfl (LOp.eqb (LOp.not rfl rfl) rfl) ?_
        refine ROps.l (r := AV.b false) rfl rfl rfl (LOp.move rfl rfl) ?_
        refine ROps.l (r := AV.oref 8 1 0 r21.length) rfl rfl rfl (LOp.move rfl rfl) ?_
        refine ROps.l (r := AV.oref 3 1 0 r11.length) rfl rfl rfl (LOp.move rfl rfl) ?_
        refine ROps.d (r := AV.b false) (fs := []) (Γ' := [⟨2, some (r14.map AV.f32)⟩, ⟨1, some (r9.map AV.f32)⟩, ⟨1, some (r10.map AV.i64)⟩, ⟨1, some (r11.map AV.i64)⟩, ⟨1, some [AV.i64 r5, AV.i64 r6, AV.oref 1 1 0 r9.length, AV.oref 2 1 0 r10.length]⟩, ⟨1, some [AV.i64 r12, AV.i64 r13, AV.oref 0 2 0 r14.length]⟩, ⟨1, some (r19.map AV.f32)⟩, ⟨1, some (r20.map AV.i64)⟩, ⟨1, some (r21.map AV.i64)⟩, ⟨1, some [AV.i64 r15, AV.i64 r16, AV.oref 6 1 0 r19.length, AV.oref 7 1 0 r20.length]⟩, ⟨0, none⟩, ⟨0, none⟩, ⟨0, none⟩]) rfl rfl rfl (TOp.eqb (TOp.callB (CallAs.func ent14 rfl rfl) (Bors.cons (Bor.own (f := AV.i64) (fun _ => rfl) rfl rfl) (Bors.cons (Bor.own (f := AV.i64) (fun _ => rfl) rfl rfl) Bors.nil)) rfl rfl (w_eqInt64S_ok r21 r11 r23 hf9)) hc10) rfl ?_
        refine ROps.l (r := AV.b true) rfl rfl rfl (LOp.eqb (LOp.not rfl rfl) rfl) ?_
        refine ROps.l (r := AV.b true) rfl rfl rfl (LOp.pick_false rfl rfl rfl) ?_
        refine ROps.l (r := AV.b true) rfl rfl rfl (LOp.move rfl rfl) ?_
        refine ROps.s rfl rfl rfl ?_
        refine ROps.s rfl rfl rfl ?_
        refine ROps.s rfl rfl rfl ?_
        refine ROps.l (r := AV.b true) rfl rfl rfl (LOp.pick_true rfl rfl rfl) ?_
        refine ROps.l (r := AV.b true) rfl rfl rfl (LOp.move rfl rfl) ?_
        refine ROps.s rfl rfl rfl ?_
        refine ROps.s rfl rfl rfl ?_
        refine ROps.s rfl rfl rfl ?_
        refine ROps.l (r := AV.b true) rfl rfl rfl (LOp.pick_true rfl rfl rfl) ?_
        refine ROps.nil ?_
        refine RunC.cond_true rfl rfl ?_
        refine RunC.seq ?_
        refine RunC.regionW ?_
        refine ROps.l (r := AV.b false) rfl rfl rfl (LOp.assign rfl rfl) ?_
        refine ROps.nil ?_
        refine RunC.ret ?_
        have hq := Option.some.inj h
        subst q0
        exact bodyQ.pure (.inr rfl) rfl (Res.one rfl (RV.tmp rfl))
    · refine RunC.regionW ?_
      refine ROps.d (r := AV.agg [AV.i64 r15, AV.i64 r16, AV.oref 6 1 0 r19.length, AV.oref 7 1 0 r20.length]) (fs := []) (Γ' := [⟨2, some (r14.map AV.f32)⟩, ⟨1, some (r9.map AV.f32)⟩, ⟨1, some (r10.map AV.i64)⟩, ⟨1, some (r11.map AV.i64)⟩, ⟨1, some [AV.i64 r5, AV.i64 r6, AV.oref 1 1 0 r9.length, AV.oref 2 1 0 r10.length]⟩, ⟨1, some [AV.i64 r12, AV.i64 r13, AV.oref 0 2 0 r14.length]⟩, ⟨1, some (r19.map AV.f32)⟩, ⟨1, some (r20.map AV.i64)⟩, ⟨1, some (r21.map AV.i64)⟩, ⟨1, some [AV.i64 r15, AV.i64 r16, AV.oref 6 1 0 r19.length, AV.oref 7 1 0 r20.length]⟩, ⟨0, none⟩, ⟨0, none⟩, ⟨0, none⟩]) rfl rfl rfl (TOp.loadAgg_o rfl agg48 siz48 rfl rfl rfl rfl) rfl ?_
      refine ROps.d (r := AV.agg [AV.i64 r5, AV.i64 r6, AV.oref 1 1 0 r9.length, AV.oref 2 1 0 r10.length]) (fs := []) (Γ' := [⟨2, some (r14.map AV.f32)⟩, ⟨1, some (r9.map AV.f32)⟩, ⟨1, some (r10.map AV.i64)⟩, ⟨1, some (r11.map AV.i64)⟩, ⟨1, some [AV.i64 r5, AV.i64 r6, AV.oref 1 1 0 r9.length, AV.oref 2 1 0 r10.length]⟩, ⟨1, some [AV.i64 r12, AV.i64 r13, AV.oref 0 2 0 r14.length]⟩, ⟨1, some (r19.map AV.f32)⟩, ⟨1, some (r20.map AV.i64)⟩, ⟨1, some (r21.map AV.i64)⟩, ⟨1, some [AV.i64 r15, AV.i64 r16, AV.oref 6 1 0 r19.length, AV.oref 7 1 0 r20.length]⟩, ⟨0, none⟩, ⟨0, none⟩, ⟨0, none⟩]) rfl rfl rfl (TOp.loadAgg_o rfl agg48 siz48 rfl rfl rfl rfl) rfl ?_
      refine ROps.d (r := AV.b false) (fs := []) (Γ' := [⟨2, some (r14.map AV.f32)⟩, ⟨1, some (r9.map AV.f32)⟩, ⟨1, some (r10.map AV.i64)⟩, ⟨1, some (r11.map AV.i64)⟩, ⟨1, some [AV.i64 r5, AV.i64 r6, AV.oref 1 1 0 r9.length, AV.oref 2 1 0 r10.length]⟩, ⟨1, some [AV.i64 r12, AV.i64 r13, AV.oref 0 2 0 r14.length]⟩, ⟨1, some (r19.map AV.f32)⟩, ⟨1, some (r20.map AV.i64)⟩, ⟨1, some (r21.map AV.i64)⟩, ⟨1, some [AV.i64 r15, AV.i64 r16, AV.oref 6 1 0 r19.length, AV.oref 7 1 0 r20.length]⟩, ⟨0, none⟩, ⟨0, none⟩, ⟨0, none⟩]) rfl rfl rfl (TOp.eqb (TOp.callB (CallAs.func ent29 rfl rfl) (Bors.cons (Bor.agg (Bors.cons (Bor.pure rfl) (Bors.cons (Bor.pure rfl) (Bors.cons (Bor.own (f := AV.f32) (fun _ => rfl) rfl rfl) (Bors.cons (Bor.own (f := AV.i64) (fun _ => rfl) rfl rfl) Bors.nil))))) (Bors.cons (Bor.agg (Bors.cons (Bor.pure rfl) (Bors.cons (Bor.pure rfl) (Bors.cons (Bor.own (f := AV.f32) (fun _ => rfl) rfl rfl) (Bors.cons (Bor.own (f := AV.i64) (fun _ => rfl) rfl rfl) Bors.nil))))) Bors.nil)) rfl rfl (w_eqFactor_ok r15 r16 r19 r20 r5 r6 r9 r10 r22 hf7)) hc8) rfl ?_
      refine ROps.l (r := AV.b true) rfl rfl rfl (LOp.eqb (LOp.not rfl rfl) rfl) ?_
      refine ROps.l (r := AV.b true) rfl rfl rfl (LOp.move rfl rfl) ?_
      refine ROps.s rfl rfl rfl ?_
      refine ROps.s rfl rfl rfl ?_
      refine ROps.s rfl rfl rfl ?_
      refine ROps.s rfl rfl rfl ?_
      refine ROps.l (r := AV.b true) rfl rfl rfl (LOp.pick_true rfl rfl rfl) ?_
      refine ROps.l (r := AV.b true) rfl rfl rfl (LOp.move rfl rfl) ?_
      refine ROps.s rfl rfl rfl ?_
      refine ROps.s rfl rfl rfl ?_
      refine ROps.s rfl rfl rfl ?_
      refine ROps.l (r := AV.b true) rfl rfl rfl (LOp.pick_true rfl rfl rfl) ?_
      refine ROps.l (r := AV.b true) rfl rfl rfl (LOp.move rfl rfl) ?_
      refine ROps.s rfl rfl rfl ?_
      refine ROps.s rfl rfl rfl ?_
      refine ROps.s rfl rfl rfl ?_
      refine ROps.l (r := AV.b true) rfl rfl rfl (LOp.pick_true rfl rfl rfl) ?_
      refine ROps.nil ?_
      refine RunC.cond_true rfl rfl ?_
      refine RunC.seq ?_
      refine RunC.regionW ?_
      refine ROps.l (r := AV.b false) rfl rfl rfl (LOp.assign rfl rfl) ?_
      refine ROps.nil ?_
      refine RunC.ret ?_
      have hq := Option.some.inj h
      subst q0
      exact bodyQ.pure (.inr rfl) rfl (Res.one rfl (RV.tmp rfl))
end Go.Proofs.Ytjbifkimffmhpaa
