/- Generated. -/
import Derived.Test.YtjbifkimffmhpaaG1
namespace Go.Proofs.Ytjbifkimffmhpaa
open Go Go.AM
set_option maxRecDepth 20000
set_option maxHeartbeats 4000000
set_option linter.unusedVariables false
set_option linter.unusedSimpArgs false
noncomputable def w_FnExactSideTurns (a0 : Int) (a1 : Int) (a2 : List F) (a3 : Int) : Option (Bool) :=
  obind (w_szMatrix a0 a1 a2 1048576) fun (r1 : Int) =>
  bsel (decide (r1 < 0)) (
    some true) (
    obind3 (w_toMatrix a0 a1 a2) fun (r2 : Int) (r3 : Int) (r4 : List F) =>
    obind7 (s_SideTurns r2 r3 r4 a3) fun (r5 : Int) (r6 : Int) (r7 : Int) (r8 : Int) (r9 : Bool) (r10 : List F) (r11 : List F) =>
    obind3 (w_toMatrix a0 a1 a2) fun (r12 : Int) (r13 : Int) (r14 : List F) =>
    obind7 (i_SideTurns r12 r13 r14 a3) fun (r15 : Int) (r16 : Int) (r17 : Int) (r18 : Int) (r19 : Bool) (r20 : List F) (r21 : List F) =>
    obind (w_eqMatrix r15 r16 r20 r5 r6 r10) fun (r22 : Bool) =>
    bsel r22 (
      obind (w_eqMatrix r17 r18 r21 r7 r8 r11) fun (r23 : Bool) =>
      bsel r23 (
        bsel (!(r19 == r9)) (
          some false) (
          obind3 (w_toMatrix a0 a1 a2) fun (r24 : Int) (r25 : Int) (r26 : List F) =>
          obind (w_eqMatrix r12 r13 r14 r24 r25 r26) fun (r27 : Bool) =>
          bsel r27 (
            obind2 (w_markMatrix_02o r12 r13 1 r14) fun (r28 : Int) (r29 : List F) =>
            need (decide (r29.length = r14.length)) <|
            bsel (decide (r28 < 0)) (
              some false) (
              obind (w_eqMatrix r15 r16 r20 r5 r6 r10) fun (r30 : Bool) =>
              bsel r30 (
                obind (w_eqMatrix r17 r18 r21 r7 r8 r11) fun (r31 : Bool) =>
                bsel r31 (
                  obind2 (w_markMatrix_02o r15 r16 1 r20) fun (r32 : Int) (r33 : List F) =>
                  need (decide (r33.length = r20.length)) <|
                  obind2 (w_markMatrix_02o r17 r18 r32 r21) fun (r34 : Int) (r35 : List F) =>
                  need (decide (r35.length = r21.length)) <|
                  obind (w_heldMatrix r15 r16 r33 1) fun (r36 : Int) =>
                  bsel (decide (r36 < 0)) (
                    some false) (
                    obind (w_heldMatrix r17 r18 r35 r36) fun (r37 : Int) =>
                    bsel (decide (r37 < 0)) (
                      some false) (
                      bsel (!decide (r37 = r34)) (
                        some false) (
                        obind3 (w_toMatrix a0 a1 a2) fun (r38 : Int) (r39 : Int) (r40 : List F) =>
                        obind7 (i_SideTurns r38 r39 r40 a3) fun (r41 : Int) (r42 : Int) (r43 : Int) (r44 : Int) (r45 : Bool) (r46 : List F) (r47 : List F) =>
                        obind (w_eqMatrix r41 r42 r46 r5 r6 r10) fun (r48 : Bool) =>
                        bsel r48 (
                          obind (w_eqMatrix r43 r44 r47 r7 r8 r11) fun (r49 : Bool) =>
                          bsel r49 (
                            bsel (!(r45 == r9)) (
                              some false) (
                              obind (w_heldMatrix r15 r16 r33 1) fun (r50 : Int) =>
                              bsel (decide (r50 < 0)) (
                                some false) (
                                obind (w_heldMatrix r17 r18 r35 r50) fun (r51 : Int) =>
                                bsel (decide (r51 < 0)) (
                                  some false) (
                                  bsel (!decide (r51 = r34)) (
                                    some false) (
                                    some true))))) (
                            some false)) (
                          some false))))) (
                  some false)) (
                some false))) (
            some false))) (
        some false)) (
      some false))
theorem w_FnExactSideTurns_ok (a0 : Int) (a1 : Int) (a2 : List F) (a3 : Int) (q0 : Bool) (h : w_FnExactSideTurns a0 a1 a2 a3 = some q0) : Ev Try.prog 8 [AV.agg [AV.i64 a0, AV.i64 a1, AV.sl a2.length (a2.map AV.f32)], AV.i64 a3] [] (AV.b q0) [] := by
  refine Ev.start Try.func8 rfl rfl 13 (τ := [(0, AV.agg [AV.i64 a0, AV.i64 a1, AV.sl a2.length (a2.map AV.f32)]), (1, AV.i64 a3)]) rfl (Γ' := [⟨0, none⟩, ⟨0, none⟩, ⟨0, none⟩, ⟨0, none⟩, ⟨0, none⟩, ⟨0, none⟩, ⟨0, none⟩, ⟨0, none⟩, ⟨0, none⟩, ⟨0, none⟩, ⟨0, none⟩, ⟨0, none⟩, ⟨0, none⟩]) rfl (n := 138) rfl (g := 0) rfl ?_
  unfold w_FnExactSideTurns at h
  refine RunC.seq ?_
  refine RunC.regionW ?_
  refine ROps.d (r := AV.ptr [AV.i64 a0, AV.i64 a1, AV.sl a2.length (a2.map AV.f32)]) (fs := []) (Γ' := [⟨0, none⟩, ⟨0, none⟩, ⟨0, none⟩, ⟨0, none⟩, ⟨0, none⟩, ⟨0, none⟩, ⟨0, none⟩, ⟨0, none⟩, ⟨0, none⟩, ⟨0, none⟩, ⟨0, none⟩, ⟨0, none⟩, ⟨0, none⟩]) rfl rfl rfl (TOp.box_s rfl rfl rfl) rfl ?_
  refine ROps.l (r := AV.b false) rfl rfl rfl (LOp.assign rfl rfl) ?_
  refine ROps.nil ?_
  refine RunC.seq ?_
  refine RunC.regionW ?_
  refine ROps.l (r := AV.i64 1048576) rfl rfl rfl (LOp.assign rfl rfl) ?_
  refine ROps.nil ?_
  refine RunC.seq ?_
  obtain ⟨r1, hf1, h⟩ := obind_some h
  refine RunC.regionW ?_
  refine ROps.l (r := AV.agg [AV.i64 a0, AV.i64 a1, AV.sl a2.length (a2.map AV.f32)]) rfl rfl rfl (LOp.loadAgg agg24 siz24 rfl rfl rfl rfl) ?_
  refine ROps.l (r := AV.i64 1048576) rfl rfl rfl (LOp.move rfl rfl) ?_
  refine ROps.d (r := AV.i64 r1) (fs := []) (Γ' := [⟨0, none⟩, ⟨0, none⟩, ⟨0, none⟩, ⟨0, none⟩, ⟨0, none⟩, ⟨0, none⟩, ⟨0, none⟩, ⟨0, none⟩, ⟨0, none⟩, ⟨0, none⟩, ⟨0, none⟩, ⟨0, none⟩, ⟨0, none⟩]) rfl rfl rfl (TOp.callB (CallAs.func ent9 rfl rfl) (Bors.cons (Bor.agg (Bors.cons (Bor.pure rfl) (Bors.cons (Bor.pure rfl) (Bors.cons (Bor.sl (fun _ => rfl)) Bors.nil)))) (Bors.cons (Bor.pure rfl) Bors.nil)) rfl rfl (w_szMatrix_ok a0 a1 a2 1048576 r1 hf1)) rfl ?_
  refine ROps.l (r := AV.i64 r1) rfl rfl rfl (LOp.assign rfl rfl) ?_
  refine ROps.nil ?_
  refine RunC.seq ?_
  refine RunC.seq ?_
  rcases bsel_some h with ⟨hc2, h⟩ | ⟨hc2, h⟩
  · refine RunC.regionW ?_
    refine ROps.l (r := AV.i64 r1) rfl rfl rfl (LOp.move rfl rfl) ?_
    refine ROps.l (r := AV.b true) rfl rfl rfl (LOp.eqb (LOp.lss rfl rfl rfl) hc2) ?_
    refine ROps.nil ?_
    refine RunC.cond_true rfl rfl ?_
    refine RunC.seq ?_
    refine RunC.regionW ?_
    refine ROps.l (r := AV.b true) rfl rfl rfl (LOp.assign rfl rfl) ?_
    refine ROps.nil ?_
    refine RunC.ret ?_
    have hq := Option.some.inj h
    subst q0
    exact bodyQ.pure (.inr rfl) rfl (Res.one rfl (RV.tmp rfl))
  · refine RunC.regionW ?_
    refine ROps.l (r := AV.i64 r1) rfl rfl rfl (LOp.move rfl rfl) ?_
    refine ROps.l (r := AV.b false) rfl rfl rfl (LOp.eqb (LOp.lss rfl rfl rfl) hc2) ?_
    refine ROps.nil ?_
    refine RunC.cond_false rfl rfl ?_
    refine RunC.skip ?_
    refine RunC.seq ?_
    obtain ⟨r2, r3, r4, hf3, h⟩ := obind3_some h
    obtain ⟨r5, r6, r7, r8, r9, r10, r11, hf4, h⟩ := obind7_some h
    refine RunC.regionW ?_
    refine ROps.l (r := AV.agg [AV.i64 a0, AV.i64 a1, AV.sl a2.length (a2.map AV.f32)]) rfl rfl rfl (LOp.loadAgg agg24 siz24 rfl rfl rfl rfl) ?_
    refine ROps.d (r := AV.agg [AV.i64 r2, AV.i64 r3, AV.oref 0 1 0 r4.length]) (fs := [(0, (r4.map AV.f32))]) (Γ' := [⟨1, some (r4.map AV.f32)⟩, ⟨0, none⟩, ⟨0, none⟩, ⟨0, none⟩, ⟨0, none⟩, ⟨0, none⟩, ⟨0, none⟩, ⟨0, none⟩, ⟨0, none⟩, ⟨0, none⟩, ⟨0, none⟩, ⟨0, none⟩, ⟨0, none⟩]) rfl rfl rfl (TOp.callBN (ls := [(r4.map AV.f32)]) [0] (CallAs.func ent11 rfl rfl) (Bors.cons (Bor.agg (Bors.cons (Bor.pure rfl) (Bors.cons (Bor.pure rfl) (Bors.cons (Bor.sl (fun _ => rfl)) Bors.nil)))) Bors.nil) rfl (w_toMatrix_ok a0 a1 a2 r2 r3 r4 hf3) (and_all (lts0_map (f := AV.f32) (fun _ => rfl) _) rfl) (and_all (noss_map (f := AV.f32) (fun _ => rfl) _) rfl) rfl (by decide) (ns_of ⟨⟨_, rfl⟩, trivial⟩)) rfl ?_
    refine ROps.l (r := AV.i64 a3) rfl rfl rfl (LOp.move rfl rfl) ?_
    refine ROps.d (r := AV.tup [AV.agg [AV.i64 r5, AV.i64 r6, AV.oref 1 1 0 r10.length], AV.agg [AV.i64 r7, AV.i64 r8, AV.oref 2 1 0 r11.length], AV.b r9]) (fs := [(1, (r10.map AV.f32)), (2, (r11.map AV.f32))]) (Γ' := [⟨1, some (r4.map AV.f32)⟩, ⟨1, some (r10.map AV.f32)⟩, ⟨1, some (r11.map AV.f32)⟩, ⟨0, none⟩, ⟨0, none⟩, ⟨0, none⟩, ⟨0, none⟩, ⟨0, none⟩, ⟨0, none⟩, ⟨0, none⟩, ⟨0, none⟩, ⟨0, none⟩, ⟨0, none⟩]) rfl rfl rfl (TOp.callBN (ls := [(r10.map AV.f32), (r11.map AV.f32)]) [1, 2] (CallAs.func ent34 rfl rfl) (Bors.cons (Bor.agg (Bors.cons (Bor.pure rfl) (Bors.cons (Bor.pure rfl) (Bors.cons (Bor.own (f := AV.f32) (fun _ => rfl) rfl rfl) Bors.nil)))) (Bors.cons (Bor.pure rfl) Bors.nil)) rfl (s_SideTurns_ok r2 r3 r4 a3 r5 r6 r7 r8 r9 r10 r11 hf4) (and_all (lts0_map (f := AV.f32) (fun _ => rfl) _) (and_all (lts0_map (f := AV.f32) (fun _ => rfl) _) rfl)) (and_all (noss_map (f := AV.f32) (fun _ => rfl) _) (and_all (noss_map (f := AV.f32) (fun _ => rfl) _) rfl)) rfl (by decide) (ns_of ⟨⟨_, rfl⟩, ⟨_, rfl⟩, trivial⟩)) rfl ?_
    refine ROps.l (r := AV.tup [AV.agg [AV.i64 r5, AV.i64 r6, AV.oref 1 1 0 r10.length], AV.agg [AV.i64 r7, AV.i64 r8, AV.oref 2 1 0 r11.length], AV.b r9]) rfl rfl rfl (LOp.move rfl rfl) ?_
    refine ROps.l (r := AV.agg [AV.i64 r5, AV.i64 r6, AV.oref 1 1 0 r10.length]) rfl rfl rfl (LOp.extract rfl rfl rfl) ?_
    refine ROps.l (r := AV.agg [AV.i64 r7, AV.i64 r8, AV.oref 2 1 0 r11.length]) rfl rfl rfl (LOp.extract rfl rfl rfl) ?_
    refine ROps.l (r := AV.b r9) rfl rfl rfl (LOp.extract rfl rfl rfl) ?_
    refine ROps.d (r := AV.optr 3 1 0) (fs := [(3, [AV.i64 0, AV.i64 0, AV.nilsl])]) (Γ' := [⟨1, some (r4.map AV.f32)⟩, ⟨1, some (r10.map AV.f32)⟩, ⟨1, some (r11.map AV.f32)⟩, ⟨1, some [AV.i64 0, AV.i64 0, AV.nilsl]⟩, ⟨0, none⟩, ⟨0, none⟩, ⟨0, none⟩, ⟨0, none⟩, ⟨0, none⟩, ⟨0, none⟩, ⟨0, none⟩, ⟨0, none⟩, ⟨0, none⟩]) rfl rfl rfl (TOp.alloc_o (g := ⟨0, none⟩) 3 rfl zer27 zok27 rfl) rfl ?_
    refine ROps.d (r := AV.optr 4 1 0) (fs := [(4, [AV.i64 0, AV.i64 0, AV.nilsl])]) (Γ' := [⟨1, some (r4.map AV.f32)⟩, ⟨1, some (r10.map AV.f32)⟩, ⟨1, some (r11.map AV.f32)⟩, ⟨1, some [AV.i64 0, AV.i64 0, AV.nilsl]⟩, ⟨1, some [AV.i64 0, AV.i64 0, AV.nilsl]⟩, ⟨0, none⟩, ⟨0, none⟩, ⟨0, none⟩, ⟨0, none⟩, ⟨0, none⟩, ⟨0, none⟩, ⟨0, none⟩, ⟨0, none⟩]) rfl rfl rfl (TOp.alloc_o (g := ⟨0, none⟩) 4 rfl zer27 zok27 rfl) rfl ?_
    refine ROps.store_le (r := AV.agg [AV.i64 r5, AV.i64 r6, AV.oref 1 1 0 r10.length]) (l' := [AV.i64 r5, AV.i64 r6, AV.oref 1 1 0 r10.length]) (Γ' := [⟨1, some (r4.map AV.f32)⟩, ⟨1, some (r10.map AV.f32)⟩, ⟨1, some (r11.map AV.f32)⟩, ⟨1, some [AV.i64 r5, AV.i64 r6, AV.oref 1 1 0 r10.length]⟩, ⟨1, some [AV.i64 0, AV.i64 0, AV.nilsl]⟩, ⟨0, none⟩, ⟨0, none⟩, ⟨0, none⟩, ⟨0, none⟩, ⟨0, none⟩, ⟨0, none⟩, ⟨0, none⟩, ⟨0, none⟩]) rfl siz27 rfl rfl rfl (ALe.refl _) rfl rfl rfl rfl (Nat.le_of_ble_eq_true rfl) rfl rfl ?_
    refine ROps.store_le (r := AV.agg [AV.i64 r7, AV.i64 r8, AV.oref 2 1 0 r11.length]) (l' := [AV.i64 r7, AV.i64 r8, AV.oref 2 1 0 r11.length]) (Γ' := [⟨1, some (r4.map AV.f32)⟩, ⟨1, some (r10.map AV.f32)⟩, ⟨1, some (r11.map AV.f32)⟩, ⟨1, some [AV.i64 r5, AV.i64 r6, AV.oref 1 1 0 r10.length]⟩, ⟨1, some [AV.i64 r7, AV.i64 r8, AV.oref 2 1 0 r11.length]⟩, ⟨0, none⟩, ⟨0, none⟩, ⟨0, none⟩, ⟨0, none⟩, ⟨0, none⟩, ⟨0, none⟩, ⟨0, none⟩, ⟨0, none⟩]) rfl siz27 rfl rfl rfl (ALe.refl _) rfl rfl rfl rfl (Nat.le_of_ble_eq_true rfl) rfl rfl ?_
    refine ROps.l (r := AV.b r9) rfl rfl rfl (LOp.assign rfl rfl) ?_
    refine ROps.nil ?_
    refine RunC.wl (τ' := [(1, AV.i64 a3), (2, AV.ptr [AV.i64 a0, AV.i64 a1, AV.sl a2.length (a2.map AV.f32)]), (6, AV.optr 3 1 0), (7, AV.optr 4 1 0), (8, AV.b r9)]) (Γ' := [⟨1, none⟩, ⟨1, some (r10.map AV.f32)⟩, ⟨1, some (r11.map AV.f32)⟩, ⟨1, some [AV.i64 r5, AV.i64 r6, AV.oref 1 1 0 r10.length]⟩, ⟨1, some [AV.i64 r7, AV.i64 r8, AV.oref 2 1 0 r11.length]⟩, ⟨0, none⟩, ⟨0, none⟩, ⟨0, none⟩, ⟨0, none⟩, ⟨0, none⟩, ⟨0, none⟩, ⟨0, none⟩, ⟨0, none⟩]) ⟨(ALe.refl _), (ALe.refl _), (ALe.refl _), (ALe.refl _), (ALe.refl _), trivial⟩ ⟨⟨rfl, .inl rfl⟩, ⟨rfl, .inr rfl⟩, ⟨rfl, .inr rfl⟩, ⟨rfl, .inr rfl⟩, ⟨rfl, .inr rfl⟩, ⟨rfl, .inr rfl⟩, ⟨rfl, .inr rfl⟩, ⟨rfl, .inr rfl⟩, ⟨rfl, .inr rfl⟩, ⟨rfl, .inr rfl⟩, ⟨rfl, .inr rfl⟩, ⟨rfl, .inr rfl⟩, ⟨rfl, .inr rfl⟩, trivial⟩ ?_
    refine RunC.seq ?_
    obtain ⟨r12, r13, r14, hf5, h⟩ := obind3_some h
    refine RunC.regionW ?_
    refine ROps.l (r := AV.agg [AV.i64 a0, AV.i64 a1, AV.sl a2.length (a2.map AV.f32)]) rfl rfl rfl (LOp.loadAgg agg24 siz24 rfl rfl rfl rfl) ?_
    refine ROps.d (r := AV.agg [AV.i64 r12, AV.i64 r13, AV.oref 0 2 0 r14.length]) (fs := [(0, (r14.map AV.f32))]) (Γ' := [⟨2, some (r14.map AV.f32)⟩, ⟨1, some (r10.map AV.f32)⟩, ⟨1, some (r11.map AV.f32)⟩, ⟨1, some [AV.i64 r5, AV.i64 r6, AV.oref 1 1 0 r10.length]⟩, ⟨1, some [AV.i64 r7, AV.i64 r8, AV.oref 2 1 0 r11.length]⟩, ⟨0, none⟩, ⟨0, none⟩, ⟨0, none⟩, ⟨0, none⟩, ⟨0, none⟩, ⟨0, none⟩, ⟨0, none⟩, ⟨0, none⟩]) rfl rfl rfl (TOp.callBN (ls := [(r14.map AV.f32)]) [0] (CallAs.func ent11 rfl rfl) (Bors.cons (Bor.agg (Bors.cons (Bor.pure rfl) (Bors.cons (Bor.pure rfl) (Bors.cons (Bor.sl (fun _ => rfl)) Bors.nil)))) Bors.nil) rfl (w_toMatrix_ok a0 a1 a2 r12 r13 r14 hf5) (and_all (lts0_map (f := AV.f32) (fun _ => rfl) _) rfl) (and_all (noss_map (f := AV.f32) (fun _ => rfl) _) rfl) rfl (by decide) (ns_of ⟨⟨_, rfl⟩, trivial⟩)) rfl ?_
    refine ROps.d (r := AV.optr 5 1 0) (fs := [(5, [AV.i64 0, AV.i64 0, AV.nilsl])]) (Γ' := [⟨2, some (r14.map AV.f32)⟩, ⟨1, some (r10.map AV.f32)⟩, ⟨1, some (r11.map AV.f32)⟩, ⟨1, some [AV.i64 r5, AV.i64 r6, AV.oref 1 1 0 r10.length]⟩, ⟨1, some [AV.i64 r7, AV.i64 r8, AV.oref 2 1 0 r11.length]⟩, ⟨1, some [AV.i64 0, AV.i64 0, AV.nilsl]⟩, ⟨0, none⟩, ⟨0, none⟩, ⟨0, none⟩, ⟨0, none⟩, ⟨0, none⟩, ⟨0, none⟩, ⟨0, none⟩]) rfl rfl rfl (TOp.alloc_o (g := ⟨0, none⟩) 5 rfl zer27 zok27 rfl) rfl ?_
    refine ROps.store_le (r := AV.agg [AV.i64 r12, AV.i64 r13, AV.oref 0 2 0 r14.length]) (l' := [AV.i64 r12, AV.i64 r13, AV.oref 0 2 0 r14.length]) (Γ' := [⟨2, some (r14.map AV.f32)⟩, ⟨1, some (r10.map AV.f32)⟩, ⟨1, some (r11.map AV.f32)⟩, ⟨1, some [AV.i64 r5, AV.i64 r6, AV.oref 1 1 0 r10.length]⟩, ⟨1, some [AV.i64 r7, AV.i64 r8, AV.oref 2 1 0 r11.length]⟩, ⟨1, some [AV.i64 r12, AV.i64 r13, AV.oref 0 2 0 r14.length]⟩, ⟨0, none⟩, ⟨0, none⟩, ⟨0, none⟩, ⟨0, none⟩, ⟨0, none⟩, ⟨0, none⟩, ⟨0, none⟩]) rfl siz27 rfl rfl rfl (ALe.refl _) rfl rfl rfl rfl (Nat.le_of_ble_eq_true rfl) rfl rfl ?_
    refine ROps.nil ?_
    refine RunC.seq ?_
    obtain ⟨r15, r16, r17, r18, r19, r20, r21, hf6, h⟩ := obind7_some h
    refine RunC.regionW ?_
    refine ROps.d (r := AV.agg [AV.i64 r12, AV.i64 r13, AV.oref 0 2 0 r14.length]) (fs := []) (Γ' := [⟨2, some (r14.map AV.f32)⟩, ⟨1, some (r10.map AV.f32)⟩, ⟨1, some (r11.map AV.f32)⟩, ⟨1, some [AV.i64 r5, AV.i64 r6, AV.oref 1 1 0 r10.length]⟩, ⟨1, some [AV.i64 r7, AV.i64 r8, AV.oref 2 1 0 r11.length]⟩, ⟨1, some [AV.i64 r12, AV.i64 r13, AV.oref 0 2 0 r14.length]⟩, ⟨0, none⟩, ⟨0, none⟩, ⟨0, none⟩, ⟨0, none⟩, ⟨0, none⟩, ⟨0, none⟩, ⟨0, none⟩]) rfl rfl rfl (TOp.loadAgg_o rfl agg27 siz27 rfl rfl rfl rfl) rfl ?_
    refine ROps.l (r := AV.i64 a3) rfl rfl rfl (LOp.move rfl rfl) ?_
    refine ROps.d (r := AV.tup [AV.agg [AV.i64 r15, AV.i64 r16, AV.oref 6 1 0 r20.length], AV.agg [AV.i64 r17, AV.i64 r18, AV.oref 7 1 0 r21.length], AV.b r19]) (fs := [(6, (r20.map AV.f32)), (7, (r21.map AV.f32))]) (Γ' := [⟨2, some (r14.map AV.f32)⟩, ⟨1, some (r10.map AV.f32)⟩, ⟨1, some (r11.map AV.f32)⟩, ⟨1, some [AV.i64 r5, AV.i64 r6, AV.oref 1 1 0 r10.length]⟩, ⟨1, some [AV.i64 r7, AV.i64 r8, AV.oref 2 1 0 r11.length]⟩, ⟨1, some [AV.i64 r12, AV.i64 r13, AV.oref 0 2 0 r14.length]⟩, ⟨1, some (r20.map AV.f32)⟩, ⟨1, some (r21.map AV.f32)⟩, ⟨0, none⟩, ⟨0, none⟩, ⟨0, none⟩, ⟨0, none⟩, ⟨0, none⟩]) rfl rfl rfl (TOp.callBN (ls := [(r20.map AV.f32), (r21.map AV.f32)]) [6, 7] (CallAs.func ent35 rfl rfl) (Bors.cons (Bor.agg (Bors.cons (Bor.pure rfl) (Bors.cons (Bor.pure rfl) (Bors.cons (Bor.own (f := AV.f32) (fun _ => rfl) rfl rfl) Bors.nil)))) (Bors.cons (Bor.pure rfl) Bors.nil)) rfl (i_SideTurns_ok r12 r13 r14 a3 r15 r16 r17 r18 r19 r20 r21 hf6) (and_all (lts0_map (f := AV.f32) (fun _ => rfl) _) (and_all (lts0_map (f := AV.f32) (fun _ => rfl) _) rfl)) (and_all (noss_map (f := AV.f32) (fun _ => rfl) _) (and_all (noss_map (f := AV.f32) (fun _ => rfl) _) rfl)) rfl (by decide) (ns_of ⟨⟨_, rfl⟩, ⟨_, rfl⟩, trivial⟩)) rfl ?_
    refine ROps.l (r := AV.tup [AV.agg [AV.i64 r15, AV.i64 r16, AV.oref 6 1 0 r20.length], AV.agg [AV.i64 r17, AV.i64 r18, AV.oref 7 1 0 r21.length], AV.b r19]) rfl rfl rfl (LOp.move rfl rfl) ?_
    refine ROps.l (r := AV.agg [AV.i64 r15, AV.i64 r16, AV.oref 6 1 0 r20.length]) rfl rfl rfl (LOp.extract rfl rfl rfl) ?_
    refine ROps.l (r := AV.agg [AV.i64 r17, AV.i64 r18, AV.oref 7 1 0 r21.length]) rfl rfl rfl (LOp.extract rfl rfl rfl) ?_
    refine ROps.l (r := AV.b r19) rfl rfl rfl (LOp.extract rfl rfl rfl) ?_
    refine ROps.d (r := AV.optr 8 1 0) (fs := [(8, [AV.i64 0, AV.i64 0, AV.nilsl])]) (Γ' := [⟨2, some (r14.map AV.f32)⟩, ⟨1, some (r10.map AV.f32)⟩, ⟨1, some (r11.map AV.f32)⟩, ⟨1, some [AV.i64 r5, AV.i64 r6, AV.oref 1 1 0 r10.length]⟩, ⟨1, some [AV.i64 r7, AV.i64 r8, AV.oref 2 1 0 r11.length]⟩, ⟨1, some [AV.i64 r12, AV.i64 r13, AV.oref 0 2 0 r14.length]⟩, ⟨1, some (r20.map AV.f32)⟩, ⟨1, some (r21.map AV.f32)⟩, ⟨1, some [AV.i64 0, AV.i64 0, AV.nilsl]⟩, ⟨0, none⟩, ⟨0, none⟩, ⟨0, none⟩, ⟨0, none⟩]) rfl rfl rfl (TOp.alloc_o (g := ⟨0, none⟩) 8 rfl zer27 zok27 rfl) rfl ?_
    refine ROps.d (r := AV.optr 9 1 0) (fs := [(9, [AV.i64 0, AV.i64 0, AV.nilsl])]) (Γ' := [⟨2, some (r14.map AV.f32)⟩, ⟨1, some (r10.map AV.f32)⟩, ⟨1, some (r11.map AV.f32)⟩, ⟨1, some [AV.i64 r5, AV.i64 r6, AV.oref 1 1 0 r10.length]⟩, ⟨1, some [AV.i64 r7, AV.i64 r8, AV.oref 2 1 0 r11.length]⟩, ⟨1, some [AV.i64 r12, AV.i64 r13, AV.oref 0 2 0 r14.length]⟩, ⟨1, some (r20.map AV.f32)⟩, ⟨1, some (r21.map AV.f32)⟩, ⟨1, some [AV.i64 0, AV.i64 0, AV.nilsl]⟩, ⟨1, some [AV.i64 0, AV.i64 0, AV.nilsl]⟩, ⟨0, none⟩, ⟨0, none⟩, ⟨0, none⟩]) rfl rfl rfl (TOp.alloc_o (g := ⟨0, none⟩) 9 rfl zer27 zok27 rfl) rfl ?_
    refine ROps.store_le (r := AV.agg [AV.i64 r15, AV.i64 r16, AV.oref 6 1 0 r20.length]) (l' := [AV.i64 r15, AV.i64 r16, AV.oref 6 1 0 r20.length]) (Γ' := [⟨2, some (r14.map AV.f32)⟩, ⟨1, some (r10.map AV.f32)⟩, ⟨1, some (r11.map AV.f32)⟩, ⟨1, some [AV.i64 r5, AV.i64 r6, AV.oref 1 1 0 r10.length]⟩, ⟨1, some [AV.i64 r7, AV.i64 r8, AV.oref 2 1 0 r11.length]⟩, ⟨1, some [AV.i64 r12, AV.i64 r13, AV.oref 0 2 0 r14.length]⟩, ⟨1, some (r20.map AV.f32)⟩, ⟨1, some (r21.map AV.f32)⟩, ⟨1, some [AV.i64 r15, AV.i64 r16, AV.oref 6 1 0 r20.length]⟩, ⟨1, some [AV.i64 0, AV.i64 0, AV.nilsl]⟩, ⟨0, none⟩, ⟨0, none⟩, ⟨0, none⟩]) rfl siz27 rfl rfl rfl (ALe.refl _) rfl rfl rfl rfl (Nat.le_of_ble_eq_true rfl) rfl rfl ?_
    refine ROps.store_le (r := AV.agg [AV.i64 r17, AV.i64 r18, AV.oref 7 1 0 r21.length]) (l' := [AV.i64 r17, AV.i64 r18, AV.oref 7 1 0 r21.length]) (Γ' := [⟨2, some (r14.map AV.f32)⟩, ⟨1, some (r10.map AV.f32)⟩, ⟨1, some (r11.map AV.f32)⟩, ⟨1, some [AV.i64 r5, AV.i64 r6, AV.oref 1 1 0 r10.length]⟩, ⟨1, some [AV.i64 r7, AV.i64 r8, AV.oref 2 1 0 r11.length]⟩, ⟨1, some [AV.i64 r12, AV.i64 r13, AV.oref 0 2 0 r14.length]⟩, ⟨1, some (r20.map AV.f32)⟩, ⟨1, some (r21.map AV.f32)⟩, ⟨1, some [AV.i64 r15, AV.i64 r16, AV.oref 6 1 0 r20.length]⟩, ⟨1, some [AV.i64 r17, AV.i64 r18, AV.oref 7 1 0 r21.length]⟩, ⟨0, none⟩, ⟨0, none⟩, ⟨0, none⟩]) rfl siz27 rfl rfl rfl (ALe.refl _) rfl rfl rfl rfl (Nat.le_of_ble_eq_true rfl) rfl rfl ?_
    refine ROps.l (r := AV.b r19) rfl rfl rfl (LOp.assign rfl rfl) ?_
    refine ROps.nil ?_
    refine RunC.seq ?_
    refine RunC.seq ?_
    obtain ⟨r22, hf7, h⟩ := obind_some h
    rcases bsel_some h with ⟨hc8, h⟩ | ⟨hc8, h⟩
    · obtain ⟨r23, hf9, h⟩ := obind_some h
      rcases bsel_some h with ⟨hc10, h⟩ | ⟨hc10, h⟩
      · rcases bsel_some h with ⟨hc11, h⟩ | ⟨hc11, h⟩
        · refine RunC.regionW ?_
          refine ROps.d (r := AV.agg [AV.i64 r15, AV.i64 r16, AV.oref 6 1 0 r20.length]) (fs := []) (Γ' := [⟨2, some (r14.map AV.f32)⟩, ⟨1, some (r10.map AV.f32)⟩, ⟨1, some (r11.map AV.f32)⟩, ⟨1, some [AV.i64 r5, AV.i64 r6, AV.oref 1 1 0 r10.length]⟩, ⟨1, some [AV.i64 r7, AV.i64 r8, AV.oref 2 1 0 r11.length]⟩, ⟨1, some [AV.i64 r12, AV.i64 r13, AV.oref 0 2 0 r14.length]⟩, ⟨1, some (r20.map AV.f32)⟩, ⟨1, some (r21.map AV.f32)⟩, ⟨1, some [AV.i64 r15, AV.i64 r16, AV.oref 6 1 0 r20.length]⟩, ⟨1, some [AV.i64 r17, AV.i64 r18, AV.oref 7 1 0 r21.length]⟩, ⟨0, none⟩, ⟨0, none⟩, ⟨0, none⟩]) rfl rfl rfl (TOp.loadAgg_o rfl agg27 siz27 rfl rfl rfl rfl) rfl ?_
          refine ROps.d (r := AV.agg [AV.i64 r5, AV.i64 r6, AV.oref 1 1 0 r10.length]) (fs := []) (Γ' := [⟨2, some (r14.map AV.f32)⟩, ⟨1, some (r10.map AV.f32)⟩, ⟨1, some (r11.map AV.f32)⟩, ⟨1, some [AV.i64 r5, AV.i64 r6, AV.oref 1 1 0 r10.length]⟩, ⟨1, some [AV.i64 r7, AV.i64 r8, AV.oref 2 1 0 r11.length]⟩, ⟨1, some [AV.i64 r12, AV.i64 r13, AV.oref 0 2 0 r14.length]⟩, ⟨1, some (r20.map AV.f32)⟩, ⟨1, some (r21.map AV.f32)⟩, ⟨1, some [AV.i64 r15, AV.i64 r16, AV.oref 6 1 0 r20.length]⟩, ⟨1, some [AV.i64 r17, AV.i64 r18, AV.oref 7 1 0 r21.length]⟩, ⟨0, none⟩, ⟨0, none⟩, ⟨0, none⟩]) rfl rfl rfl (TOp.loadAgg_o rfl agg27 siz27 rfl rfl rfl rfl) rfl ?_
          refine ROps.d (r := AV.b true) (fs := []) (Γ' := [⟨2, some (r14.map AV.f32)⟩, ⟨1, some (r10.map AV.f32)⟩, ⟨1, some (r11.map AV.f32)⟩, ⟨1, some [AV.i64 r5, AV.i64 r6, AV.oref 1 1 0 r10.length]⟩, ⟨1, some [AV.i64 r7, AV.i64 r8, AV.oref 2 1 0 r11.length]⟩, ⟨1, some [AV.i64 r12, AV.i64 r13, AV.oref 0 2 0 r14.length]⟩, ⟨1, some (r20.map AV.f32)⟩, ⟨1, some (r21.map AV.f32)⟩, ⟨1, some [AV.i64 r15, AV.i64 r16, AV.oref 6 1 0 r20.length]⟩, ⟨1, some [AV.i64 r17, AV.i64 r18, AV.oref 7 1 0 r21.length]⟩, ⟨0, none⟩, ⟨0, none⟩, ⟨0, none⟩]) rfl rfl rfl (TOp.eqb (TOp.callB (CallAs.func ent13 rfl rfl) (Bors.cons (Bor.agg (Bors.cons (Bor.pure rfl) (Bors.cons (Bor.pure rfl) (Bors.cons (Bor.own (f := AV.f32) (fun _ => rfl) rfl rfl) Bors.nil)))) (Bors.cons (Bor.agg (Bors.cons (Bor.pure rfl) (Bors.cons (Bor.pure rfl) (Bors.cons (Bor.own (f := AV.f32) (fun _ => rfl) rfl rfl) Bors.nil)))) Bors.nil)) rfl rfl (w_eqMatrix_ok r15 r16 r20 r5 r6 r10 r22 hf7)) hc8) rfl ?_
          refine ROps.l (r := AV.b false) rfl rfl rfl (LOp.eqb (LOp.not rfl rfl) rfl) ?_
          refine ROps.l (r := AV.b false) rfl rfl rfl (LOp.move rfl rfl) ?_
          refine ROps.d (r := AV.agg [AV.i64 r17, AV.i64 r18, AV.oref 7 1 0 r21.length]) (fs := []) (Γ' := [⟨2, some (r14.map AV.f32)⟩, ⟨1, some (r10.map AV.f32)⟩, ⟨1, some (r11.map AV.f32)⟩, ⟨1, some [AV.i64 r5, AV.i64 r6, AV.oref 1 1 0 r10.length]⟩, ⟨1, some [AV.i64 r7, AV.i64 r8, AV.oref 2 1 0 r11.length]⟩, ⟨1, some [AV.i64 r12, AV.i64 r13, AV.oref 0 2 0 r14.length]⟩, ⟨1, some (r20.map AV.f32)⟩, ⟨1, some (r21.map AV.f32)⟩, ⟨1, some [AV.i64 r15, AV.i64 r16, AV.oref 6 1 0 r20.length]⟩, ⟨1, some [AV.i64 r17, AV.i64 r18, AV.oref 7 1 0 r21.length]⟩, ⟨0, none⟩, ⟨0, none⟩, ⟨0, none⟩]) rfl rfl rfl (TOp.loadAgg_o rfl agg27 siz27 rfl rfl rfl rfl) rfl ?_
          refine ROps.d (r := AV.agg [AV.i64 r7, AV.i64 r8, AV.oref 2 1 0 r11.length]) (fs := []) (Γ' := [⟨2, some (r14.map AV.f32)⟩, ⟨1, some (r10.map AV.f32)⟩, ⟨1, some (r11.map AV.f32)⟩, ⟨1, some [AV.i64 r5, AV.i64 r6, AV.oref 1 1 0 r10.length]⟩, ⟨1, some [AV.i64 r7, AV.i64 r8, AV.oref 2 1 0 r11.length]⟩, ⟨1, some [AV.i64 r12, AV.i64 r13, AV.oref 0 2 0 r14.length]⟩, ⟨1, some (r20.map AV.f32)⟩, ⟨1, some (r21.map AV.f32)⟩, ⟨1, some [AV.i64 r15, AV.i64 r16, AV.oref 6 1 0 r20.length]⟩, ⟨1, some [AV.i64 r17, AV.i64 r18, AV.oref 7 1 0 r21.length]⟩, ⟨0, none⟩, ⟨0, none⟩, ⟨0, none⟩]) rfl rfl rfl (TOp.loadAgg_o rfl agg27 siz27 rfl rfl rfl rfl) rfl ?_
          refine ROps.d (r := AV.b true) (fs := []) (Γ' := [⟨2, some (r14.map AV.f32)⟩, ⟨1, some (r10.map AV.f32)⟩, ⟨1, some (r11.map AV.f32)⟩, ⟨1, some [AV.i64 r5, AV.i64 r6, AV.oref 1 1 0 r10.length]⟩, ⟨1, some [AV.i64 r7, AV.i64 r8, AV.oref 2 1 0 r11.length]⟩, ⟨1, some [AV.i64 r12, AV.i64 r13, AV.oref 0 2 0 r14.length]⟩, ⟨1, some (r20.map AV.f32)⟩, ⟨1, some (r21.map AV.f32)⟩, ⟨1, some [AV.i64 r15, AV.i64 r16, AV.oref 6 1 0 r20.length]⟩, ⟨1, some [AV.i64 r17, AV.i64 r18, AV.oref 7 1 0 r21.length]⟩, ⟨0, none⟩, ⟨0, none⟩, ⟨0, none⟩]) rfl rfl rfl (TOp.eqb (TOp.callB (CallAs.func ent13 rfl rfl) (Bors.cons (Bor.agg (Bors.cons (Bor.pure rfl) (Bors.cons (Bor.pure rfl) (Bors.cons (Bor.own (f := AV.f32) (fun _ => rfl) rfl rfl) Bors.nil)))) (Bors.cons (Bor.agg (Bors.cons (Bor.pure rfl) (Bors.cons (Bor.pure rfl) (Bors.cons (Bor.own (f := AV.f32) (fun _ => rfl) rfl rfl) Bors.nil)))) Bors.nil)) rfl rfl (w_eqMatrix_ok r17 r18 r21 r7 r8 r11 r23 hf9)) hc10) rfl ?_
          refine ROps.l (r := AV.b false) rfl rfl rfl (LOp.eqb (LOp.not rfl rfl) rfl) ?_
          refine ROps.l (r := AV.b false) rfl rfl rfl (LOp.pick_false rfl rfl rfl) ?_
          refine ROps.l (r := AV.b false) rfl rfl rfl (LOp.move rfl rfl) ?_
          refine ROps.l (r := AV.b r19) rfl rfl rfl (LOp.move rfl rfl) ?_
          refine ROps.l (r := AV.b r9) rfl rfl rfl (LOp.move rfl rfl) ?_
          refine ROps.l (r := AV.b true) rfl rfl rfl (LOp.eqb (LOp.neqb pun4 rfl rfl rfl) hc11) ?_
          refine ROps.l (r := AV.b true) rfl rfl rfl (LOp.pick_false rfl rfl rfl) ?_
          refine ROps.nil ?_
          refine RunC.cond_true rfl rfl ?_
          refine RunC.seq ?_
          refine RunC.regionW ?_
          refine ROps.l (r := AV.b false) rfl rfl rfl (LOp.assign rfl rfl) ?_
          refine ROps.nil ?_
          refine RunC.ret ?_
          have hq := Option.some.inj h
          subst q0
          exact bodyQ.pure (.inr rfl) rfl (Res.one rfl (RV.tmp rfl))
        · refine RunC.regionW ?_
          refine ROps.d (r := AV.agg [AV.i64 r15, AV.i64 r16, AV.oref 6 1 0 r20.length]) (fs := []) (Γ' := [⟨2, some (r14.map AV.f32)⟩, ⟨1, some (r10.map AV.f32)⟩, ⟨1, some (r11.map AV.f32)⟩, ⟨1, some [AV.i64 r5, AV.i64 r6, AV.oref 1 1 0 r10.length]⟩, ⟨1, some [AV.i64 r7, AV.i64 r8, AV.oref 2 1 0 r11.length]⟩, ⟨1, some [AV.i64 r12, AV.i64 r13, AV.oref 0 2 0 r14.length]⟩, ⟨1, some (r20.map AV.f32)⟩, ⟨1, some (r21.map AV.f32)⟩, ⟨1, some [AV.i64 r15, AV.i64 r16, AV.oref 6 1 0 r20.length]⟩, ⟨1, some [AV.i64 r17, AV.i64 r18, AV.oref 7 1 0 r21.length]⟩, ⟨0, none⟩, ⟨0, none⟩, ⟨0, none⟩]) rfl rfl rfl (TOp.loadAgg_o rfl agg27 siz27 rfl rfl rfl rfl) rfl ?_
          refine ROps.d (r := AV.agg [AV.i64 r5, AV.i64 r6, AV.oref 1 1 0 r10.length]) (fs := []) (Γ' := [⟨2, some (r14.map AV.f32)⟩, ⟨1, some (r10.map AV.f32)⟩, ⟨1, some (r11.map AV.f32)⟩, ⟨1, some [AV.i64 r5, AV.i64 r6, AV.oref 1 1 0 r10.length]⟩, ⟨1, some [AV.i64 r7, AV.i64 r8, AV.oref 2 1 0 r11.length]⟩, ⟨1, some [AV.i64 r12, AV.i64 r13, AV.oref 0 2 0 r14.length]⟩, ⟨1, some (r20.map AV.f32)⟩, ⟨1, some (r21.map AV.f32)⟩, ⟨1, some [AV.i64 r15, AV.i64 r16, AV.oref 6 1 0 r20.length]⟩, ⟨1, some [AV.i64 r17, AV.i64 r18, AV.oref 7 1 0 r21.length]⟩, ⟨0, none⟩, ⟨0, none⟩, ⟨0, none⟩]) rfl rfl rfl (TOp.loadAgg_o rfl agg27 siz27 rfl rfl rfl rfl) rfl ?_
          refine ROps.d (r := AV.b true) (fs := []) (Γ' := [⟨2, some (r14.map AV.f32)⟩, ⟨1, some (r10.map AV.f32)⟩, ⟨1, some (r11.map AV.f32)⟩, ⟨1, some [AV.i64 r5, AV.i64 r6, AV.oref 1 1 0 r10.length]⟩, ⟨1, some [AV.i64 r7, AV.i64 r8, AV.oref 2 1 0 r11.length]⟩, ⟨1, some [AV.i64 r12, AV.i64 r13, AV.oref 0 2 0 r14.length]⟩, ⟨1, some (r20.map AV.f32)⟩, ⟨1, some (r21.map AV.f32)⟩, ⟨1, some [AV.i64 r15, AV.i64 r16, AV.oref 6 1 0 r20.length]⟩, ⟨1, some [AV.i64 r17, AV.i64 r18, AV.oref 7 1 0 r21.length]⟩, ⟨0, none⟩, ⟨0, none⟩, ⟨0, none⟩]) rfl rfl rfl (TOp.eqb (TOp.callB (CallAs.func ent13 rfl rfl) (Bors.cons (Bor.agg (Bors.cons (Bor.pure rfl) (Bors.cons (Bor.pure rfl) (Bors.cons (Bor.own (f := AV.f32) (fun _ => rfl) rfl rfl) Bors.nil)))) (Bors.cons (Bor.agg (Bors.cons (Bor.pure rfl) (Bors.cons (Bor.pure rfl) (Bors.cons (Bor.own (f := AV.f32) (fun _ => rfl) rfl rfl) Bors.nil)))) Bors.nil)) rfl rfl (w_eqMatrix_ok r15 r16 r20 r5 r6 r10 r22 hf7)) hc8) rfl ?_
          refine ROps.l (r := AV.b false) rfl rfl rfl (LOp.eqb (LOp.not rfl rfl) rfl) ?_
          refine ROps.l (r := AV.b false) rfl rfl rfl (LOp.move rfl rfl) ?_
          refine ROps.d (r := AV.agg [AV.i64 r17, AV.i64 r18, AV.oref 7 1 0 r21.length]) (fs := []) (Γ' := [⟨2, some (r14.map AV.f32)⟩, ⟨1, some (r10.map AV.f32)⟩, ⟨1, some (r11.map AV.f32)⟩, ⟨1, some [AV.i64 r5, AV.i64 r6, AV.oref 1 1 0 r10.length]⟩, ⟨1, some [AV.i64 r7, AV.i64 r8, AV.oref 2 1 0 r11.length]⟩, ⟨1, some [AV.i64 r12, AV.i64 r13, AV.oref 0 2 0 r14.length]⟩, ⟨1, some (r20.map AV.f32)⟩, ⟨1, some (r21.map AV.f32)⟩, ⟨1, some [AV.i64 r15, AV.i64 r16, AV.oref 6 1 0 r20.length]⟩, ⟨1, some [AV.i64 r17, AV.i64 r18, AV.oref 7 1 0 r21.length]⟩, ⟨0, none⟩, ⟨0, none⟩, ⟨0, none⟩]) rfl rfl rfl (TOp.loadAgg_o rfl agg27 siz27 rfl rfl rfl rfl) rfl ?_
          refine ROps.d (r := AV.agg [AV.i64 r7, AV.i64 r8, AV.oref 2 1 0 r11.length]) (fs := []) (Γ' := [⟨2, some (r14.map AV.f32)⟩, ⟨1, some (r10.map AV.f32)⟩, ⟨1, some (r11.map AV.f32)⟩, ⟨1, some [AV.i64 r5, AV.i64 r6, AV.oref 1 1 0 r10.length]⟩, ⟨1, some [AV.i64 r7, AV.i64 r8, AV.oref 2 1 0 r11.length]⟩, ⟨1, some [AV.i64 r12, AV.i64 r13, AV.oref 0 2 0 r14.length]⟩, ⟨1, some (r20.map AV.f32)⟩, ⟨1, some (r21.map AV.f32)⟩, ⟨1, some [AV.i64 r15, AV.i64 r16, AV.oref 6 1 0 r20.length]⟩, ⟨1, some [AV.i64 r17, AV.i64 r18, AV.oref 7 1 0 r21.length]⟩, ⟨0, none⟩, ⟨0, none⟩, ⟨0, none⟩]) rfl rfl rfl (TOp.loadAgg_o rfl agg27 siz27 rfl rfl rfl rfl) rfl ?_
          refine ROps.d (r := AV.b true) (fs := []) (Γ' := [⟨2, some (r14.map AV.f32)⟩, ⟨1, some (r10.map AV.f32)⟩, ⟨1, some (r11.map AV.f32)⟩, ⟨1, some [AV.i64 r5, AV.i64 r6, AV.oref 1 1 0 r10.length]⟩, ⟨1, some [AV.i64 r7, AV.i64 r8, AV.oref 2 1 0 r11.length]⟩, ⟨1, some [AV.i64 r12, AV.i64 r13, AV.oref 0 2 0 r14.length]⟩, ⟨1, some (r20.map AV.f32)⟩, ⟨1, some (r21.map AV.f32)⟩, ⟨1, some [AV.i64 r15, AV.i64 r16, AV.oref 6 1 0 r20.length]⟩, ⟨1, some [AV.i64 r17, AV.i64 r18, AV.oref 7 1 0 r21.length]⟩, ⟨0, none⟩, ⟨0, none⟩, ⟨0, none⟩]) rfl rfl rfl (TOp.eqb (TOp.callB (CallAs.func ent13 rfl rfl) (Bors.cons (Bor.agg (Bors.cons (Bor.pure rfl) (Bors.cons (Bor.pure rfl) (Bors.cons (Bor.own (f := AV.f32) (fun _ => rfl) rfl rfl) Bors.nil)))) (Bors.cons (Bor.agg (Bors.cons (Bor.pure rfl) (Bors.cons (Bor.pure rfl) (Bors.cons (Bor.own (f := AV.f32) (fun _ => rfl) rfl rfl) Bors.nil)))) Bors.nil)) rfl rfl (w_eqMatrix_ok r17 r18 r21 r7 r8 r11 r23 hf9)) hc10) rfl ?_
          refine ROps.l (r := AV.b false) rfl rfl rfl (LOp.eqb (LOp.not rfl rfl) rfl) ?_
          refine ROps.l (r := AV.b false) rfl rfl rfl (LOp.pick_false rfl rfl rfl) ?_
          refine ROps.l (r := AV.b false) rfl rfl rfl (LOp.move rfl rfl) ?_
          refine ROps.l (r := AV.b r19) rfl rfl rfl (LOp.move rfl rfl) ?_
          refine ROps.l (r := AV.b r9) rfl rfl rfl (LOp.move rfl rfl) ?_
          refine ROps.l (r := AV.b false) rfl rfl rfl (LOp.eqb (LOp.neqb pun4 rfl rfl rfl) hc11) ?_
          refine ROps.l (r := AV.b false) rfl rfl rfl (LOp.pick_false rfl rfl rfl) ?_
          refine ROps.nil ?_
          refine RunC.cond_false rfl rfl ?_
          refine RunC.skip ?_
          refine RunC.seq ?_
          refine RunC.seq ?_
          obtain ⟨r24, r25, r26, hf12, h⟩ := obind3_some h
          obtain ⟨r27, hf13, h⟩ := obind_some h
          rcases bsel_some h with ⟨hc14, h⟩ | ⟨hc14, h⟩
          · refine RunC.region_draw (Γ' := [⟨2, some (r14.map AV.f32)⟩, ⟨1, some (r10.map AV.f32)⟩, ⟨1, some (r11.map AV.f32)⟩, ⟨1, some [AV.i64 r5, AV.i64 r6, AV.oref 1 1 0 r10.length]⟩, ⟨1, some [AV.i64 r7, AV.i64 r8, AV.oref 2 1 0 r11.length]⟩, ⟨1, some [AV.i64 r12, AV.i64 r13, AV.oref 0 2 0 r14.length]⟩, ⟨1, some (r20.map AV.f32)⟩, ⟨1, some (r21.map AV.f32)⟩, ⟨1, some [AV.i64 r15, AV.i64 r16, AV.oref 6 1 0 r20.length]⟩, ⟨1, some [AV.i64 r17, AV.i64 r18, AV.oref 7 1 0 r21.length]⟩, ⟨0, none⟩, ⟨0, none⟩, ⟨0, none⟩]) 5 mixed 
              (TR.d (r := AV.agg [AV.i64 r12, AV.i64 r13, AV.oref 0 2 0 r14.length]) (fs := []) rfl rfl (TOp.loadAgg_o rfl agg27 siz27 rfl rfl rfl rfl) <|
              (TR.l (r := AV.agg [AV.i64 a0, AV.i64 a1, AV.sl a2.length (a2.map AV.f32)]) rfl rfl (LOp.loadAgg agg24 siz24 rfl rfl rfl rfl) <|
              (TR.d (r := AV.agg [AV.i64 r24, AV.i64 r25, AV.sl r26.length (r26.map AV.f32)]) (fs := []) rfl rfl (TOp.callS (CallAs.func ent11 rfl rfl) (ALes.cons (ALe.refl _) ALes.nil) (lts_cons (lt_agg (lts_cons rfl (lts_cons rfl (lts_cons (lt_sl (fun _ => rfl)) lts_nil)))) lts_nil) (lt_agg (lts_cons rfl (lts_cons rfl (lts_cons (lt_sl (fun _ => rfl)) lts_nil)))) (w_toMatrix_ok a0 a1 a2 r24 r25 r26 hf12) (Bor.agg (Bors.cons (Bor.pure rfl) (Bors.cons (Bor.pure rfl) (Bors.cons (Bor.own (f := AV.f32) (fun _ => rfl) rfl rfl) Bors.nil))))) <|
              (TR.d (r := AV.b true) (fs := []) rfl rfl (TOp.eqb (TOp.callB (CallAs.func ent13 rfl rfl) (Bors.cons (Bor.agg (Bors.cons (Bor.pure rfl) (Bors.cons (Bor.pure rfl) (Bors.cons (Bor.own (f := AV.f32) (fun _ => rfl) rfl rfl) Bors.nil)))) (Bors.cons (Bor.agg (Bors.cons (Bor.pure rfl) (Bors.cons (Bor.pure rfl) (Bors.cons (Bor.sl (fun _ => rfl)) Bors.nil)))) Bors.nil)) rfl rfl (w_eqMatrix_ok r12 r13 r14 r24 r25 r26 r27 hf13)) hc14) <|
              (TR.l (r := AV.b false) rfl rfl (LOp.eqb (LOp.not rfl rfl) rfl) <|
              TR.nil))))) rfl (by kernel_rfl) rfl fills_nil rfl ?_
            iterate 5 refine ROps.dropS ?_
            refine ROps.drop0 ?_
            refine ROps.nil ?_
            refine RunC.cond_false rfl rfl ?_
            refine RunC.skip ?_
            refine RunC.seq ?_
            refine RunC.regionW ?_
            refine ROps.l (r := AV.i64 1) rfl rfl rfl (LOp.assign rfl rfl) ?_
            refine ROps.nil ?_
            refine RunC.seq ?_
            obtain ⟨r28, r29, hf15, h⟩ := obind2_some h
            obtain ⟨hn16, h⟩ := need_some h
            refine RunC.regionW ?_
            refine ROps.d (r := AV.agg [AV.i64 r12, AV.i64 r13, AV.oref 0 2 0 r14.length]) (fs := []) (Γ' := [⟨2, some (r14.map AV.f32)⟩, ⟨1, some (r10.map AV.f32)⟩, ⟨1, some (r11.map AV.f32)⟩, ⟨1, some [AV.i64 r5, AV.i64 r6, AV.oref 1 1 0 r10.length]⟩, ⟨1, some [AV.i64 r7, AV.i64 r8, AV.oref 2 1 0 r11.length]⟩, ⟨1, some [AV.i64 r12, AV.i64 r13, AV.oref 0 2 0 r14.length]⟩, ⟨1, some (r20.map AV.f32)⟩, ⟨1, some (r21.map AV.f32)⟩, ⟨1, some [AV.i64 r15, AV.i64 r16, AV.oref 6 1 0 r20.length]⟩, ⟨1, some [AV.i64 r17, AV.i64 r18, AV.oref 7 1 0 r21.length]⟩, ⟨0, none⟩, ⟨0, none⟩, ⟨0, none⟩]) rfl rfl rfl (TOp.loadAgg_o rfl agg27 siz27 rfl rfl rfl rfl) rfl ?_
            refine ROps.l (r := AV.i64 1) rfl rfl rfl (LOp.move rfl rfl) ?_
            refine ROps.callO (A := [AV.agg [AV.i64 r12, AV.i64 r13, AV.oref 0 2 0 r14.length], AV.i64 1]) (args := [AV.agg [AV.i64 r12, AV.i64 r13, AV.oref 0 0 0 r14.length], AV.i64 1]) (Γc := [⟨0, some (r14.map AV.f32)⟩]) (Γc' := [⟨0, some (r29.map AV.f32)⟩]) (r' := AV.i64 r28) (Γ' := [⟨2, some (r29.map AV.f32)⟩, ⟨1, some (r10.map AV.f32)⟩, ⟨1, some (r11.map AV.f32)⟩, ⟨1, some [AV.i64 r5, AV.i64 r6, AV.oref 1 1 0 r10.length]⟩, ⟨1, some [AV.i64 r7, AV.i64 r8, AV.oref 2 1 0 r11.length]⟩, ⟨1, some [AV.i64 r12, AV.i64 r13, AV.oref 0 2 0 r14.length]⟩, ⟨1, some (r20.map AV.f32)⟩, ⟨1, some (r21.map AV.f32)⟩, ⟨1, some [AV.i64 r15, AV.i64 r16, AV.oref 6 1 0 r20.length]⟩, ⟨1, some [AV.i64 r17, AV.i64 r18, AV.oref 7 1 0 r21.length]⟩, ⟨0, none⟩, ⟨0, none⟩, ⟨0, none⟩]) [(0, 2)] [] rfl (CallAs.func ent15 rfl rfl) rfl rfl (SelOk.of (show List.Nodup [0] from by decide) (SelL.arr0 (f := AV.f32) (fun _ => rfl) rfl trivial)) (live_of ⟨⟨_, _, rfl⟩, trivial⟩) (by simp [AV.ren, AV.rens, sigma, rens_f32, rens_f64, rens_i64, rens_ik, rens_str, rens_cp]) rfl (w_markMatrix_02o_ok r12 r13 1 r14 r28 r29 hf15) rfl (news_of trivial) (show List.Nodup [0] from by decide) (by simp [AV.ren, AV.rens, sigma, of_decide_eq_true hn16]) (by simp [backOb, sigma, AV.ren, AV.rens, rens_f32, rens_f64, rens_i64, rens_ik, rens_str, rens_cp]) ?_
            refine ROps.l (r := AV.i64 r28) rfl rfl rfl (LOp.assign rfl rfl) ?_
            refine ROps.nil ?_
            refine RunC.wl (τ' := [(1, AV.i64 a3), (2, AV.ptr [AV.i64 a0, AV.i64 a1, AV.sl a2.length (a2.map AV.f32)]), (6, AV.optr 3 1 0), (7, AV.optr 4 1 0), (8, AV.b r9), (10, AV.optr 8 1 0), (11, AV.optr 9 1 0), (12, AV.b r19), (13, AV.i64 r28)]) (Γ' := [⟨2, none⟩, ⟨1, some (r10.map AV.f32)⟩, ⟨1, some (r11.map AV.f32)⟩, ⟨1, some [AV.i64 r5, AV.i64 r6, AV.oref 1 1 0 r10.length]⟩, ⟨1, some [AV.i64 r7, AV.i64 r8, AV.oref 2 1 0 r11.length]⟩, ⟨1, none⟩, ⟨1, some (r20.map AV.f32)⟩, ⟨1, some (r21.map AV.f32)⟩, ⟨1, some [AV.i64 r15, AV.i64 r16, AV.oref 6 1 0 r20.length]⟩, ⟨1, some [AV.i64 r17, AV.i64 r18, AV.oref 7 1 0 r21.length]⟩, ⟨0, none⟩, ⟨0, none⟩, ⟨0, none⟩]) ⟨(ALe.refl _), (ALe.refl _), (ALe.refl _), (ALe.refl _), (ALe.refl _), (ALe.refl _), (ALe.refl _), (ALe.refl _), (ALe.refl _), trivial⟩ ⟨⟨rfl, .inl rfl⟩, ⟨rfl, .inr rfl⟩, ⟨rfl, .inr rfl⟩, ⟨rfl, .inr rfl⟩, ⟨rfl, .inr rfl⟩, ⟨rfl, .inl rfl⟩, ⟨rfl, .inr rfl⟩, ⟨rfl, .inr rfl⟩, ⟨rfl, .inr rfl⟩, ⟨rfl, .inr rfl⟩, ⟨rfl, .inr rfl⟩, ⟨rfl, .inr rfl⟩, ⟨rfl, .inr rfl⟩, trivial⟩ ?_
            refine RunC.seq ?_
            refine RunC.seq ?_
            rcases bsel_some h with ⟨hc17, h⟩ | ⟨hc17, h⟩
            · refine RunC.regionW ?_
              refine ROps.l (r := AV.i64 r28) rfl rfl rfl (LOp.move rfl rfl) ?_
              refine ROps.l (r := AV.b true) rfl rfl rfl (LOp.eqb (LOp.lss rfl rfl rfl) hc17) ?_
              refine ROps.l (r := AV.b true) rfl rfl rfl (LOp.move rfl rfl) ?_
              refine ROps.s rfl rfl rfl ?_
              refine ROps.s rfl rfl rfl ?_
              refine ROps.s rfl rfl rfl ?_
              refine ROps.s rfl rfl rfl ?_
              refine ROps.l (r := AV.b true) rfl rfl rfl (LOp.pick_true rfl rfl rfl) ?_
              refine ROps.l (r := AV.b true) rfl rfl rfl (LOp.move rfl rfl) ?_
              refine ROps.s rfl rfl rfl ?_
              refine ROps.s rfl rfl rfl ?_
              refine ROps.s rfl rfl rfl ?_
              refine ROps.s rfl rfl rfl ?_
              refine ROps.l (r := AV.b true) rfl rfl rfl (LOp.pick_true rfl rfl rfl) ?_
              refine ROps.l (r := AV.b true) rfl rfl rfl (LOp.move rfl rfl) ?_
              refine ROps.s rfl rfl rfl ?_
              refine ROps.s rfl rfl rfl ?_
              refine ROps.s rfl rfl rfl ?_
              refine ROps.l (r := AV.b true) rfl rfl rfl (LOp.pick_true rfl rfl rfl) ?_
              refine ROps.nil ?_
              refine RunC.wl (τ' := [(1, AV.i64 a3), (2, AV.ptr [AV.i64 a0, AV.i64 a1, AV.sl a2.length (a2.map AV.f32)]), (6, AV.optr 3 1 0), (7, AV.optr 4 1 0), (8, AV.b r9), (10, AV.optr 8 1 0), (11, AV.optr 9 1 0), (82, AV.b true)]) (Γ' := [⟨2, none⟩, ⟨1, some (r10.map AV.f32)⟩, ⟨1, some (r11.map AV.f32)⟩, ⟨1, some [AV.i64 r5, AV.i64 r6, AV.oref 1 1 0 r10.length]⟩, ⟨1, some [AV.i64 r7, AV.i64 r8, AV.oref 2 1 0 r11.length]⟩, ⟨1, none⟩, ⟨1, some (r20.map AV.f32)⟩, ⟨1, some (r21.map AV.f32)⟩, ⟨1, some [AV.i64 r15, AV.i64 r16, AV.oref 6 1 0 r20.length]⟩, ⟨1, some [AV.i64 r17, AV.i64 r18, AV.oref 7 1 0 r21.length]⟩, ⟨0, none⟩, ⟨0, none⟩, ⟨0, none⟩]) ⟨(ALe.refl _), (ALe.refl _), (ALe.refl _), (ALe.refl _), (ALe.refl _), (ALe.refl _), (ALe.refl _), (ALe.refl _), trivial⟩ ⟨⟨rfl, .inl rfl⟩, ⟨rfl, .inr rfl⟩, ⟨rfl, .inr rfl⟩, ⟨rfl, .inr rfl⟩, ⟨rfl, .inr rfl⟩, ⟨rfl, .inl rfl⟩, ⟨rfl, .inr rfl⟩, ⟨rfl, .inr rfl⟩, ⟨rfl, .inr rfl⟩, ⟨rfl, .inr rfl⟩, ⟨rfl, .inr rfl⟩, ⟨rfl, .inr rfl⟩, ⟨rfl, .inr rfl⟩, trivial⟩ ?_
              refine RunC.cond_true rfl rfl ?_
              refine RunC.seq ?_
              refine RunC.regionW ?_
              refine ROps.l (r := AV.b false) rfl rfl rfl (LOp.assign rfl rfl) ?_
              refine ROps.nil ?_
              refine RunC.ret ?_
              have hq := Option.some.inj h
              subst q0
              exact bodyQ.pure (.inr rfl) rfl (Res.one rfl (RV.tmp rfl))
            · obtain ⟨r30, hf18, h⟩ := obind_some h
              rcases bsel_some h with ⟨hc19, h⟩ | ⟨hc19, h⟩
              · obtain ⟨r31, hf20, h⟩ := obind_some h
                rcases bsel_some h with ⟨hc21, h⟩ | ⟨hc21, h⟩
                · refine RunC.regionW ?_
                  refine ROps.l (r := AV.i64 r28) rfl rfl rfl (LOp.move rfl rfl) ?_
                  refine ROps.l (r := AV.b false) rfl rfl rfl (LOp.eqb (LOp.lss rfl rfl rfl) hc17) ?_
                  refine ROps.l (r := AV.b false) rfl rfl rfl (LOp.move rfl rfl) ?_
                  refine ROps.d (r := AV.agg [AV.i64 r15, AV.i64 r16, AV.oref 6 1 0 r20.length]) (fs := []) (Γ' := [⟨2, none⟩, ⟨1, some (r10.map AV.f32)⟩, ⟨1, some (r11.map AV.f32)⟩, ⟨1, some [AV.i64 r5, AV.i64 r6, AV.oref 1 1 0 r10.length]⟩, ⟨1, some [AV.i64 r7, AV.i64 r8, AV.oref 2 1 0 r11.length]⟩, ⟨1, none⟩, ⟨1, some (r20.map AV.f32)⟩, ⟨1, some (r21.map AV.f32)⟩, ⟨1, some [AV.i64 r15, AV.i64 r16, AV.oref 6 1 0 r20.length]⟩, ⟨1, some [AV.i64 r17, AV.i64 r18, AV.oref 7 1 0 r21.length]⟩, ⟨0, none⟩, ⟨0, none⟩, ⟨0, none⟩]) rfl rfl rfl (TOp.loadAgg_o rfl agg27 siz27 rfl rfl rfl rfl) rfl ?_
                  refine ROps.d (r := AV.agg [AV.i64 r5, AV.i64 r6, AV.oref 1 1 0 r10.length]) (fs := []) (Γ' := [⟨2, none⟩, ⟨1, some (r10.map AV.f32)⟩, ⟨1, some (r11.map AV.f32)⟩, ⟨1, some [AV.i64 r5, AV.i64 r6, AV.oref 1 1 0 r10.length]⟩, ⟨1, some [AV.i64 r7, AV.i64 r8, AV.oref 2 1 0 r11.length]⟩, ⟨1, none⟩, ⟨1, some (r20.map AV.f32)⟩, ⟨1, some (r21.map AV.f32)⟩, ⟨1, some [AV.i64 r15, AV.i64 r16, AV.oref 6 1 0 r20.length]⟩, ⟨1, some [AV.i64 r17, AV.i64 r18, AV.oref 7 1 0 r21.length]⟩, ⟨0, none⟩, ⟨0, none⟩, ⟨0, none⟩]) rfl rfl rfl (TOp.loadAgg_o rfl agg27 siz27 rfl rfl rfl rfl) rfl ?_
                  refine ROps.d (r := AV.b true) (fs := []) (Γ' := [⟨2, none⟩, ⟨1, some (r10.map AV.f32)⟩, ⟨1, some (r11.map AV.f32)⟩, ⟨1, some [AV.i64 r5, AV.i64 r6, AV.oref 1 1 0 r10.length]⟩, ⟨1, some [AV.i64 r7, AV.i64 r8, AV.oref 2 1 0 r11.length]⟩, ⟨1, none⟩, ⟨1, some (r20.map AV.f32)⟩, ⟨1, some (r21.map AV.f32)⟩, ⟨1, some [AV.i64 r15, AV.i64 r16, AV.oref 6 1 0 r20.length]⟩, ⟨1, some [AV.i64 r17, AV.i64 r18, AV.oref 7 1 0 r21.length]⟩, ⟨0, none⟩, ⟨0, none⟩, ⟨0, none⟩]) rfl rfl rfl (TOp.eqb (TOp.callB (CallAs.func ent13 rfl rfl) (Bors.cons (Bor.agg (Bors.cons (Bor.pure rfl) (Bors.cons (Bor.pure rfl) (Bors.cons (Bor.own (f := AV.f32) (fun _ => rfl) rfl rfl) Bors.nil)))) (Bors.cons (Bor.agg (Bors.cons (Bor.pure rfl) (Bors.cons (Bor.pure rfl) (Bors.cons (Bor.own (f := AV.f32) (fun _ => rfl) rfl rfl) Bors.nil)))) Bors.nil)) rfl rfl (w_eqMatrix_ok r15 r16 r20 r5 r6 r10 r30 hf18)) hc19) rfl ?_
                  refine ROps.l (r := AV.b false) rfl rfl rfl (LOp.eqb (LOp.not rfl rfl) rfl) ?_
                  refine ROps.l (r := AV.b false) rfl rfl rfl (LOp.pick_false rfl rfl rfl) ?_
                  refine ROps.l (r := AV.b false) rfl rfl rfl (LOp.move rfl rfl) ?_
                  refine ROps.d (r := AV.agg [AV.i64 r17, AV.i64 r18, AV.oref 7 1 0 r21.length]) (fs := []) (Γ' := [⟨2, none⟩, ⟨1, some (r10.map AV.f32)⟩, ⟨1, some (r11.map AV.f32)⟩, ⟨1, some [AV.i64 r5, AV.i64 r6, AV.oref 1 1 0 r10.length]⟩, ⟨1, some [AV.i64 r7, AV.i64 r8, AV.oref 2 1 0 r11.length]⟩, ⟨1, none⟩, ⟨1, some (r20.map AV.f32)⟩, ⟨1, some (r21.map AV.f32)⟩, ⟨1, some [AV.i64 r15, AV.i64 r16, AV.oref 6 1 0 r20.length]⟩, ⟨1, some [AV.i64 r17, AV.i64 r18, AV.oref 7 1 0 r21.length]⟩, ⟨0, none⟩, ⟨0, none⟩, ⟨0, none⟩]) rfl rfl rfl (TOp.loadAgg_o rfl agg27 siz27 rfl rfl rfl rfl) rfl ?_
                  refine ROps.d (r := AV.agg [AV.i64 r7, AV.i64 r8, AV.oref 2 1 0 r11.length]) (fs := []) (Γ' := [⟨2, none⟩, ⟨1, some (r10.map AV.f32)⟩, ⟨1, some (r11.map AV.f32)⟩, ⟨1, some [AV.i64 r5, AV.i64 r6, AV.oref 1 1 0 r10.length]⟩, ⟨1, some [AV.i64 r7, AV.i64 r8, AV.oref 2 1 0 r11.length]⟩, ⟨1, none⟩, ⟨1, some (r20.map AV.f32)⟩, ⟨1, some (r21.map AV.f32)⟩, ⟨1, some [AV.i64 r15, AV.i64 r16, AV.oref 6 1 0 r20.length]⟩, ⟨1, some [AV.i64 r17, AV.i64 r18, AV.oref 7 1 0 r21.length]⟩, ⟨0, none⟩, ⟨0, none⟩, ⟨0, none⟩]) rfl rfl rfl (TOp.loadAgg_o rfl agg27 siz27 rfl rfl rfl rfl) rfl ?_
                  refine ROps.d (r := AV.b true) (fs := []) (Γ' := [⟨2, none⟩, ⟨1, some (r10.map AV.f32)⟩, ⟨1, some (r11.map AV.f32)⟩, ⟨1, some [AV.i64 r5, AV.i64 r6, AV.oref 1 1 0 r10.length]⟩, ⟨1, some [AV.i64 r7, AV.i64 r8, AV.oref 2 1 0 r11.length]⟩, ⟨1, none⟩, ⟨1, some (r20.map AV.f32)⟩, ⟨1, some (r21.map AV.f32)⟩, ⟨1, some [AV.i64 r15, AV.i64 r16, AV.oref 6 1 0 r20.length]⟩, ⟨1, some [AV.i64 r17, AV.i64 r18, AV.oref 7 1 0 r21.length]⟩, ⟨0, none⟩, ⟨0, none⟩, ⟨0, none⟩]) rfl rfl rfl (TOp.eqb (TOp.callB (CallAs.func ent13 rfl rfl) (Bors.cons (Bor.agg (Bors.cons (Bor.pure rfl) (Bors.cons (Bor.pure rfl) (Bors.cons (Bor.own (f := AV.f32) (fun _ => rfl) rfl rfl) Bors.nil)))) (Bors.cons (Bor.agg (Bors.cons (Bor.pure rfl) (Bors.cons (Bor.pure rfl) (Bors.cons (Bor.own (f := AV.f32) (fun _ => rfl) rfl rfl) Bors.nil)))) Bors.nil)) rfl rfl (w_eqMatrix_ok r17 r18 r21 r7 r8 r11 r31 hf20)) hc21) rfl ?_
                  refine ROps.l (r := AV.b false) rfl rfl rfl (LOp.eqb (LOp.not rfl rfl) rfl) ?_
                  refine ROps.l (r := AV.b false) rfl rfl rfl (LOp.pick_false rfl rfl rfl) ?_
                  refine ROps.l (r := AV.b false) rfl rfl rfl (LOp.move rfl rfl) ?_
                  refine ROps.l (r := AV.b r19) rfl rfl rfl (LOp.move rfl rfl) ?_
                  refine ROps.l (r := AV.b r9) rfl rfl rfl (LOp.move rfl rfl) ?_
                  refine ROps.l (r := AV.b false) rfl rfl rfl (LOp.eqb (LOp.neqb pun4 rfl rfl rfl) hc11) ?_
                  refine ROps.l (r := AV.b false) rfl rfl rfl (LOp.pick_false rfl rfl rfl) ?_
                  refine ROps.nil ?_
                  refine RunC.wl (τ' := [(1, AV.i64 a3), (2, AV.ptr [AV.i64 a0, AV.i64 a1, AV.sl a2.length (a2.map AV.f32)]), (6, AV.optr 3 1 0), (7, AV.optr 4 1 0), (8, AV.b r9), (10, AV.optr 8 1 0), (11, AV.optr 9 1 0), (82, AV.b false)]) (Γ' := [⟨2, none⟩, ⟨1, some (r10.map AV.f32)⟩, ⟨1, some (r11.map AV.f32)⟩, ⟨1, some [AV.i64 r5, AV.i64 r6, AV.oref 1 1 0 r10.length]⟩, ⟨1, some [AV.i64 r7, AV.i64 r8, AV.oref 2 1 0 r11.length]⟩, ⟨1, none⟩, ⟨1, some (r20.map AV.f32)⟩, ⟨1, some (r21.map AV.f32)⟩, ⟨1, some [AV.i64 r15, AV.i64 r16, AV.oref 6 1 0 r20.length]⟩, ⟨1, some [AV.i64 r17, AV.i64 r18, AV.oref 7 1 0 r21.length]⟩, ⟨0, none⟩, ⟨0, none⟩, ⟨0, none⟩]) ⟨(ALe.refl _), (ALe.refl _), (ALe.refl _), (ALe.refl _), (ALe.refl _), (ALe.refl _), (ALe.refl _), (ALe.refl _), trivial⟩ ⟨⟨rfl, .inl rfl⟩, ⟨rfl, .inr rfl⟩, ⟨rfl, .inr rfl⟩, ⟨rfl, .inr rfl⟩, ⟨rfl, .inr rfl⟩, ⟨rfl, .inl rfl⟩, ⟨rfl, .inr rfl⟩, ⟨rfl, .inr rfl⟩, ⟨rfl, .inr rfl⟩, ⟨rfl, .inr rfl⟩, ⟨rfl, .inr rfl⟩, ⟨rfl, .inr rfl⟩, ⟨rfl, .inr rfl⟩, trivial⟩ ?_
                  refine RunC.cond_false rfl rfl ?_
                  refine RunC.skip ?_
                  refine RunC.seq ?_
                  refine RunC.regionW ?_
                  refine ROps.l (r := AV.i64 1) rfl rfl rfl (LOp.assign rfl rfl) ?_
                  refine ROps.nil ?_
                  refine RunC.seq ?_
                  obtain ⟨r32, r33, hf22, h⟩ := obind2_some h
                  obtain ⟨hn23, h⟩ := need_some h
                  refine RunC.regionW ?_
                  refine ROps.d (r := AV.agg [AV.i64 r15, AV.i64 r16, AV.oref 6 1 0 r20.length]) (fs := []) (Γ' := [⟨2, none⟩, ⟨1, some (r10.map AV.f32)⟩, ⟨1, some (r11.map AV.f32)⟩, ⟨1, some [AV.i64 r5, AV.i64 r6, AV.oref 1 1 0 r10.length]⟩, ⟨1, some [AV.i64 r7, AV.i64 r8, AV.oref 2 1 0 r11.length]⟩, ⟨1, none⟩, ⟨1, some (r20.map AV.f32)⟩, ⟨1, some (r21.map AV.f32)⟩, ⟨1, some [AV.i64 r15, AV.i64 r16, AV.oref 6 1 0 r20.length]⟩, ⟨1, some [AV.i64 r17, AV.i64 r18, AV.oref 7 1 0 r21.length]⟩, ⟨0, none⟩, ⟨0, none⟩, ⟨0, none⟩]) rfl rfl rfl (TOp.loadAgg_o rfl agg27 siz27 rfl rfl rfl rfl) rfl ?_
                  refine ROps.l (r := AV.i64 1) rfl rfl rfl (LOp.move rfl rfl) ?_
                  refine ROps.callO (A := [AV.agg [AV.i64 r15, AV.i64 r16, AV.oref 6 1 0 r20.length], AV.i64 1]) (args := [AV.agg [AV.i64 r15, AV.i64 r16, AV.oref 0 0 0 r20.length], AV.i64 1]) (Γc := [⟨0, some (r20.map AV.f32)⟩]) (Γc' := [⟨0, some (r33.map AV.f32)⟩]) (r' := AV.i64 r32) (Γ' := [⟨2, none⟩, ⟨1, some (r10.map AV.f32)⟩, ⟨1, some (r11.map AV.f32)⟩, ⟨1, some [AV.i64 r5, AV.i64 r6, AV.oref 1 1 0 r10.length]⟩, ⟨1, some [AV.i64 r7, AV.i64 r8, AV.oref 2 1 0 r11.length]⟩, ⟨1, none⟩, ⟨1, some (r33.map AV.f32)⟩, ⟨1, some (r21.map AV.f32)⟩, ⟨1, some [AV.i64 r15, AV.i64 r16, AV.oref 6 1 0 r20.length]⟩, ⟨1, some [AV.i64 r17, AV.i64 r18, AV.oref 7 1 0 r21.length]⟩, ⟨0, none⟩, ⟨0, none⟩, ⟨0, none⟩]) [(6, 1)] [] rfl (CallAs.func ent15 rfl rfl) rfl rfl (SelOk.of (show List.Nodup [6] from by decide) (SelL.arr0 (f := AV.f32) (fun _ => rfl) rfl trivial)) (live_of ⟨⟨_, _, rfl⟩, trivial⟩) (by simp [AV.ren, AV.rens, sigma, rens_f32, rens_f64, rens_i64, rens_ik, rens_str, rens_cp]) rfl (w_markMatrix_02o_ok r15 r16 1 r20 r32 r33 hf22) rfl (news_of trivial) (show List.Nodup [6] from by decide) (by simp [AV.ren, AV.rens, sigma, of_decide_eq_true hn23]) (by simp [backOb, sigma, AV.ren, AV.rens, rens_f32, rens_f64, rens_i64, rens_ik, rens_str, rens_cp]) ?_
                  refine ROps.l (r := AV.i64 r32) rfl rfl rfl (LOp.assign rfl rfl) ?_
                  refine ROps.nil ?_
                  refine RunC.seq ?_
                  obtain ⟨r34, r35, hf24, h⟩ := obind2_some h
                  obtain ⟨hn25, h⟩ := need_some h
                  refine RunC.regionW ?_
                  refine ROps.d (r := AV.agg [AV.i64 r17, AV.i64 r18, AV.oref 7 1 0 r21.length]) (fs := []) (Γ' := [⟨2, none⟩, ⟨1, some (r10.map AV.f32)⟩, ⟨1, some (r11.map AV.f32)⟩, ⟨1, some [AV.i64 r5, AV.i64 r6, AV.oref 1 1 0 r10.length]⟩, ⟨1, some [AV.i64 r7, AV.i64 r8, AV.oref 2 1 0 r11.length]⟩, ⟨1, none⟩, ⟨1, some (r33.map AV.f32)⟩, ⟨1, some (r21.map AV.f32)⟩, ⟨1, some [AV.i64 r15, AV.i64 r16, AV.oref 6 1 0 r20.length]⟩, ⟨1, some [AV.i64 r17, AV.i64 r18, AV.oref 7 1 0 r21.length]⟩, ⟨0, none⟩, ⟨0, none⟩, ⟨0, none⟩]) rfl rfl rfl (TOp.loadAgg_o rfl agg27 siz27 rfl rfl rfl rfl) rfl ?_
                  refine ROps.l (r := AV.i64 r32) rfl rfl rfl (LOp.move rfl rfl) ?_
                  refine ROps.callO (A := [AV.agg [AV.i64 r17, AV.i64 r18, AV.oref 7 1 0 r21.length], AV.i64 r32]) (args := [AV.agg [AV.i64 r17, AV.i64 r18, AV.oref 0 0 0 r21.length], AV.i64 r32]) (Γc := [⟨0, some (r21.map AV.f32)⟩]) (Γc' := [⟨0, some (r35.map AV.f32)⟩]) (r' := AV.i64 r34) (Γ' := [⟨2, none⟩, ⟨1, some (r10.map AV.f32)⟩, ⟨1, some (r11.map AV.f32)⟩, ⟨1, some [AV.i64 r5, AV.i64 r6, AV.oref 1 1 0 r10.length]⟩, ⟨1, some [AV.i64 r7, AV.i64 r8, AV.oref 2 1 0 r11.length]⟩, ⟨1, none⟩, ⟨1, some (r33.map AV.f32)⟩, ⟨1, some (r35.map AV.f32)⟩, ⟨1, some [AV.i64 r15, AV.i64 r16, AV.oref 6 1 0 r20.length]⟩, ⟨1, some [AV.i64 r17, AV.i64 r18, AV.oref 7 1 0 r21.length]⟩, ⟨0, none⟩, ⟨0, none⟩, ⟨0, none⟩]) [(7, 1)] [] rfl (CallAs.func ent15 rfl rfl) rfl rfl (SelOk.of (show List.Nodup [7] from by decide) (SelL.arr0 (f := AV.f32) (fun _ => rfl) rfl trivial)) (live_of ⟨⟨_, _, rfl⟩, trivial⟩) (by simp [AV.ren, AV.rens, sigma, rens_f32, rens_f64, rens_i64, rens_ik, rens_str, rens_cp]) rfl (w_markMatrix_02o_ok r17 r18 r32 r21 r34 r35 hf24) rfl (news_of trivial) (show List.Nodup [7] from by decide) (by simp [AV.ren, AV.rens, sigma, of_decide_eq_true hn25]) (by simp [backOb, sigma, AV.ren, AV.rens, rens_f32, rens_f64, rens_i64, rens_ik, rens_str, rens_cp]) ?_
                  refine ROps.l (r := AV.i64 r34) rfl rfl rfl (LOp.assign rfl rfl) ?_
                  refine ROps.nil ?_
                  refine RunC.seq ?_
                  refine RunC.regionW ?_
                  refine ROps.l (r := AV.i64 1) rfl rfl rfl (LOp.assign rfl rfl) ?_
                  refine ROps.nil ?_
                  refine RunC.seq ?_
                  obtain ⟨r36, hf26, h⟩ := obind_some h
                  refine RunC.regionW ?_
                  refine ROps.d (r := AV.agg [AV.i64 r15, AV.i64 r16, AV.oref 6 1 0 r20.length]) (fs := []) (Γ' := [⟨2, none⟩, ⟨1, some (r10.map AV.f32)⟩, ⟨1, some (r11.map AV.f32)⟩, ⟨1, some [AV.i64 r5, AV.i64 r6, AV.oref 1 1 0 r10.length]⟩, ⟨1, some [AV.i64 r7, AV.i64 r8, AV.oref 2 1 0 r11.length]⟩, ⟨1, none⟩, ⟨1, some (r33.map AV.f32)⟩, ⟨1, some (r35.map AV.f32)⟩, ⟨1, some [AV.i64 r15, AV.i64 r16, AV.oref 6 1 0 r20.length]⟩, ⟨1, some [AV.i64 r17, AV.i64 r18, AV.oref 7 1 0 r21.length]⟩, ⟨0, none⟩, ⟨0, none⟩, ⟨0, none⟩]) rfl rfl rfl (TOp.loadAgg_o rfl agg27 siz27 rfl rfl rfl rfl) rfl ?_
                  refine ROps.l (r := AV.i64 1) rfl rfl rfl (LOp.move rfl rfl) ?_
                  refine ROps.d (r := AV.i64 r36) (fs := []) (Γ' := [⟨2, none⟩, ⟨1, some (r10.map AV.f32)⟩, ⟨1, some (r11.map AV.f32)⟩, ⟨1, some [AV.i64 r5, AV.i64 r6, AV.oref 1 1 0 r10.length]⟩, ⟨1, some [AV.i64 r7, AV.i64 r8, AV.oref 2 1 0 r11.length]⟩, ⟨1, none⟩, ⟨1, some (r33.map AV.f32)⟩, ⟨1, some (r35.map AV.f32)⟩, ⟨1, some [AV.i64 r15, AV.i64 r16, AV.oref 6 1 0 r20.length]⟩, ⟨1, some [AV.i64 r17, AV.i64 r18, AV.oref 7 1 0 r21.length]⟩, ⟨0, none⟩, ⟨0, none⟩, ⟨0, none⟩]) rfl rfl rfl (TOp.callB (CallAs.func ent17 rfl rfl) (Bors.cons (Bor.agg (Bors.cons (Bor.pure rfl) (Bors.cons (Bor.pure rfl) (Bors.cons (Bor.own (f := AV.f32) (fun _ => rfl) rfl (of_decide_eq_true hn23)) Bors.nil)))) (Bors.cons (Bor.pure rfl) Bors.nil)) rfl rfl (w_heldMatrix_ok r15 r16 r33 1 r36 hf26)) rfl ?_
                  refine ROps.l (r := AV.i64 r36) rfl rfl rfl (LOp.assign rfl rfl) ?_
                  refine ROps.nil ?_
                  refine RunC.seq ?_
                  refine RunC.seq ?_
                  rcases bsel_some h with ⟨hc27, h⟩ | ⟨hc27, h⟩
                  · refine RunC.regionW ?_
                    refine ROps.l (r := AV.i64 r36) rfl rfl rfl (LOp.move rfl rfl) ?_
                    refine ROps.l (r := AV.b true) rfl rfl rfl (LOp.eqb (LOp.lss rfl rfl rfl) hc27) ?_
                    refine ROps.nil ?_
                    refine RunC.cond_true rfl rfl ?_
                    refine RunC.seq ?_
                    refine RunC.regionW ?_
                    refine ROps.l (r := AV.b false) rfl rfl rfl (LOp.assign rfl rfl) ?_
                    refine ROps.nil ?_
                    refine RunC.ret ?_
                    have hq := Option.some.inj h
                    subst q0
                    exact bodyQ.pure (.inr rfl) rfl (Res.one rfl (RV.tmp rfl))
                  · refine RunC.regionW ?_
                    refine ROps.l (r := AV.i64 r36) rfl rfl rfl (LOp.move rfl rfl) ?_
                    refine ROps.l (r := AV.b false) rfl rfl rfl (LOp.eqb (LOp.lss rfl rfl rfl) hc27) ?_
                    refine ROps.nil ?_
                    refine RunC.cond_false rfl rfl ?_
                    refine RunC.skip ?_
                    refine RunC.seq ?_
                    obtain ⟨r37, hf28, h⟩ := obind_some h
                    refine RunC.regionW ?_
                    refine ROps.d (r := AV.agg [AV.i64 r17, AV.i64 r18, AV.oref 7 1 0 r21.length]) (fs := []) (Γ' := [⟨2, none⟩, ⟨1, some (r10.map AV.f32)⟩, ⟨1, some (r11.map AV.f32)⟩, ⟨1, some [AV.i64 r5, AV.i64 r6, AV.oref 1 1 0 r10.length]⟩, ⟨1, some [AV.i64 r7, AV.i64 r8, AV.oref 2 1 0 r11.length]⟩, ⟨1, none⟩, ⟨1, some (r33.map AV.f32)⟩, ⟨1, some (r35.map AV.f32)⟩, ⟨1, some [AV.i64 r15, AV.i64 r16, AV.oref 6 1 0 r20.length]⟩, ⟨1, some [AV.i64 r17, AV.i64 r18, AV.oref 7 1 0 r21.length]⟩, ⟨0, none⟩, ⟨0, none⟩, ⟨0, none⟩]) rfl rfl rfl (TOp.loadAgg_o rfl agg27 siz27 rfl rfl rfl rfl) rfl ?_
                    refine ROps.l (r := AV.i64 r36) rfl rfl rfl (LOp.move rfl rfl) ?_
                    refine ROps.d (r := AV.i64 r37) (fs := []) (Γ' := [⟨2, none⟩, ⟨1, some (r10.map AV.f32)⟩, ⟨1, some (r11.map AV.f32)⟩, ⟨1, some [AV.i64 r5, AV.i64 r6, AV.oref 1 1 0 r10.length]⟩, ⟨1, some [AV.i64 r7, AV.i64 r8, AV.oref 2 1 0 r11.length]⟩, ⟨1, none⟩, ⟨1, some (r33.map AV.f32)⟩, ⟨1, some (r35.map AV.f32)⟩, ⟨1, some [AV.i64 r15, AV.i64 r16, AV.oref 6 1 0 r20.length]⟩, ⟨1, some [AV.i64 r17, AV.i64 r18, AV.oref 7 1 0 r21.length]⟩, ⟨0, none⟩, ⟨0, none⟩, ⟨0, none⟩]) rfl rfl rfl (TOp.callB (CallAs.func ent17 rfl rfl) (Bors.cons (Bor.agg (Bors.cons (Bor.pure rfl) (Bors.cons (Bor.pure rfl) (Bors.cons (Bor.own (f := AV.f32) (fun _ => rfl) rfl (of_decide_eq_true hn25)) Bors.nil)))) (Bors.cons (Bor.pure rfl) Bors.nil)) rfl rfl (w_heldMatrix_ok r17 r18 r35 r36 r37 hf28)) rfl ?_
                    refine ROps.l (r := AV.i64 r37) rfl rfl rfl (LOp.assign rfl rfl) ?_
                    refine ROps.nil ?_
                    refine RunC.seq ?_
                    refine RunC.seq ?_
                    rcases bsel_some h with ⟨hc29, h⟩ | ⟨hc29, h⟩
                    · refine RunC.regionW ?_
                      refine ROps.l (r := AV.i64 r37) rfl rfl rfl (LOp.move rfl rfl) ?_
                      refine ROps.l (r := AV.b true) rfl rfl rfl (LOp.eqb (LOp.lss rfl rfl rfl) hc29) ?_
                      refine ROps.nil ?_
                      refine RunC.cond_true rfl rfl ?_
                      refine RunC.seq ?_
                      refine RunC.regionW ?_
                      refine ROps.l (r := AV.b false) rfl rfl rfl (LOp.assign rfl rfl) ?_
                      refine ROps.nil ?_
                      refine RunC.ret ?_
                      have hq := Option.some.inj h
                      subst q0
                      exact bodyQ.pure (.inr rfl) rfl (Res.one rfl (RV.tmp rfl))
                    · refine RunC.regionW ?_
                      refine ROps.l (r := AV.i64 r37) rfl rfl rfl (LOp.move rfl rfl) ?_
                      refine ROps.l (r := AV.b false) rfl rfl rfl (LOp.eqb (LOp.lss rfl rfl rfl) hc29) ?_
                      refine ROps.nil ?_
                      refine RunC.cond_false rfl rfl ?_
                      refine RunC.skip ?_
                      refine RunC.seq ?_
                      refine RunC.seq ?_
                      rcases bsel_some h with ⟨hc30, h⟩ | ⟨hc30, h⟩
                      · refine RunC.regionW ?_
                        refine ROps.l (r := AV.i64 r37) rfl rfl rfl (LOp.move rfl rfl) ?_
                        refine ROps.l (r := AV.i64 r34) rfl rfl rfl (LOp.move rfl rfl) ?_
                        refine ROps.l (r := AV.b true) rfl rfl rfl (LOp.eqb (LOp.neq rfl rfl rfl) hc30) ?_
                        refine ROps.nil ?_
                        refine RunC.wl (τ' := [(1, AV.i64 a3), (2, AV.ptr [AV.i64 a0, AV.i64 a1, AV.sl a2.length (a2.map AV.f32)]), (6, AV.optr 3 1 0), (7, AV.optr 4 1 0), (8, AV.b r9), (10, AV.optr 8 1 0), (11, AV.optr 9 1 0), (14, AV.i64 r34), (101, AV.b true)]) (Γ' := [⟨2, none⟩, ⟨1, some (r10.map AV.f32)⟩, ⟨1, some (r11.map AV.f32)⟩, ⟨1, some [AV.i64 r5, AV.i64 r6, AV.oref 1 1 0 r10.length]⟩, ⟨1, some [AV.i64 r7, AV.i64 r8, AV.oref 2 1 0 r11.length]⟩, ⟨1, none⟩, ⟨1, some (r33.map AV.f32)⟩, ⟨1, some (r35.map AV.f32)⟩, ⟨1, some [AV.i64 r15, AV.i64 r16, AV.oref 6 1 0 r20.length]⟩, ⟨1, some [AV.i64 r17, AV.i64 r18, AV.oref 7 1 0 r21.length]⟩, ⟨0, none⟩, ⟨0, none⟩, ⟨0, none⟩]) ⟨(ALe.refl _), (ALe.refl _), (ALe.refl _), (ALe.refl _), (ALe.refl _), (ALe.refl _), (ALe.refl _), (ALe.refl _), (ALe.refl _), trivial⟩ ⟨⟨rfl, .inl rfl⟩, ⟨rfl, .inr rfl⟩, ⟨rfl, .inr rfl⟩, ⟨rfl, .inr rfl⟩, ⟨rfl, .inr rfl⟩, ⟨rfl, .inl rfl⟩, ⟨rfl, .inr rfl⟩, ⟨rfl, .inr rfl⟩, ⟨rfl, .inr rfl⟩, ⟨rfl, .inr rfl⟩, ⟨rfl, .inr rfl⟩, ⟨rfl, .inr rfl⟩, ⟨rfl, .inr rfl⟩, trivial⟩ ?_
                        refine RunC.cond_true rfl rfl ?_
                        refine RunC.seq ?_
                        refine RunC.regionW ?_
                        refine ROps.l (r := AV.b false) rfl rfl rfl (LOp.assign rfl rfl) ?_
                        refine ROps.nil ?_
                        refine RunC.ret ?_
                        have hq := Option.some.inj h
                        subst q0
                        exact bodyQ.pure (.inr rfl) rfl (Res.one rfl (RV.tmp rfl))
                      · refine RunC.regionW ?_
                        refine ROps.l (r := AV.i64 r37) rfl rfl rfl (LOp.move rfl rfl) ?_
                        refine ROps.l (r := AV.i64 r34) rfl rfl rfl (LOp.move rfl rfl) ?_
                        refine ROps.l (r := AV.b false) rfl rfl rfl (LOp.eqb (LOp.neq rfl rfl rfl) hc30) ?_
                        refine ROps.nil ?_
                        refine RunC.wl (τ' := [(1, AV.i64 a3), (2, AV.ptr [AV.i64 a0, AV.i64 a1, AV.sl a2.length (a2.map AV.f32)]), (6, AV.optr 3 1 0), (7, AV.optr 4 1 0), (8, AV.b r9), (10, AV.optr 8 1 0), (11, AV.optr 9 1 0), (14, AV.i64 r34), (101, AV.b false)]) (Γ' := [⟨2, none⟩, ⟨1, some (r10.map AV.f32)⟩, ⟨1, some (r11.map AV.f32)⟩, ⟨1, some [AV.i64 r5, AV.i64 r6, AV.oref 1 1 0 r10.length]⟩, ⟨1, some [AV.i64 r7, AV.i64 r8, AV.oref 2 1 0 r11.length]⟩, ⟨1, none⟩, ⟨1, some (r33.map AV.f32)⟩, ⟨1, some (r35.map AV.f32)⟩, ⟨1, some [AV.i64 r15, AV.i64 r16, AV.oref 6 1 0 r20.length]⟩, ⟨1, some [AV.i64 r17, AV.i64 r18, AV.oref 7 1 0 r21.length]⟩, ⟨0, none⟩, ⟨0, none⟩, ⟨0, none⟩]) ⟨(ALe.refl _), (ALe.refl _), (ALe.refl _), (ALe.refl _), (ALe.refl _), (ALe.refl _), (ALe.refl _), (ALe.refl _), (ALe.refl _), trivial⟩ ⟨⟨rfl, .inl rfl⟩, ⟨rfl, .inr rfl⟩, ⟨rfl, .inr rfl⟩, ⟨rfl, .inr rfl⟩, ⟨rfl, .inr rfl⟩, ⟨rfl, .inl rfl⟩, ⟨rfl, .inr rfl⟩, ⟨rfl, .inr rfl⟩, ⟨rfl, .inr rfl⟩, ⟨rfl, .inr rfl⟩, ⟨rfl, .inr rfl⟩, ⟨rfl, .inr rfl⟩, ⟨rfl, .inr rfl⟩, trivial⟩ ?_
                        refine RunC.cond_false rfl rfl ?_
                        refine RunC.skip ?_
                        refine RunC.seq ?_
                        obtain ⟨r38, r39, r40, hf31, h⟩ := obind3_some h
                        obtain ⟨r41, r42, r43, r44, r45, r46, r47, hf32, h⟩ := obind7_some h
                        refine RunC.regionW ?_
                        refine ROps.l (r := AV.agg [AV.i64 a0, AV.i64 a1, AV.sl a2.length (a2.map AV.f32)]) rfl rfl rfl (LOp.loadAgg agg24 siz24 rfl rfl rfl rfl) ?_
                        refine ROps.d (r := AV.agg [AV.i64 r38, AV.i64 r39, AV.oref 0 3 0 r40.length]) (fs := [(0, (r40.map AV.f32))]) (Γ' := [⟨3, some (r40.map AV.f32)⟩, ⟨1, some (r10.map AV.f32)⟩, ⟨1, some (r11.map AV.f32)⟩, ⟨1, some [AV.i64 r5, AV.i64 r6, AV.oref 1 1 0 r10.length]⟩, ⟨1, some [AV.i64 r7, AV.i64 r8, AV.oref 2 1 0 r11.length]⟩, ⟨1, none⟩, ⟨1, some (r33.map AV.f32)⟩, ⟨1, some (r35.map AV.f32)⟩, ⟨1, some [AV.i64 r15, AV.i64 r16, AV.oref 6 1 0 r20.length]⟩, ⟨1, some [AV.i64 r17, AV.i64 r18, AV.oref 7 1 0 r21.length]⟩, ⟨0, none⟩, ⟨0, none⟩, ⟨0, none⟩]) rfl rfl rfl (TOp.callBN (ls := [(r40.map AV.f32)]) [0] (CallAs.func ent11 rfl rfl) (Bors.cons (Bor.agg (Bors.cons (Bor.pure rfl) (Bors.cons (Bor.pure rfl) (Bors.cons (Bor.sl (fun _ => rfl)) Bors.nil)))) Bors.nil) rfl (w_toMatrix_ok a0 a1 a2 r38 r39 r40 hf31) (and_all (lts0_map (f := AV.f32) (fun _ => rfl) _) rfl) (and_all (noss_map (f := AV.f32) (fun _ => rfl) _) rfl) rfl (by decide) (ns_of ⟨⟨_, rfl⟩, trivial⟩)) rfl ?_
                        refine ROps.l (r := AV.i64 a3) rfl rfl rfl (LOp.move rfl rfl) ?_
                        refine ROps.d (r := AV.tup [AV.agg [AV.i64 r41, AV.i64 r42, AV.oref 5 2 0 r46.length], AV.agg [AV.i64 r43, AV.i64 r44, AV.oref 10 1 0 r47.length], AV.b r45]) (fs := [(5, (r46.map AV.f32)), (10, (r47.map AV.f32))]) (Γ' := [⟨3, some (r40.map AV.f32)⟩, ⟨1, some (r10.map AV.f32)⟩, ⟨1, some (r11.map AV.f32)⟩, ⟨1, some [AV.i64 r5, AV.i64 r6, AV.oref 1 1 0 r10.length]⟩, ⟨1, some [AV.i64 r7, AV.i64 r8, AV.oref 2 1 0 r11.length]⟩, ⟨2, some (r46.map AV.f32)⟩, ⟨1, some (r33.map AV.f32)⟩, ⟨1, some (r35.map AV.f32)⟩, ⟨1, some [AV.i64 r15, AV.i64 r16, AV.oref 6 1 0 r20.length]⟩, ⟨1, some [AV.i64 r17, AV.i64 r18, AV.oref 7 1 0 r21.length]⟩, ⟨1, some (r47.map AV.f32)⟩, ⟨0, none⟩, ⟨0, none⟩]) rfl rfl rfl (TOp.callBN (ls := [(r46.map AV.f32), (r47.map AV.f32)]) [5, 10] (CallAs.func ent35 rfl rfl) (Bors.cons (Bor.agg (Bors.cons (Bor.pure rfl) (Bors.cons (Bor.pure rfl) (Bors.cons (Bor.own (f := AV.f32) (fun _ => rfl) rfl rfl) Bors.nil)))) (Bors.cons (Bor.pure rfl) Bors.nil)) rfl (i_SideTurns_ok r38 r39 r40 a3 r41 r42 r43 r44 r45 r46 r47 hf32) (and_all (lts0_map (f := AV.f32) (fun _ => rfl) _) (and_all (lts0_map (f := AV.f32) (fun _ => rfl) _) rfl)) (and_all (noss_map (f := AV.f32) (fun _ => rfl) _) (and_all (noss_map (f := AV.f32) (fun _ => rfl) _) rfl)) rfl (by decide) (ns_of ⟨⟨_, rfl⟩, ⟨_, rfl⟩, trivial⟩)) rfl ?_
                        refine ROps.l (r := AV.tup [AV.agg [AV.i64 r41, AV.i64 r42, AV.oref 5 2 0 r46.length], AV.agg [AV.i64 r43, AV.i64 r44, AV.oref 10 1 0 r47.length], AV.b r45]) rfl rfl rfl (LOp.move rfl rfl) ?_
                        refine ROps.l (r := AV.agg [AV.i64 r41, AV.i64 r42, AV.oref 5 2 0 r46.length]) rfl rfl rfl (LOp.extract rfl rfl rfl) ?_
                        refine ROps.l (r := AV.agg [AV.i64 r43, AV.i64 r44, AV.oref 10 1 0 r47.length]) rfl rfl rfl (LOp.extract rfl rfl rfl) ?_
                        refine ROps.l (r := AV.b r45) rfl rfl rfl (LOp.extract rfl rfl rfl) ?_
                        refine ROps.d (r := AV.optr 11 1 0) (fs := [(11, [AV.i64 0, AV.i64 0, AV.nilsl])]) (Γ' := [⟨3, some (r40.map AV.f32)⟩, ⟨1, some (r10.map AV.f32)⟩, ⟨1, some (r11.map AV.f32)⟩, ⟨1, some [AV.i64 r5, AV.i64 r6, AV.oref 1 1 0 r10.length]⟩, ⟨1, some [AV.i64 r7, AV.i64 r8, AV.oref 2 1 0 r11.length]⟩, ⟨2, some (r46.map AV.f32)⟩, ⟨1, some (r33.map AV.f32)⟩, ⟨1, some (r35.map AV.f32)⟩, ⟨1, some [AV.i64 r15, AV.i64 r16, AV.oref 6 1 0 r20.length]⟩, ⟨1, some [AV.i64 r17, AV.i64 r18, AV.oref 7 1 0 r21.length]⟩, ⟨1, some (r47.map AV.f32)⟩, ⟨1, some [AV.i64 0, AV.i64 0, AV.nilsl]⟩, ⟨0, none⟩]) rfl rfl rfl (TOp.alloc_o (g := ⟨0, none⟩) 11 rfl zer27 zok27 rfl) rfl ?_
                        refine ROps.d (r := AV.optr 12 1 0) (fs := [(12, [AV.i64 0, AV.i64 0, AV.nilsl])]) (Γ' := [⟨3, some (r40.map AV.f32)⟩, ⟨1, some (r10.map AV.f32)⟩, ⟨1, some (r11.map AV.f32)⟩, ⟨1, some [AV.i64 r5, AV.i64 r6, AV.oref 1 1 0 r10.length]⟩, ⟨1, some [AV.i64 r7, AV.i64 r8, AV.oref 2 1 0 r11.length]⟩, ⟨2, some (r46.map AV.f32)⟩, ⟨1, some (r33.map AV.f32)⟩, ⟨1, some (r35.map AV.f32)⟩, ⟨1, some [AV.i64 r15, AV.i64 r16, AV.oref 6 1 0 r20.length]⟩, ⟨1, some [AV.i64 r17, AV.i64 r18, AV.oref 7 1 0 r21.length]⟩, ⟨1, some (r47.map AV.f32)⟩, ⟨1, some [AV.i64 0, AV.i64 0, AV.nilsl]⟩, ⟨1, some [AV.i64 0, AV.i64 0, AV.nilsl]⟩]) rfl rfl rfl (TOp.alloc_o (g := ⟨0, none⟩) 12 rfl zer27 zok27 rfl) rfl ?_
                        refine ROps.store_le (r := AV.agg [AV.i64 r41, AV.i64 r42, AV.oref 5 2 0 r46.length]) (l' := [AV.i64 r41, AV.i64 r42, AV.oref 5 2 0 r46.length]) (Γ' := [⟨3, some (r40.map AV.f32)⟩, ⟨1, some (r10.map AV.f32)⟩, ⟨1, some (r11.map AV.f32)⟩, ⟨1, some [AV.i64 r5, AV.i64 r6, AV.oref 1 1 0 r10.length]⟩, ⟨1, some [AV.i64 r7, AV.i64 r8, AV.oref 2 1 0 r11.length]⟩, ⟨2, some (r46.map AV.f32)⟩, ⟨1, some (r33.map AV.f32)⟩, ⟨1, some (r35.map AV.f32)⟩, ⟨1, some [AV.i64 r15, AV.i64 r16, AV.oref 6 1 0 r20.length]⟩, ⟨1, some [AV.i64 r17, AV.i64 r18, AV.oref 7 1 0 r21.length]⟩, ⟨1, some (r47.map AV.f32)⟩, ⟨1, some [AV.i64 r41, AV.i64 r42, AV.oref 5 2 0 r46.length]⟩, ⟨1, some [AV.i64 0, AV.i64 0, AV.nilsl]⟩]) rfl siz27 rfl rfl rfl (ALe.refl _) rfl rfl rfl rfl (Nat.le_of_ble_eq_true rfl) rfl rfl ?_
                        refine ROps.store_le (r := AV.agg [AV.i64 r43, AV.i64 r44, AV.oref 10 1 0 r47.length]) (l' := [AV.i64 r43, AV.i64 r44, AV.oref 10 1 0 r47.length]) (Γ' := [⟨3, some (r40.map AV.f32)⟩, ⟨1, some (r10.map AV.f32)⟩, ⟨1, some (r11.map AV.f32)⟩, ⟨1, some [AV.i64 r5, AV.i64 r6, AV.oref 1 1 0 r10.length]⟩, ⟨1, some [AV.i64 r7, AV.i64 r8, AV.oref 2 1 0 r11.length]⟩, ⟨2, some (r46.map AV.f32)⟩, ⟨1, some (r33.map AV.f32)⟩, ⟨1, some (r35.map AV.f32)⟩, ⟨1, some [AV.i64 r15, AV.i64 r16, AV.oref 6 1 0 r20.length]⟩, ⟨1, some [AV.i64 r17, AV.i64 r18, AV.oref 7 1 0 r21.length]⟩, ⟨1, some (r47.map AV.f32)⟩, ⟨1, some [AV.i64 r41, AV.i64 r42, AV.oref 5 2 0 r46.length]⟩, ⟨1, some [AV.i64 r43, AV.i64 r44, AV.oref 10 1 0 r47.length]⟩]) rfl siz27 rfl rfl rfl (ALe.refl _) rfl rfl rfl rfl (Nat.le_of_ble_eq_true rfl) rfl rfl ?_
                        refine ROps.l (r := AV.b r45) rfl rfl rfl (LOp.assign rfl rfl) ?_
                        refine ROps.nil ?_
                        refine RunC.wl (τ' := [(6, AV.optr 3 1 0), (7, AV.optr 4 1 0), (8, AV.b r9), (10, AV.optr 8 1 0), (11, AV.optr 9 1 0), (14, AV.i64 r34), (16, AV.optr 11 1 0), (17, AV.optr 12 1 0), (18, AV.b r45)]) (Γ' := [⟨3, none⟩, ⟨1, some (r10.map AV.f32)⟩, ⟨1, some (r11.map AV.f32)⟩, ⟨1, some [AV.i64 r5, AV.i64 r6, AV.oref 1 1 0 r10.length]⟩, ⟨1, some [AV.i64 r7, AV.i64 r8, AV.oref 2 1 0 r11.length]⟩, ⟨2, some (r46.map AV.f32)⟩, ⟨1, some (r33.map AV.f32)⟩, ⟨1, some (r35.map AV.f32)⟩, ⟨1, some [AV.i64 r15, AV.i64 r16, AV.oref 6 1 0 r20.length]⟩, ⟨1, some [AV.i64 r17, AV.i64 r18, AV.oref 7 1 0 r21.length]⟩, ⟨1, some (r47.map AV.f32)⟩, ⟨1, some [AV.i64 r41, AV.i64 r42, AV.oref 5 2 0 r46.length]⟩, ⟨1, some [AV.i64 r43, AV.i64 r44, AV.oref 10 1 0 r47.length]⟩]) ⟨(ALe.refl _), (ALe.refl _), (ALe.refl _), (ALe.refl _), (ALe.refl _), (ALe.refl _), (ALe.refl _), (ALe.refl _), (ALe.refl _), trivial⟩ ⟨⟨rfl, .inl rfl⟩, ⟨rfl, .inr rfl⟩, ⟨rfl, .inr rfl⟩, ⟨rfl, .inr rfl⟩, ⟨rfl, .inr rfl⟩, ⟨rfl, .inr rfl⟩, ⟨rfl, .inr rfl⟩, ⟨rfl, .inr rfl⟩, ⟨rfl, .inr rfl⟩, ⟨rfl, .inr rfl⟩, ⟨rfl, .inr rfl⟩, ⟨rfl, .inr rfl⟩, ⟨rfl, .inr rfl⟩, trivial⟩ ?_
                        refine RunC.seq ?_
                        refine RunC.seq ?_
                        obtain ⟨r48, hf33, h⟩ := obind_some h
                        rcases bsel_some h with ⟨hc34, h⟩ | ⟨hc34, h⟩
                        · obtain ⟨r49, hf35, h⟩ := obind_some h
                          rcases bsel_some h with ⟨hc36, h⟩ | ⟨hc36, h⟩
                          · rcases bsel_some h with ⟨hc37, h⟩ | ⟨hc37, h⟩
                            · refine RunC.regionW ?_
                              refine ROps.d (r := AV.agg [AV.i64 r41, AV.i64 r42, AV.oref 5 2 0 r46.length]) (fs := []) (Γ' := [⟨3, none⟩, ⟨1, some (r10.map AV.f32)⟩, ⟨1, some (r11.map AV.f32)⟩, ⟨1, some [AV.i64 r5, AV.i64 r6, AV.oref 1 1 0 r10.length]⟩, ⟨1, some [AV.i64 r7, AV.i64 r8, AV.oref 2 1 0 r11.length]⟩, ⟨2, some (r46.map AV.f32)⟩, ⟨1, some (r33.map AV.f32)⟩, ⟨1, some (r35.map AV.f32)⟩, ⟨1, some [AV.i64 r15, AV.i64 r16, AV.oref 6 1 0 r20.length]⟩, ⟨1, some [AV.i64 r17, AV.i64 r18, AV.oref 7 1 0 r21.length]⟩, ⟨1, some (r47.map AV.f32)⟩, ⟨1, some [AV.i64 r41, AV.i64 r42, AV.oref 5 2 0 r46.length]⟩, ⟨1, some [AV.i64 r43, AV.i64 r44, AV.oref 10 1 0 r47.length]⟩]) rfl rfl rfl (TOp.loadAgg_o rfl agg27 siz27 rfl rfl rfl rfl) rfl ?_
                              refine ROps.d (r := AV.agg [AV.i64 r5, AV.i64 r6, AV.oref 1 1 0 r10.length]) (fs := []) (Γ' := [⟨3, none⟩, ⟨1, some (r10.map AV.f32)⟩, ⟨1, some (r11.map AV.f32)⟩, ⟨1, some [AV.i64 r5, AV.i64 r6, AV.oref 1 1 0 r10.length]⟩, ⟨1, some [AV.i64 r7, AV.i64 r8, AV.oref 2 1 0 r11.length]⟩, ⟨2, some (r46.map AV.f32)⟩, ⟨1, some (r33.map AV.f32)⟩, ⟨1, some (r35.map AV.f32)⟩, ⟨1, some [AV.i64 r15, AV.i64 r16, AV.oref 6 1 0 r20.length]⟩, ⟨1, some [AV.i64 r17, AV.i64 r18, AV.oref 7 1 0 r21.length]⟩, ⟨1, some (r47.map AV.f32)⟩, ⟨1, some [AV.i64 r41, AV.i64 r42, AV.oref 5 2 0 r46.length]⟩, ⟨1, some [AV.i64 r43, AV.i64 r44, AV.oref 10 1 0 r47.length]⟩]) rfl rfl rfl (TOp.loadAgg_o rfl agg27 siz27 rfl rfl rfl rfl) rfl ?_
                              refine ROps.d (r := AV.b true) (fs := []) (Γ' := [⟨3, none⟩, ⟨1, some (r10.map AV.f32)⟩, ⟨1, some (r11.map AV.f32)⟩, ⟨1, some [AV.i64 r5, AV.i64 r6, AV.oref 1 1 0 r10.length]⟩, ⟨1, some [AV.i64 r7, AV.i64 r8, AV.oref 2 1 0 r11.length]⟩, ⟨2, some (r46.map AV.f32)⟩, ⟨1, some (r33.map AV.f32)⟩, ⟨1, some (r35.map AV.f32)⟩, ⟨1, some [AV.i64 r15, AV.i64 r16, AV.oref 6 1 0 r20.length]⟩, ⟨1, some [AV.i64 r17, AV.i64 r18, AV.oref 7 1 0 r21.length]⟩, ⟨1, some (r47.map AV.f32)⟩, ⟨1, some [AV.i64 r41, AV.i64 r42, AV.oref 5 2 0 r46.length]⟩, ⟨1, some [AV.i64 r43, AV.i64 r44, AV.oref 10 1 0 r47.length]⟩]) rfl rfl rfl (TOp.eqb (TOp.callB (CallAs.func ent13 rfl rfl) (Bors.cons (Bor.agg (Bors.cons (Bor.pure rfl) (Bors.cons (Bor.pure rfl) (Bors.cons (Bor.own (f := AV.f32) (fun _ => rfl) rfl rfl) Bors.nil)))) (Bors.cons (Bor.agg (Bors.cons (Bor.pure rfl) (Bors.cons (Bor.pure rfl) (Bors.cons (Bor.own (f := AV.f32) (fun _ => rfl) rfl rfl) Bors.nil)))) Bors.nil)) rfl rfl (w_eqMatrix_ok r41 r42 r46 r5 r6 r10 r48 hf33)) hc34) rfl ?_
                              refine ROps.l (r := AV.b false) rfl rfl rfl (LOp.eqb (LOp.not rfl rfl) rfl) ?_
                              refine ROps.l (r := AV.b false) rfl rfl rfl (LOp.move rfl rfl) ?_
                              refine ROps.d (r := AV.agg [AV.i64 r43, AV.i64 r44, AV.oref 10 1 0 r47.length]) (fs := []) (Γ' := [⟨3, none⟩, ⟨1, some (r10.map AV.f32)⟩, ⟨1, some (r11.map AV.f32)⟩, ⟨1, some [AV.i64 r5, AV.i64 r6, AV.oref 1 1 0 r10.length]⟩, ⟨1, some [AV.i64 r7, AV.i64 r8, AV.oref 2 1 0 r11.length]⟩, ⟨2, some (r46.map AV.f32)⟩, ⟨1, some (r33.map AV.f32)⟩, ⟨1, some (r35.map AV.f32)⟩, ⟨1, some [AV.i64 r15, AV.i64 r16, AV.oref 6 1 0 r20.length]⟩, ⟨1, some [AV.i64 r17, AV.i64 r18, AV.oref 7 1 0 r21.length]⟩, ⟨1, some (r47.map AV.f32)⟩, ⟨1, some [AV.i64 r41, AV.i64 r42, AV.oref 5 2 0 r46.length]⟩, ⟨1, some [AV.i64 r43, AV.i64 r44, AV.oref 10 1 0 r47.length]⟩]) rfl rfl rfl (TOp.loadAgg_o rfl agg27 siz27 rfl rfl rfl rfl) rfl ?_
                              refine ROps.d (r := AV.agg [AV.i64 r7, AV.i64 r8, AV.oref 2 1 0 r11.length]) (fs := []) (Γ' := [⟨3, none⟩, ⟨1, some (r10.map AV.f32)⟩, ⟨1, some (r11.map AV.f32)⟩, ⟨1, some [AV.i64 r5, AV.i64 r6, AV.oref 1 1 0 r10.length]⟩, ⟨1, some [AV.i64 r7, AV.i64 r8, AV.oref 2 1 0 r11.length]⟩, ⟨2, some (r46.map AV.f32)⟩, ⟨1, some (r33.map AV.f32)⟩, ⟨1, some (r35.map AV.f32)⟩, ⟨1, some [AV.i64 r15, AV.i64 r16, AV.oref 6 1 0 r20.length]⟩, ⟨1, some [AV.i64 r17, AV.i64 r18, AV.oref 7 1 0 r21.length]⟩, ⟨1, some (r47.map AV.f32)⟩, ⟨1, some [AV.i64 r41, AV.i64 r42, AV.oref 5 2 0 r46.length]⟩, ⟨1, some [AV.i64 r43, AV.i64 r44, AV.oref 10 1 0 r47.length]⟩]) rfl rfl rfl (TOp.loadAgg_o rfl agg27 siz27 rfl rfl rfl rfl) rfl ?_
                              refine ROps.d (r := AV.b true) (fs := []) (Γ' := [⟨3, none⟩, ⟨1, some (r10.map AV.f32)⟩, ⟨1, some (r11.map AV.f32)⟩, ⟨1, some [AV.i64 r5, AV.i64 r6, AV.oref 1 1 0 r10.length]⟩, ⟨1, some [AV.i64 r7, AV.i64 r8, AV.oref 2 1 0 r11.length]⟩, ⟨2, some (r46.map AV.f32)⟩, ⟨1, some (r33.map AV.f32)⟩, ⟨1, some (r35.map AV.f32)⟩, ⟨1, some [AV.i64 r15, AV.i64 r16, AV.oref 6 1 0 r20.length]⟩, ⟨1, some [AV.i64 r17, AV.i64 r18, AV.oref 7 1 0 r21.length]⟩, ⟨1, some (r47.map AV.f32)⟩, ⟨1, some [AV.i64 r41, AV.i64 r42, AV.oref 5 2 0 r46.length]⟩, ⟨1, some [AV.i64 r43, AV.i64 r44, AV.oref 10 1 0 r47.length]⟩]) rfl rfl rfl (TOp.eqb (TOp.callB (CallAs.func ent13 rfl rfl) (Bors.cons (Bor.agg (Bors.cons (Bor.pure rfl) (Bors.cons (Bor.pure rfl) (Bors.cons (Bor.own (f := AV.f32) (fun _ => rfl) rfl rfl) Bors.nil)))) (Bors.cons (Bor.agg (Bors.cons (Bor.pure rfl) (Bors.cons (Bor.pure rfl) (Bors.cons (Bor.own (f := AV.f32) (fun _ => rfl) rfl rfl) Bors.nil)))) Bors.nil)) rfl rfl (w_eqMatrix_ok r43 r44 r47 r7 r8 r11 r49 hf35)) hc36) rfl ?_
                              refine ROps.l (r := AV.b false) rfl rfl rfl (LOp.eqb (LOp.not rfl rfl) rfl) ?_
                              refine ROps.l (r := AV.b false) rfl rfl rfl (LOp.pick_false rfl rfl rfl) ?_
                              refine ROps.l (r := AV.b false) rfl rfl rfl (LOp.move rfl rfl) ?_
                              refine ROps.l (r := AV.b r45) rfl rfl rfl (LOp.move rfl rfl) ?_
                              refine ROps.l (r := AV.b r9) rfl rfl rfl (LOp.move rfl rfl) ?_
                              refine ROps.l (r := AV.b true) rfl rfl rfl (LOp.eqb (LOp.neqb pun4 rfl rfl rfl) hc37) ?_
                              refine ROps.l (r := AV.b true) rfl rfl rfl (LOp.pick_false rfl rfl rfl) ?_
                              refine ROps.nil ?_
                              refine RunC.wl (τ' := [(10, AV.optr 8 1 0), (11, AV.optr 9 1 0), (14, AV.i64 r34), (124, AV.b true)]) (Γ' := [⟨3, none⟩, ⟨1, none⟩, ⟨1, none⟩, ⟨1, none⟩, ⟨1, none⟩, ⟨2, none⟩, ⟨1, some (r33.map AV.f32)⟩, ⟨1, some (r35.map AV.f32)⟩, ⟨1, some [AV.i64 r15, AV.i64 r16, AV.oref 6 1 0 r20.length]⟩, ⟨1, some [AV.i64 r17, AV.i64 r18, AV.oref 7 1 0 r21.length]⟩, ⟨1, none⟩, ⟨1, none⟩, ⟨1, none⟩]) ⟨(ALe.refl _), (ALe.refl _), (ALe.refl _), (ALe.refl _), trivial⟩ ⟨⟨rfl, .inl rfl⟩, ⟨rfl, .inl rfl⟩, ⟨rfl, .inl rfl⟩, ⟨rfl, .inl rfl⟩, ⟨rfl, .inl rfl⟩, ⟨rfl, .inl rfl⟩, ⟨rfl, .inr rfl⟩, ⟨rfl, .inr rfl⟩, ⟨rfl, .inr rfl⟩, ⟨rfl, .inr rfl⟩, ⟨rfl, .inl rfl⟩, ⟨rfl, .inl rfl⟩, ⟨rfl, .inl rfl⟩, trivial⟩ ?_
                              refine RunC.cond_true rfl rfl ?_
                              refine RunC.seq ?_
                              refine RunC.regionW ?_
                              refine ROps.l (r := AV.b false) rfl rfl rfl (LOp.assign rfl rfl) ?_
                              refine ROps.nil ?_
                              refine RunC.ret ?_
                              have hq := Option.some.inj h
                              subst q0
                              exact bodyQ.pure (.inr rfl) rfl (Res.one rfl (RV.tmp rfl))
                            · refine RunC.regionW ?_
                              refine ROps.d (r := AV.agg [AV.i64 r41, AV.i64 r42, AV.oref 5 2 0 r46.length]) (fs := []) (Γ' := [⟨3, none⟩, ⟨1, some (r10.map AV.f32)⟩, ⟨1, some (r11.map AV.f32)⟩, ⟨1, some [AV.i64 r5, AV.i64 r6, AV.oref 1 1 0 r10.length]⟩, ⟨1, some [AV.i64 r7, AV.i64 r8, AV.oref 2 1 0 r11.length]⟩, ⟨2, some (r46.map AV.f32)⟩, ⟨1, some (r33.map AV.f32)⟩, ⟨1, some (r35.map AV.f32)⟩, ⟨1, some [AV.i64 r15, AV.i64 r16, AV.oref 6 1 0 r20.length]⟩, ⟨1, some [AV.i64 r17, AV.i64 r18, AV.oref 7 1 0 r21.length]⟩, ⟨1, some (r47.map AV.f32)⟩, ⟨1, some [AV.i64 r41, AV.i64 r42, AV.oref 5 2 0 r46.length]⟩, ⟨1, some [AV.i64 r43, AV.i64 r44, AV.oref 10 1 0 r47.length]⟩]) rfl rfl rfl (TOp.loadAgg_o rfl agg27 siz27 rfl rfl rfl rfl) rfl ?_
                              refine ROps.d (r := AV.agg [AV.i64 r5, AV.i64 r6, AV.oref 1 1 0 r10.length]) (fs := []) (Γ' := [⟨3, none⟩, ⟨1, some (r10.map AV.f32)⟩, ⟨1, some (r11.map AV.f32)⟩, ⟨1, some [AV.i64 r5, AV.i64 r6, AV.oref 1 1 0 r10.length]⟩, ⟨1, some [AV.i64 r7, AV.i64 r8, AV.oref 2 1 0 r11.length]⟩, ⟨2, some (r46.map AV.f32)⟩, ⟨1, some (r33.map AV.f32)⟩, ⟨1, some (r35.map AV.f32)⟩, ⟨1, some [AV.i64 r15, AV.i64 r16, AV.oref 6 1 0 r20.length]⟩, ⟨1, some [AV.i64 r17, AV.i64 r18, AV.oref 7 1 0 r21.length]⟩, ⟨1, some (r47.map AV.f32)⟩, ⟨1, some [AV.i64 r41, AV.i64 r42, AV.oref 5 2 0 r46.length]⟩, ⟨1, some [AV.i64 r43, AV.i64 r44, AV.oref 10 1 0 r47.length]⟩]) rfl rfl rfl (TOp.loadAgg_o rfl agg27 siz27 rfl rfl rfl rfl) rfl ?_
                              refine ROps.d (r := AV.b true) (fs := []) (Γ' := [⟨3, none⟩, ⟨1, some (r10.map AV.f32)⟩, ⟨1, some (r11.map AV.f32)⟩, ⟨1, some [AV.i64 r5, AV.i64 r6, AV.oref 1 1 0 r10.length]⟩, ⟨1, some [AV.i64 r7, AV.i64 r8, AV.oref 2 1 0 r11.length]⟩, ⟨2, some (r46.map AV.f32)⟩, ⟨1, some (r33.map AV.f32)⟩, ⟨1, some (r35.map AV.f32)⟩, ⟨1, some [AV.i64 r15, AV.i64 r16, AV.oref 6 1 0 r20.length]⟩, ⟨1, some [AV.i64 r17, AV.i64 r18, AV.oref 7 1 0 r21.length]⟩, ⟨1, some (r47.map AV.f32)⟩, ⟨1, some [AV.i64 r41, AV.i64 r42, AV.oref 5 2 0 r46.length]⟩, ⟨1, some [AV.i64 r43, AV.i64 r44, AV.oref 10 1 0 r47.length]⟩]) rfl rfl rfl (TOp.eqb (TOp.callB (CallAs.func ent13 rfl rfl) (Bors.cons (Bor.agg (Bors.cons (Bor.pure rfl) (Bors.cons (Bor.pure rfl) (Bors.cons (Bor.own (f := AV.f32) (fun _ => rfl) rfl rfl) Bors.nil)))) (Bors.cons (Bor.agg (Bors.cons (Bor.pure rfl) (Bors.cons (Bor.pure rfl) (Bors.cons (Bor.own (f := AV.f32) (fun _ => rfl) rfl rfl) Bors.nil)))) Bors.nil)) rfl rfl (w_eqMatrix_ok r41 r42 r46 r5 r6 r10 r48 hf33)) hc34) rfl ?_
                              refine ROps.l (r := AV.b false) rfl rfl rfl (LOp.eqb (LOp.not rfl rfl) rfl) ?_
                              refine ROps.l (r := AV.b false) rfl rfl rfl (LOp.move rfl rfl) ?_
                              refine ROps.d (r := AV.agg [AV.i64 r43, AV.i64 r44, AV.oref 10 1 0 r47.length]) (fs := []) (Γ' := [⟨3, none⟩, ⟨1, some (r10.map AV.f32)⟩, ⟨1, some (r11.map AV.f32)⟩, ⟨1, some [AV.i64 r5, AV.i64 r6, AV.oref 1 1 0 r10.length]⟩, ⟨1, some [AV.i64 r7, AV.i64 r8, AV.oref 2 1 0 r11.length]⟩, ⟨2, some (r46.map AV.f32)⟩, ⟨1, some (r33.map AV.f32)⟩, ⟨1, some (r35.map AV.f32)⟩, ⟨1, some [AV.i64 r15, AV.i64 r16, AV.oref 6 1 0 r20.length]⟩, ⟨1, some [AV.i64 r17, AV.i64 r18, AV.oref 7 1 0 r21.length]⟩, ⟨1, some (r47.map AV.f32)⟩, ⟨1, some [AV.i64 r41, AV.i64 r42, AV.oref 5 2 0 r46.length]⟩, ⟨1, some [AV.i64 r43, AV.i64 r44, AV.oref 10 1 0 r47.length]⟩]) rfl rfl rfl (TOp.loadAgg_o rfl agg27 siz27 rfl rfl rfl rfl) rfl ?_
                              refine ROps.d (r := AV.agg [AV.i64 r7, AV.i64 r8, AV.oref 2 1 0 r11.length]) (fs := []) (Γ' := [⟨3, none⟩, ⟨1, some (r10.map AV.f32)⟩, ⟨1, some (r11.map AV.f32)⟩, ⟨1, some [AV.i64 r5, AV.i64 r6, AV.oref 1 1 0 r10.length]⟩, ⟨1, some [AV.i64 r7, AV.i64 r8, AV.oref 2 1 0 r11.length]⟩, ⟨2, some (r46.map AV.f32)⟩, ⟨1, some (r33.map AV.f32)⟩, ⟨1, some (r35.map AV.f32)⟩, ⟨1, some [AV.i64 r15, AV.i64 r16, AV.oref 6 1 0 r20.length]⟩, ⟨1, some [AV.i64 r17, AV.i64 r18, AV.oref 7 1 0 r21.length]⟩, ⟨1, some (r47.map AV.f32)⟩, ⟨1, some [AV.i64 r41, AV.i64 r42, AV.oref 5 2 0 r46.length]⟩, ⟨1, some [AV.i64 r43, AV.i64 r44, AV.oref 10 1 0 r47.length]⟩]) rfl rfl rfl (TOp.loadAgg_o rfl agg27 siz27 rfl rfl rfl rfl) rfl ?_
                              refine ROps.d (r := AV.b true) (fs := []) (Γ' := [⟨3, none⟩, ⟨1, some (r10.map AV.f32)⟩, ⟨1, some (r11.map AV.f32)⟩, ⟨1, some [AV.i64 r5, AV.i64 r6, AV.oref 1 1 0 r10.length]⟩, ⟨1, some [AV.i64 r7, AV.i64 r8, AV.oref 2 1 0 r11.length]⟩, ⟨2, some (r46.map AV.f32)⟩, ⟨1, some (r33.map AV.f32)⟩, ⟨1, some (r35.map AV.f32)⟩, ⟨1, some [AV.i64 r15, AV.i64 r16, AV.oref 6 1 0 r20.length]⟩, ⟨1, some [AV.i64 r17, AV.i64 r18, AV.oref 7 1 0 r21.length]⟩, ⟨1, some (r47.map AV.f32)⟩, ⟨1, some [AV.i64 r41, AV.i64 r42, AV.oref 5 2 0 r46.length]⟩, ⟨1, some [AV.i64 r43, AV.i64 r44, AV.oref 10 1 0 r47.length]⟩]) rfl rfl rfl (TOp.eqb (TOp.callB (CallAs.func ent13 rfl rfl) (Bors.cons (Bor.agg (Bors.cons (Bor.pure rfl) (Bors.cons (Bor.pure rfl) (Bors.cons (Bor.own (f := AV.f32) (fun _ => rfl) rfl rfl) Bors.nil)))) (Bors.cons (Bor.agg (Bors.cons (Bor.pure rfl) (Bors.cons (Bor.pure rfl) (Bors.cons (Bor.own (f := AV.f32) (fun _ => rfl) rfl rfl) Bors.nil)))) Bors.nil)) rfl rfl (w_eqMatrix_ok r43 r44 r47 r7 r8 r11 r49 hf35)) hc36) rfl ?_
                              refine ROps.l (r := AV.b false) rfl rfl rfl (LOp.eqb (LOp.not rfl rfl) rfl) ?_
                              refine ROps.l (r := AV.b false) rfl rfl rfl (LOp.pick_false rfl rfl rfl) ?_
                              refine ROps.l (r := AV.b false) rfl rfl rfl (LOp.move rfl rfl) ?_
                              refine ROps.l (r := AV.b r45) rfl rfl rfl (LOp.move rfl rfl) ?_
                              refine ROps.l (r := AV.b r9) rfl rfl rfl (LOp.move rfl rfl) ?_
                              refine ROps.l (r := AV.b false) rfl rfl rfl (LOp.eqb (LOp.neqb pun4 rfl rfl rfl) hc37) ?_
                              refine ROps.l (r := AV.b false) rfl rfl rfl (LOp.pick_false rfl rfl rfl) ?_
                              refine ROps.nil ?_
                              refine RunC.wl (τ' := [(10, AV.optr 8 1 0), (11, AV.optr 9 1 0), (14, AV.i64 r34), (124, AV.b false)]) (Γ' := [⟨3, none⟩, ⟨1, none⟩, ⟨1, none⟩, ⟨1, none⟩, ⟨1, none⟩, ⟨2, none⟩, ⟨1, some (r33.map AV.f32)⟩, ⟨1, some (r35.map AV.f32)⟩, ⟨1, some [AV.i64 r15, AV.i64 r16, AV.oref 6 1 0 r20.length]⟩, ⟨1, some [AV.i64 r17, AV.i64 r18, AV.oref 7 1 0 r21.length]⟩, ⟨1, none⟩, ⟨1, none⟩, ⟨1, none⟩]) ⟨(ALe.refl _), (ALe.refl _), (ALe.refl _), (ALe.refl _), trivial⟩ ⟨⟨rfl, .inl rfl⟩, ⟨rfl, .inl rfl⟩, ⟨rfl, .inl rfl⟩, ⟨rfl, .inl rfl⟩, ⟨rfl, .inl rfl⟩, ⟨rfl, .inl rfl⟩, ⟨rfl, .inr rfl⟩, ⟨rfl, .inr rfl⟩, ⟨rfl, .inr rfl⟩, ⟨rfl, .inr rfl⟩, ⟨rfl, .inl rfl⟩, ⟨rfl, .inl rfl⟩, ⟨rfl, .inl rfl⟩, trivial⟩ ?_
                              refine RunC.cond_false rfl rfl ?_
                              refine RunC.skip ?_
                              refine RunC.seq ?_
                              refine RunC.regionW ?_
                              refine ROps.l (r := AV.i64 1) rfl rfl rfl (LOp.assign rfl rfl) ?_
                              refine ROps.nil ?_
                              refine RunC.seq ?_
                              obtain ⟨r50, hf38, h⟩ := obind_some h
                              refine RunC.regionW ?_
                              refine ROps.d (r := AV.agg [AV.i64 r15, AV.i64 r16, AV.oref 6 1 0 r20.length]) (fs := []) (Γ' := [⟨3, none⟩, ⟨1, none⟩, ⟨1, none⟩, ⟨1, none⟩, ⟨1, none⟩, ⟨2, none⟩, ⟨1, some (r33.map AV.f32)⟩, ⟨1, some (r35.map AV.f32)⟩, ⟨1, some [AV.i64 r15, AV.i64 r16, AV.oref 6 1 0 r20.length]⟩, ⟨1, some [AV.i64 r17, AV.i64 r18, AV.oref 7 1 0 r21.length]⟩, ⟨1, none⟩, ⟨1, none⟩, ⟨1, none⟩]) rfl rfl rfl (TOp.loadAgg_o rfl agg27 siz27 rfl rfl rfl rfl) rfl ?_
                              refine ROps.l (r := AV.i64 1) rfl rfl rfl (LOp.move rfl rfl) ?_
                              refine ROps.d (r := AV.i64 r50) (fs := []) (Γ' := [⟨3, none⟩, ⟨1, none⟩, ⟨1, none⟩, ⟨1, none⟩, ⟨1, none⟩, ⟨2, none⟩, ⟨1, some (r33.map AV.f32)⟩, ⟨1, some (r35.map AV.f32)⟩, ⟨1, some [AV.i64 r15, AV.i64 r16, AV.oref 6 1 0 r20.length]⟩, ⟨1, some [AV.i64 r17, AV.i64 r18, AV.oref 7 1 0 r21.length]⟩, ⟨1, none⟩, ⟨1, none⟩, ⟨1, none⟩]) rfl rfl rfl (TOp.callB (CallAs.func ent17 rfl rfl) (Bors.cons (Bor.agg (Bors.cons (Bor.pure rfl) (Bors.cons (Bor.pure rfl) (Bors.cons (Bor.own (f := AV.f32) (fun _ => rfl) rfl (of_decide_eq_true hn23)) Bors.nil)))) (Bors.cons (Bor.pure rfl) Bors.nil)) rfl rfl (w_heldMatrix_ok r15 r16 r33 1 r50 hf38)) rfl ?_
                              refine ROps.l (r := AV.i64 r50) rfl rfl rfl (LOp.assign rfl rfl) ?_
                              refine ROps.nil ?_
                              refine RunC.wl (τ' := [(11, AV.optr 9 1 0), (14, AV.i64 r34), (15, AV.i64 r50)]) (Γ' := [⟨3, none⟩, ⟨1, none⟩, ⟨1, none⟩, ⟨1, none⟩, ⟨1, none⟩, ⟨2, none⟩, ⟨1, none⟩, ⟨1, some (r35.map AV.f32)⟩, ⟨1, none⟩, ⟨1, some [AV.i64 r17, AV.i64 r18, AV.oref 7 1 0 r21.length]⟩, ⟨1, none⟩, ⟨1, none⟩, ⟨1, none⟩]) ⟨(ALe.refl _), (ALe.refl _), (ALe.refl _), trivial⟩ ⟨⟨rfl, .inl rfl⟩, ⟨rfl, .inl rfl⟩, ⟨rfl, .inl rfl⟩, ⟨rfl, .inl rfl⟩, ⟨rfl, .inl rfl⟩, ⟨rfl, .inl rfl⟩, ⟨rfl, .inl rfl⟩, ⟨rfl, .inr rfl⟩, ⟨rfl, .inl rfl⟩, ⟨rfl, .inr rfl⟩, ⟨rfl, .inl rfl⟩, ⟨rfl, .inl rfl⟩, ⟨rfl, .inl rfl⟩, trivial⟩ ?_
                              refine RunC.seq ?_
                              refine RunC.seq ?_
                              rcases bsel_some h with ⟨hc39, h⟩ | ⟨hc39, h⟩
                              · refine RunC.regionW ?_
                                refine ROps.l (r := AV.i64 r50) rfl rfl rfl (LOp.move rfl rfl) ?_
                                refine ROps.l (r := AV.b true) rfl rfl rfl (LOp.eqb (LOp.lss rfl rfl rfl) hc39) ?_
                                refine ROps.nil ?_
                                refine RunC.cond_true rfl rfl ?_
                                refine RunC.seq ?_
                                refine RunC.regionW ?_
                                refine ROps.l (r := AV.b false) rfl rfl rfl (LOp.assign rfl rfl) ?_
                                refine ROps.nil ?_
                                refine RunC.ret ?_
                                have hq := Option.some.inj h
                                subst q0
                                exact bodyQ.pure (.inr rfl) rfl (Res.one rfl (RV.tmp rfl))
                              · refine RunC.regionW ?_
                                refine ROps.l (r := AV.i64 r50) rfl rfl rfl (LOp.move rfl rfl) ?_
                                refine ROps.l (r := AV.b false) rfl rfl rfl (LOp.eqb (LOp.lss rfl rfl rfl) hc39) ?_
                                refine ROps.nil ?_
                                refine RunC.cond_false rfl rfl ?_
                                refine RunC.skip ?_
                                refine RunC.seq ?_
                                obtain ⟨r51, hf40, h⟩ := obind_some h
                                refine RunC.regionW ?_
                                refine ROps.d (r := AV.agg [AV.i64 r17, AV.i64 r18, AV.oref 7 1 0 r21.length]) (fs := []) (Γ' := [⟨3, none⟩, ⟨1, none⟩, ⟨1, none⟩, ⟨1, none⟩, ⟨1, none⟩, ⟨2, none⟩, ⟨1, none⟩, ⟨1, some (r35.map AV.f32)⟩, ⟨1, none⟩, ⟨1, some [AV.i64 r17, AV.i64 r18, AV.oref 7 1 0 r21.length]⟩, ⟨1, none⟩, ⟨1, none⟩, ⟨1, none⟩]) rfl rfl rfl (TOp.loadAgg_o rfl agg27 siz27 rfl rfl rfl rfl) rfl ?_
                                refine ROps.l (r := AV.i64 r50) rfl rfl rfl (LOp.move rfl rfl) ?_
                                refine ROps.d (r := AV.i64 r51) (fs := []) (Γ' := [⟨3, none⟩, ⟨1, none⟩, ⟨1, none⟩, ⟨1, none⟩, ⟨1, none⟩, ⟨2, none⟩, ⟨1, none⟩, ⟨1, some (r35.map AV.f32)⟩, ⟨1, none⟩, ⟨1, some [AV.i64 r17, AV.i64 r18, AV.oref 7 1 0 r21.length]⟩, ⟨1, none⟩, ⟨1, none⟩, ⟨1, none⟩]) rfl rfl rfl (TOp.callB (CallAs.func ent17 rfl rfl) (Bors.cons (Bor.agg (Bors.cons (Bor.pure rfl) (Bors.cons (Bor.pure rfl) (Bors.cons (Bor.own (f := AV.f32) (fun _ => rfl) rfl (of_decide_eq_true hn25)) Bors.nil)))) (Bors.cons (Bor.pure rfl) Bors.nil)) rfl rfl (w_heldMatrix_ok r17 r18 r35 r50 r51 hf40)) rfl ?_
                                refine ROps.l (r := AV.i64 r51) rfl rfl rfl (LOp.assign rfl rfl) ?_
                                refine ROps.nil ?_
                                refine RunC.wl (τ' := [(14, AV.i64 r34), (15, AV.i64 r51)]) (Γ' := [⟨3, none⟩, ⟨1, none⟩, ⟨1, none⟩, ⟨1, none⟩, ⟨1, none⟩, ⟨2, none⟩, ⟨1, none⟩, ⟨1, none⟩, ⟨1, none⟩, ⟨1, none⟩, ⟨1, none⟩, ⟨1, none⟩, ⟨1, none⟩]) ⟨(ALe.refl _), (ALe.refl _), trivial⟩ ⟨⟨rfl, .inl rfl⟩, ⟨rfl, .inl rfl⟩, ⟨rfl, .inl rfl⟩, ⟨rfl, .inl rfl⟩, ⟨rfl, .inl rfl⟩, ⟨rfl, .inl rfl⟩, ⟨rfl, .inl rfl⟩, ⟨rfl, .inl rfl⟩, ⟨rfl, .inl rfl⟩, ⟨rfl, .inl rfl⟩, ⟨rfl, .inl rfl⟩, ⟨rfl, .inl rfl⟩, ⟨rfl, .inl rfl⟩, trivial⟩ ?_
                                refine RunC.seq ?_
                                refine RunC.seq ?_
                                rcases bsel_some h with ⟨hc41, h⟩ | ⟨hc41, h⟩
                                · refine RunC.regionW ?_
                                  refine ROps.l (r := AV.i64 r51) rfl rfl rfl (LOp.move rfl rfl) ?_
                                  refine ROps.l (r := AV.b true) rfl rfl rfl (LOp.eqb (LOp.lss rfl rfl rfl) hc41) ?_
                                  refine ROps.nil ?_
                                  refine RunC.cond_true rfl rfl ?_
                                  refine RunC.seq ?_
                                  refine RunC.regionW ?_
                                  refine ROps.l (r := AV.b false) rfl rfl rfl (LOp.assign rfl rfl) ?_
                                  refine ROps.nil ?_
                                  refine RunC.ret ?_
                                  have hq := Option.some.inj h
                                  subst q0
                                  exact bodyQ.pure (.inr rfl) rfl (Res.one rfl (RV.tmp rfl))
                                · refine RunC.regionW ?_
                                  refine ROps.l (r := AV.i64 r51) rfl rfl rfl (LOp.move rfl rfl) ?_
                                  refine ROps.l (r := AV.b false) rfl rfl rfl (LOp.eqb (LOp.lss rfl rfl rfl) hc41) ?_
                                  refine ROps.nil ?_
                                  refine RunC.cond_false rfl rfl ?_
                                  refine RunC.skip ?_
                                  refine RunC.seq ?_
                                  refine RunC.seq ?_
                                  rcases bsel_some h with ⟨hc42, h⟩ | ⟨hc42, h⟩
                                  · refine RunC.regionW ?_
                                    refine ROps.l (r := AV.i64 r51) rfl rfl rfl (LOp.move rfl rfl) ?_
                                    refine ROps.l (r := AV.i64 r34) rfl rfl rfl (LOp.move rfl rfl) ?_
                                    refine ROps.l (r := AV.b true) rfl rfl rfl (LOp.eqb (LOp.neq rfl rfl rfl) hc42) ?_
                                    refine ROps.nil ?_
                                    refine RunC.cond_true rfl rfl ?_
                                    refine RunC.seq ?_
                                    refine RunC.regionW ?_
                                    refine ROps.l (r := AV.b false) rfl rfl rfl (LOp.assign rfl rfl) ?_
                                    refine ROps.nil ?_
                                    refine RunC.ret ?_
                                    have hq := Option.some.inj h
                                    subst q0
                                    exact bodyQ.pure (.inr rfl) rfl (Res.one rfl (RV.tmp rfl))
                                  · refine RunC.regionW ?_
                                    refine ROps.l (r := AV.i64 r51) rfl rfl rfl (LOp.move rfl rfl) ?_
                                    refine ROps.l (r := AV.i64 r34) rfl rfl rfl (LOp.move rfl rfl) ?_
                                    refine ROps.l (r := AV.b false) rfl rfl rfl (LOp.eqb (LOp.neq rfl rfl rfl) hc42) ?_
                                    refine ROps.nil ?_
                                    refine RunC.cond_false rfl rfl ?_
                                    refine RunC.skip ?_
                                    refine RunC.seq ?_
                                    refine RunC.regionW ?_
                                    refine ROps.l (r := AV.b true) rfl rfl rfl (LOp.assign rfl rfl) ?_
                                    refine ROps.nil ?_
                                    refine RunC.ret ?_
                                    have hq := Option.some.inj h
                                    subst q0
                                    exact bodyQ.pure (.inr rfl) rfl (Res.one rfl (RV.tmp rfl))
                          · refine RunC.regionW ?_
                            refine ROps.d (r := AV.agg [AV.i64 r41, AV.i64 r42, AV.oref 5 2 0 r46.length]) (fs := []) (Γ' := [⟨3, none⟩, ⟨1, some (r10.map AV.f32)⟩, ⟨1, some (r11.map AV.f32)⟩, ⟨1, some [AV.i64 r5, AV.i64 r6, AV.oref 1 1 0 r10.length]⟩, ⟨1, some [AV.i64 r7, AV.i64 r8, AV.oref 2 1 0 r11.length]⟩, ⟨2, some (r46.map AV.f32)⟩, ⟨1, some (r33.map AV.f32)⟩, ⟨1, some (r35.map AV.f32)⟩, ⟨1, some [AV.i64 r15, AV.i64 r16, AV.oref 6 1 0 r20.length]⟩, ⟨1, some [AV.i64 r17, AV.i64 r18, AV.oref 7 1 0 r21.length]⟩, ⟨1, some (r47.map AV.f32)⟩, ⟨1, some [AV.i64 r41, AV.i64 r42, AV.oref 5 2 0 r46.length]⟩, ⟨1, some [AV.i64 r43, AV.i64 r44, AV.oref 10 1 0 r47.length]⟩]) rfl rfl rfl (TOp.loadAgg_o rfl agg27 siz27 rfl rfl rfl rfl) rfl ?_
                            refine ROps.d (r := AV.agg [AV.i64 r5, AV.i64 r6, AV.oref 1 1 0 r10.length]) (fs := []) (Γ' := [⟨3, none⟩, ⟨1, some (r10.map AV.f32)⟩, ⟨1, some (r11.map AV.f32)⟩, ⟨1, some [AV.i64 r5, AV.i64 r6, AV.oref 1 1 0 r10.length]⟩, ⟨1, some [AV.i64 r7, AV.i64 r8, AV.oref 2 1 0 r11.length]⟩, ⟨2, some (r46.map AV.f32)⟩, ⟨1, some (r33.map AV.f32)⟩, ⟨1, some (r35.map AV.f32)⟩, ⟨1, some [AV.i64 r15, AV.i64 r16, AV.oref 6 1 0 r20.length]⟩, ⟨1, some [AV.i64 r17, AV.i64 r18, AV.oref 7 1 0 r21.length]⟩, ⟨1, some (r47.map AV.f32)⟩, ⟨1, some [AV.i64 r41, AV.i64 r42, AV.oref 5 2 0 r46.length]⟩, ⟨1, some [AV.i64 r43, AV.i64 r44, AV.oref 10 1 0 r47.length]⟩]) rfl rfl rfl (TOp.loadAgg_o rfl agg27 siz27 rfl rfl rfl rfl) rfl ?_
                            refine ROps.d (r := AV.b true) (fs := []) (Γ' := [⟨3, none⟩, ⟨1, some (r10.map AV.f32)⟩, ⟨1, some (r11.map AV.f32)⟩, ⟨1, some [AV.i64 r5, AV.i64 r6, AV.oref 1 1 0 r10.length]⟩, ⟨1, some [AV.i64 r7, AV.i64 r8, AV.oref 2 1 0 r11.length]⟩, ⟨2, some (r46.map AV.f32)⟩, ⟨1, some (r33.map AV.f32)⟩, ⟨1, some (r35.map AV.f32)⟩, ⟨1, some [AV.i64 r15, AV.i64 r16, AV.oref 6 1 0 r20.length]⟩, ⟨1, some [AV.i64 r17, AV.i64 r18, AV.oref 7 1 0 r21.length]⟩, ⟨1, some (r47.map AV.f32)⟩, ⟨1, some [AV.i64 r41, AV.i64 r42, AV.oref 5 2 0 r46.length]⟩, ⟨1, some [AV.i64 r43, AV.i64 r44, AV.oref 10 1 0 r47.length]⟩]) rfl rfl rfl (TOp.eqb (TOp.callB (CallAs.func ent13 rfl rfl) (Bors.cons (Bor.agg (Bors.cons (Bor.pure rfl) (Bors.cons (Bor.pure rfl) (Bors.cons (Bor.own (f := AV.f32) (fun _ => rfl) rfl rfl) Bors.nil)))) (Bors.cons (Bor.agg (Bors.cons (Bor.pure rfl) (Bors.cons (Bor.pure rfl) (Bors.cons (Bor.own (f := AV.f32) (fun _ => rfl) rfl rfl) Bors.nil)))) Bors.nil)) rfl rfl (w_eqMatrix_ok r41 r42 r46 r5 r6 r10 r48 hf33)) hc34) rfl ?_
                            refine ROps.l (r := AV.b false) rfl rfl rfl (LOp.eqb (LOp.not rfl rfl) rfl) ?_
                            refine ROps.l (r := AV.b false) rfl rfl rfl (LOp.move rfl rfl) ?_
                            refine ROps.d (r := AV.agg [AV.i64 r43, AV.i64 r44, AV.oref 10 1 0 r47.length]) (fs := []) (Γ' := [⟨3, none⟩, ⟨1, some (r10.map AV.f32)⟩, ⟨1, some (r11.map AV.f32)⟩, ⟨1, some [AV.i64 r5, AV.i64 r6, AV.oref 1 1 0 r10.length]⟩, ⟨1, some [AV.i64 r7, AV.i64 r8, AV.oref 2 1 0 r11.length]⟩, ⟨2, some (r46.map AV.f32)⟩, ⟨1, some (r33.map AV.f32)⟩, ⟨1, some (r35.map AV.f32)⟩, ⟨1, some [AV.i64 r15, AV.i64 r16, AV.oref 6 1 0 r20.length]⟩, ⟨1, some [AV.i64 r17, AV.i64 r18, AV.oref 7 1 0 r21.length]⟩, ⟨1, some (r47.map AV.f32)⟩, ⟨1, some [AV.i64 r41, AV.i64 r42, AV.oref 5 2 0 r46.length]⟩, ⟨1, some [AV.i64 r43, AV.i64 r44, AV.oref 10 1 0 r47.length]⟩]) rfl rfl rfl (TOp.loadAgg_o rfl agg27 siz27 rfl rfl rfl rfl) rfl ?_
                            refine ROps.d (r := AV.agg [AV.i64 r7, AV.i64 r8, AV.oref 2 1 0 r11.length]) (fs := []) (Γ' := [⟨3, none⟩, ⟨1, some (r10.map AV.f32)⟩, ⟨1, some (r11.map AV.f32)⟩, ⟨1, some [AV.i64 r5, AV.i64 r6, AV.oref 1 1 0 r10.length]⟩, ⟨1, some [AV.i64 r7, AV.i64 r8, AV.oref 2 1 0 r11.length]⟩, ⟨2, some (r46.map AV.f32)⟩, ⟨1, some (r33.map AV.f32)⟩, ⟨1, some (r35.map AV.f32)⟩, ⟨1, some [AV.i64 r15, AV.i64 r16, AV.oref 6 1 0 r20.length]⟩, ⟨1, some [AV.i64 r17, AV.i64 r18, AV.oref 7 1 0 r21.length]⟩, ⟨1, some (r47.map AV.f32)⟩, ⟨1, some [AV.i64 r41, AV.i64 r42, AV.oref 5 2 0 r46.length]⟩, ⟨1, some [AV.i64 r43, AV.i64 r44, AV.oref 10 1 0 r47.length]⟩]) rfl rfl rfl (TOp.loadAgg_o rfl agg27 siz27 rfl rfl rfl rfl) rfl ?_
                            refine ROps.d (r := AV.b false) (fs := []) (Γ' := [⟨3, none⟩, ⟨1, some (r10.map AV.f32)⟩, ⟨1, some (r11.map AV.f32)⟩, ⟨1, some [AV.i64 r5, AV.i64 r6, AV.oref 1 1 0 r10.length]⟩, ⟨1, some [AV.i64 r7, AV.i64 r8, AV.oref 2 1 0 r11.length]⟩, ⟨2, some (r46.map AV.f32)⟩, ⟨1, some (r33.map AV.f32)⟩, ⟨1, some (r35.map AV.f32)⟩, ⟨1, some [AV.i64 r15, AV.i64 r16, AV.oref 6 1 0 r20.length]⟩, ⟨1, some [AV.i64 r17, AV.i64 r18, AV.oref 7 1 0 r21.length]⟩, ⟨1, some (r47.map AV.f32)⟩, ⟨1, some [AV.i64 r41, AV.i64 r42, AV.oref 5 2 0 r46.length]⟩, ⟨1, some [AV.i64 r43, AV.i64 r44, AV.oref 10 1 0 r47.length]⟩]) rfl rfl rfl (TOp.eqb (TOp.callB (CallAs.func ent13 rfl rfl) (Bors.cons (Bor.agg (Bors.cons (Bor.pure rfl) (Bors.cons (Bor.pure rfl) (Bors.cons (Bor.own (f := AV.f32) (fun _ => rfl) rfl rfl) Bors.nil)))) (Bors.cons (Bor.agg (Bors.cons (Bor.pure rfl) (Bors.cons (Bor.pure rfl) (Bors.cons (Bor.own (f := AV.f32) (fun _ => rfl) rfl rfl) Bors.nil)))) Bors.nil)) rfl rfl (w_eqMatrix_ok r43 r44 r47 r7 r8 r11 r49 hf35)) hc36) rfl ?_
                            refine ROps.l (r := AV.b true) rfl rfl rfl (LOp.eqb (LOp.not rfl rfl) rfl) ?_
                            refine ROps.l (r := AV.b true) rfl rfl rfl (LOp.pick_false rfl rfl rfl) ?_
                            refine ROps.l (r := AV.b true) rfl rfl rfl (LOp.move rfl rfl) ?_
                            refine ROps.s rfl rfl rfl ?_
                            refine ROps.s rfl rfl rfl ?_
                            refine ROps.s rfl rfl rfl ?_
                            refine ROps.l (r := AV.b true) rfl rfl rfl (LOp.pick_true rfl rfl rfl) ?_
                            refine ROps.nil ?_
                            refine RunC.wl (τ' := [(10, AV.optr 8 1 0), (11, AV.optr 9 1 0), (14, AV.i64 r34), (124, AV.b true)]) (Γ' := [⟨3, none⟩, ⟨1, none⟩, ⟨1, none⟩, ⟨1, none⟩, ⟨1, none⟩, ⟨2, none⟩, ⟨1, some (r33.map AV.f32)⟩, ⟨1, some (r35.map AV.f32)⟩, ⟨1, some [AV.i64 r15, AV.i64 r16, AV.oref 6 1 0 r20.length]⟩, ⟨1, some [AV.i64 r17, AV.i64 r18, AV.oref 7 1 0 r21.length]⟩, ⟨1, none⟩, ⟨1, none⟩, ⟨1, none⟩]) ⟨(ALe.refl _), (ALe.refl _), (ALe.refl _), (ALe.refl _), trivial⟩ ⟨⟨rfl, .inl rfl⟩, ⟨rfl, .inl rfl⟩, ⟨rfl, .inl rfl⟩, ⟨rfl, .inl rfl⟩, ⟨rfl, .inl rfl⟩, ⟨rfl, .inl rfl⟩, ⟨rfl, .inr rfl⟩, ⟨rfl, .inr rfl⟩, ⟨rfl, .inr rfl⟩, ⟨rfl, .inr rfl⟩, ⟨rfl, .inl rfl⟩, ⟨rfl, .inl rfl⟩, ⟨rfl, .inl rfl⟩, trivial⟩ ?_
                            refine RunC.cond_true rfl rfl ?_
                            refine RunC.seq ?_
                            refine RunC.regionW ?_
                            refine ROps.l (r := AV.b false) rfl rfl rfl (LOp.assign rfl rfl) ?_
                            refine ROps.nil ?_
                            refine RunC.ret ?_
                            have hq := Option.some.inj h
                            subst q0
                            exact bodyQ.pure (.inr rfl) rfl (Res.one rfl (RV.tmp rfl))
                        · refine RunC.regionW ?_
                          refine ROps.d (r := AV.agg [AV.i64 r41, AV.i64 r42, AV.oref 5 2 0 r46.length]) (fs := []) (Γ' := [⟨3, none⟩, ⟨1, some (r10.map AV.f32)⟩, ⟨1, some (r11.map AV.f32)⟩, ⟨1, some [AV.i64 r5, AV.i64 r6, AV.oref 1 1 0 r10.length]⟩, ⟨1, some [AV.i64 r7, AV.i64 r8, AV.oref 2 1 0 r11.length]⟩, ⟨2, some (r46.map AV.f32)⟩, ⟨1, some (r33.map AV.f32)⟩, ⟨1, some (r35.map AV.f32)⟩, ⟨1, some [AV.i64 r15, AV.i64 r16, AV.oref 6 1 0 r20.length]⟩, ⟨1, some [AV.i64 r17, AV.i64 r18, AV.oref 7 1 0 r21.length]⟩, ⟨1, some (r47.map AV.f32)⟩, ⟨1, some [AV.i64 r41, AV.i64 r42, AV.oref 5 2 0 r46.length]⟩, ⟨1, some [AV.i64 r43, AV.i64 r44, AV.oref 10 1 0 r47.length]⟩]) rfl rfl rfl (TOp.loadAgg_o rfl agg27 siz27 rfl rfl rfl rfl) rfl ?_
                          refine ROps.d (r := AV.agg [AV.i64 r5, AV.i64 r6, AV.oref 1 1 0 r10.length]) (fs := []) (Γ' := [⟨3, none⟩, ⟨1, some (r10.map AV.f32)⟩, ⟨1, some (r11.map AV.f32)⟩, ⟨1, some [AV.i64 r5, AV.i64 r6, AV.oref 1 1 0 r10.length]⟩, ⟨1, some [AV.i64 r7, AV.i64 r8, AV.oref 2 1 0 r11.length]⟩, ⟨2, some (r46.map AV.f32)⟩, ⟨1, some (r33.map AV.f32)⟩, ⟨1, some (r35.map AV.f32)⟩, ⟨1, some [AV.i64 r15, AV.i64 r16, AV.oref 6 1 0 r20.length]⟩, ⟨1, some [AV.i64 r17, AV.i64 r18, AV.oref 7 1 0 r21.length]⟩, ⟨1, some (r47.map AV.f32)⟩, ⟨1, some [AV.i64 r41, AV.i64 r42, AV.oref 5 2 0 r46.length]⟩, ⟨1, some [AV.i64 r43, AV.i64 r44, AV.oref 10 1 0 r47.length]⟩]) rfl rfl rfl (TOp.loadAgg_o rfl agg27 siz27 rfl rfl rfl rfl) rfl ?_
                          refine ROps.d (r := AV.b false) (fs := []) (Γ' := [⟨3, none⟩, ⟨1, some (r10.map AV.f32)⟩, ⟨1, some (r11.map AV.f32)⟩, ⟨1, some [AV.i64 r5, AV.i64 r6, AV.oref 1 1 0 r10.length]⟩, ⟨1, some [AV.i64 r7, AV.i64 r8, AV.oref 2 1 0 r11.length]⟩, ⟨2, some (r46.map AV.f32)⟩, ⟨1, some (r33.map AV.f32)⟩, ⟨1, some (r35.map AV.f32)⟩, ⟨1, some [AV.i64 r15, AV.i64 r16, AV.oref 6 1 0 r20.length]⟩, ⟨1, some [AV.i64 r17, AV.i64 r18, AV.oref 7 1 0 r21.length]⟩, ⟨1, some (r47.map AV.f32)⟩, ⟨1, some [AV.i64 r41, AV.i64 r42, AV.oref 5 2 0 r46.length]⟩, ⟨1, some [AV.i64 r43, AV.i64 r44, AV.oref 10 1 0 r47.length]⟩]) rfl rfl rfl (TOp.eqb (TOp.callB (CallAs.func ent13 rfl rfl) (Bors.cons (Bor.agg (Bors.cons (Bor.pure rfl) (Bors.cons (Bor.pure rfl) (Bors.cons (Bor.own (f := AV.f32) (fun _ => rfl) rfl rfl) Bors.nil)))) (Bors.cons (Bor.agg (Bors.cons (Bor.pure rfl) (Bors.cons (Bor.pure rfl) (Bors.cons (Bor.own (f := AV.f32) (fun _ => rfl) rfl rfl) Bors.nil)))) Bors.nil)) rfl rfl (w_eqMatrix_ok r41 r42 r46 r5 r6 r10 r48 hf33)) hc34) rfl ?_
                          refine ROps.l (r := AV.b true) rfl rfl rfl (LOp.eqb (LOp.not rfl rfl) rfl) ?_
                          refine ROps.l (r := AV.b true) rfl rfl rfl (LOp.move rfl rfl) ?_
                          refine ROps.s rfl rfl rfl ?_
                          refine ROps.s rfl rfl rfl ?_
                          refine ROps.s rfl rfl rfl ?_
                          refine ROps.s rfl rfl rfl ?_
                          refine ROps.l (r := AV.b true) rfl rfl rfl (LOp.pick_true rfl rfl rfl) ?_
                          refine ROps.l (r := AV.b true) rfl rfl rfl (LOp.move rfl rfl) ?_
                          refine ROps.s rfl rfl rfl ?_
                          refine ROps.s rfl rfl rfl ?_
                          refine ROps.s rfl rfl rfl ?_
                          refine ROps.l (r := AV.b true) rfl rfl rfl (LOp.pick_true rfl rfl rfl) ?_
                          refine ROps.nil ?_
                          refine RunC.wl (τ' := [(10, AV.optr 8 1 0), (11, AV.optr 9 1 0), (14, AV.i64 r34), (124, AV.b true)]) (Γ' := [⟨3, none⟩, ⟨1, none⟩, ⟨1, none⟩, ⟨1, none⟩, ⟨1, none⟩, ⟨2, none⟩, ⟨1, some (r33.map AV.f32)⟩, ⟨1, some (r35.map AV.f32)⟩, ⟨1, some [AV.i64 r15, AV.i64 r16, AV.oref 6 1 0 r20.length]⟩, ⟨1, some [AV.i64 r17, AV.i64 r18, AV.oref 7 1 0 r21.length]⟩, ⟨1, none⟩, ⟨1, none⟩, ⟨1, none⟩]) ⟨(ALe.refl _), (ALe.refl _), (ALe.refl _), (ALe.refl _), trivial⟩ ⟨⟨rfl, .inl rfl⟩, ⟨rfl, .inl rfl⟩, ⟨rfl, .inl rfl⟩, ⟨rfl, .inl rfl⟩, ⟨rfl, .inl rfl⟩, ⟨rfl, .inl rfl⟩, ⟨rfl, .inr rfl⟩, ⟨rfl, .inr rfl⟩, ⟨rfl, .inr rfl⟩, ⟨rfl, .inr rfl⟩, ⟨rfl, .inl rfl⟩, ⟨rfl, .inl rfl⟩, ⟨rfl, .inl rfl⟩, trivial⟩ ?_
                          refine RunC.cond_true rfl rfl ?_
                          refine RunC.seq ?_
                          refine RunC.regionW ?_
                          refine ROps.l (r := AV.b false) rfl rfl rfl (LOp.assign rfl rfl) ?_
                          refine ROps.nil ?_
                          refine RunC.ret ?_
                          have hq := Option.some.inj h
                          subst q0
                          exact bodyQ.pure (.inr rfl) rfl (Res.one rfl (RV.tmp rfl))
                · refine RunC.regionW ?_
                  refine ROps.l (r := AV.i64 r28) rfl rfl rfl (LOp.move rfl rfl) ?_
                  refine ROps.l (r := AV.b false) rfl rfl rfl (LOp.eqb (LOp.lss rfl rfl rfl) hc17) ?_
                  refine ROps.l (r := AV.b false) rfl rfl rfl (LOp.move rfl rfl) ?_
                  refine ROps.d (r := AV.agg [AV.i64 r15, AV.i64 r16, AV.oref 6 1 0 r20.length]) (fs := []) (Γ' := [⟨2, none⟩, ⟨1, some (r10.map AV.f32)⟩, ⟨1, some (r11.map AV.f32)⟩, ⟨1, some [AV.i64 r5, AV.i64 r6, AV.oref 1 1 0 r10.length]⟩, ⟨1, some [AV.i64 r7, AV.i64 r8, AV.oref 2 1 0 r11.length]⟩, ⟨1, none⟩, ⟨1, some (r20.map AV.f32)⟩, ⟨1, some (r21.map AV.f32)⟩, ⟨1, some [AV.i64 r15, AV.i64 r16, AV.oref 6 1 0 r20.length]⟩, ⟨1, some [AV.i64 r17, AV.i64 r18, AV.oref 7 1 0 r21.length]⟩, ⟨0, none⟩, ⟨0, none⟩, ⟨0, none⟩]) rfl rfl rfl (TOp.loadAgg_o rfl agg27 siz27 rfl rfl rfl rfl) rfl ?_
                  refine ROps.d (r := AV.agg [AV.i64 r5, AV.i64 r6, AV.oref 1 1 0 r10.length]) (fs := []) (Γ' := [⟨2, none⟩, ⟨1, some (r10.map AV.f32)⟩, ⟨1, some (r11.map AV.f32)⟩, ⟨1, some [AV.i64 r5, AV.i64 r6, AV.oref 1 1 0 r10.length]⟩, ⟨1, some [AV.i64 r7, AV.i64 r8, AV.oref 2 1 0 r11.length]⟩, ⟨1, none⟩, ⟨1, some (r20.map AV.f32)⟩, ⟨1, some (r21.map AV.f32)⟩, ⟨1, some [AV.i64 r15, AV.i64 r16, AV.oref 6 1 0 r20.length]⟩, ⟨1, some [AV.i64 r17, AV.i64 r18, AV.oref 7 1 0 r21.length]⟩, ⟨0, none⟩, ⟨0, none⟩, ⟨0, none⟩]) rfl rfl rfl (TOp.loadAgg_o rfl agg27 siz27 rfl rfl rfl rfl) rfl ?_
                  refine ROps.d (r := AV.b true) (fs := []) (Γ' := [⟨2, none⟩, ⟨1, some (r10.map AV.f32)⟩, ⟨1, some (r11.map AV.f32)⟩, ⟨1, some [AV.i64 r5, AV.i64 r6, AV.oref 1 1 0 r10.length]⟩, ⟨1, some [AV.i64 r7, AV.i64 r8, AV.oref 2 1 0 r11.length]⟩, ⟨1, none⟩, ⟨1, some (r20.map AV.f32)⟩, ⟨1, some (r21.map AV.f32)⟩, ⟨1, some [AV.i64 r15, AV.i64 r16, AV.oref 6 1 0 r20.length]⟩, ⟨1, some [AV.i64 r17, AV.i64 r18, AV.oref 7 1 0 r21.length]⟩, ⟨0, none⟩, ⟨0, none⟩, ⟨0, none⟩]) rfl rfl rfl (TOp.eqb (TOp.callB (CallAs.func ent13 rfl rfl) (Bors.cons (Bor.agg (Bors.cons (Bor.pure rfl) (Bors.cons (Bor.pure rfl) (Bors.cons (Bor.own (f := AV.f32) (fun _ => rfl) rfl rfl) Bors.nil)))) (Bors.cons (Bor.agg (Bors.cons (Bor.pure rfl) (Bors.cons (Bor.pure rfl) (Bors.cons (Bor.own (f := AV.f32) (fun _ => rfl) rfl rfl) Bors.nil)))) Bors.nil)) rfl rfl (w_eqMatrix_ok r15 r16 r20 r5 r6 r10 r30 hf18)) hc19) rfl ?_
                  refine ROps.l (r := AV.b false) rfl rfl rfl (LOp.eqb (LOp.not rfl rfl) rfl) ?_
                  refine ROps.l (r := AV.b false) rfl rfl rfl (LOp.pick_false rfl rfl rfl) ?_
                  refine ROps.l (r := AV.b false) rfl rfl rfl (LOp.move rfl rfl) ?_
                  refine ROps.d (r := AV.agg [AV.i64 r17, AV.i64 r18, AV.oref 7 1 0 r21.length]) (fs := []) (Γ' := [⟨2, none⟩, ⟨1, some (r10.map AV.f32)⟩, ⟨1, some (r11.map AV.f32)⟩, ⟨1, some [AV.i64 r5, AV.i64 r6, AV.oref 1 1 0 r10.length]⟩, ⟨1, some [AV.i64 r7, AV.i64 r8, AV.oref 2 1 0 r11.length]⟩, ⟨1, none⟩, ⟨1, some (r20.map AV.f32)⟩, ⟨1, some (r21.map AV.f32)⟩, ⟨1, some [AV.i64 r15, AV.i64 r16, AV.oref 6 1 0 r20.length]⟩, ⟨1, some [AV.i64 r17, AV.i64 r18, AV.oref 7 1 0 r21.length]⟩, ⟨0, none⟩, ⟨0, none⟩, ⟨0, none⟩]) rfl rfl rfl (TOp.loadAgg_o rfl agg27 siz27 rfl rfl rfl rfl) rfl ?_
                  refine ROps.d (r := AV.agg [AV.i64 r7, AV.i64 r8, AV.oref 2 1 0 r11.length]) (fs := []) (Γ' := [⟨2, none⟩, ⟨1, some (r10.map AV.f32)⟩, ⟨1, some (r11.map AV.f32)⟩, ⟨1, some [AV.i64 r5, AV.i64 r6, AV.oref 1 1 0 r10.length]⟩, ⟨1, some [AV.i64 r7, AV.i64 r8, AV.oref 2 1 0 r11.length]⟩, ⟨1, none⟩, ⟨1, some (r20.map AV.f32)⟩, ⟨1, some (r21.map AV.f32)⟩, ⟨1, some [AV.i64 r15, AV.i64 r16, AV.oref 6 1 0 r20.length]⟩, ⟨1, some [AV.i64 r17, AV.i64 r18, AV.oref 7 1 0 r21.length]⟩, ⟨0, none⟩, ⟨0, none⟩, ⟨0, none⟩]) rfl rfl rfl (TOp.loadAgg_o rfl agg27 siz27 rfl rfl rfl rfl) rfl ?_
                  refine ROps.d (r := AV.b false) (fs := []) (Γ' := [⟨2, none⟩, ⟨1, some (r10.map AV.f32)⟩, ⟨1, some (r11.map AV.f32)⟩, ⟨1, some [AV.i64 r5, AV.i64 r6, AV.oref 1 1 0 r10.length]⟩, ⟨1, some [AV.i64 r7, AV.i64 r8, AV.oref 2 1 0 r11.length]⟩, ⟨1, none⟩, ⟨1, some (r20.map AV.f32)⟩, ⟨1, some (r21.map AV.f32)⟩, ⟨1, some [AV.i64 r15, AV.i64 r16, AV.oref 6 1 0 r20.length]⟩, ⟨1, some [AV.i64 r17, AV.i64 r18, AV.oref 7 1 0 r21.length]⟩, ⟨0, none⟩, ⟨0, none⟩, ⟨0, none⟩]) rfl rfl rfl (TOp.eqb (TOp.callB (CallAs.func ent13 rfl rfl) (Bors.cons (Bor.agg (Bors.cons (Bor.pure rfl) (Bors.cons (Bor.pure rfl) (Bors.cons (Bor.own (f := AV.f32) (fun _ => rfl) rfl rfl) Bors.nil)))) (Bors.cons (Bor.agg (Bors.cons (Bor.pure rfl) (Bors.cons (Bor.pure rfl) (Bors.cons (Bor.own (f := AV.f32) (fun _ => rfl) rfl rfl) Bors.nil)))) Bors.nil)) rfl rfl (w_eqMatrix_ok r17 r18 r21 r7 r8 r11 r31 hf20)) hc21) rfl ?_
                  refine ROps.l (r := AV.b true) rfl rfl rfl (LOp.eqb (LOp.not rfl rfl) rfl) ?_
                  refine ROps.l (r := AV.b true) rfl rfl rfl (LOp.pick_false rfl rfl rfl) ?_
                  refine ROps.l (r := AV.b true) rfl rfl rfl (LOp.move rfl rfl) ?_
                  refine ROps.s rfl rfl rfl ?_
                  refine ROps.s rfl rfl rfl ?_
                  refine ROps.s rfl rfl rfl ?_
                  refine ROps.l (r := AV.b true) rfl rfl rfl (LOp.pick_true rfl rfl rfl) ?_
                  refine ROps.nil ?_
                  refine RunC.wl (τ' := [(1, AV.i64 a3), (2, AV.ptr [AV.i64 a0, AV.i64 a1, AV.sl a2.length (a2.map AV.f32)]), (6, AV.optr 3 1 0), (7, AV.optr 4 1 0), (8, AV.b r9), (10, AV.optr 8 1 0), (11, AV.optr 9 1 0), (82, AV.b true)]) (Γ' := [⟨2, none⟩, ⟨1, some (r10.map AV.f32)⟩, ⟨1, some (r11.map AV.f32)⟩, ⟨1, some [AV.i64 r5, AV.i64 r6, AV.oref 1 1 0 r10.length]⟩, ⟨1, some [AV.i64 r7, AV.i64 r8, AV.oref 2 1 0 r11.length]⟩, ⟨1, none⟩, ⟨1, some (r20.map AV.f32)⟩, ⟨1, some (r21.map AV.f32)⟩, ⟨1, some [AV.i64 r15, AV.i64 r16, AV.oref 6 1 0 r20.length]⟩, ⟨1, some [AV.i64 r17, AV.i64 r18, AV.oref 7 1 0 r21.length]⟩, ⟨0, none⟩, ⟨0, none⟩, ⟨0, none⟩]) ⟨(ALe.refl _), (ALe.refl _), (ALe.refl _), (ALe.refl _), (ALe.refl _), (ALe.refl _), (ALe.refl _), (ALe.refl _), trivial⟩ ⟨⟨rfl, .inl rfl⟩, ⟨rfl, .inr rfl⟩, ⟨rfl, .inr rfl⟩, ⟨rfl, .inr rfl⟩, ⟨rfl, .inr rfl⟩, ⟨rfl, .inl rfl⟩, ⟨rfl, .inr rfl⟩, ⟨rfl, .inr rfl⟩, ⟨rfl, .inr rfl⟩, ⟨rfl, .inr rfl⟩, ⟨rfl, .inr rfl⟩, ⟨rfl, .inr rfl⟩, ⟨rfl, .inr rfl⟩, trivial⟩ ?_
                  refine RunC.cond_true rfl rfl ?_
                  refine RunC.seq ?_
                  refine RunC.regionW ?_
                  refine ROps.l (r := AV.b false) rfl rfl rfl (LOp.assign rfl rfl) ?_
                  refine ROps.nil ?_
                  refine RunC.ret ?_
                  have hq := Option.some.inj h
                  subst q0
                  exact bodyQ.pure (.inr rfl) rfl (Res.one rfl (RV.tmp rfl))
              · refine RunC.regionW ?_
                refine ROps.l (r := AV.i64 r28) rfl rfl rfl (LOp.move rfl rfl) ?_
                refine ROps.l (r := AV.b false) rfl rfl rfl (LOp.eqb (LOp.lss rfl rfl rfl) hc17) ?_
                refine ROps.l (r := AV.b false) rfl rfl rfl (LOp.move rfl rfl) ?_
                refine ROps.d (r := AV.agg [AV.i64 r15, AV.i64 r16, AV.oref 6 1 0 r20.length]) (fs := []) (Γ' := [⟨2, none⟩, ⟨1, some (r10.map AV.f32)⟩, ⟨1, some (r11.map AV.f32)⟩, ⟨1, some [AV.i64 r5, AV.i64 r6, AV.oref 1 1 0 r10.length]⟩, ⟨1, some [AV.i64 r7, AV.i64 r8, AV.oref 2 1 0 r11.length]⟩, ⟨1, none⟩, ⟨1, some (r20.map AV.f32)⟩, ⟨1, some (r21.map AV.f32)⟩, ⟨1, some [AV.i64 r15, AV.i64 r16, AV.oref 6 1 0 r20.length]⟩, ⟨1, some [AV.i64 r17, AV.i64 r18, AV.oref 7 1 0 r21.length]⟩, ⟨0, none⟩, ⟨0, none⟩, ⟨0, none⟩]) rfl rfl rfl (TOp.loadAgg_o rfl agg27 siz27 rfl rfl rfl rfl) rfl ?_
                refine ROps.d (r := AV.agg [AV.i64 r5, AV.i64 r6, AV.oref 1 1 0 r10.length]) (fs := []) (Γ' := [⟨2, none⟩, ⟨1, some (r10.map AV.f32)⟩, ⟨1, some (r11.map AV.f32)⟩, ⟨1, some [AV.i64 r5, AV.i64 r6, AV.oref 1 1 0 r10.length]⟩, ⟨1, some [AV.i64 r7, AV.i64 r8, AV.oref 2 1 0 r11.length]⟩, ⟨1, none⟩, ⟨1, some (r20.map AV.f32)⟩, ⟨1, some (r21.map AV.f32)⟩, ⟨1, some [AV.i64 r15, AV.i64 r16, AV.oref 6 1 0 r20.length]⟩, ⟨1, some [AV.i64 r17, AV.i64 r18, AV.oref 7 1 0 r21.length]⟩, ⟨0, none⟩, ⟨0, none⟩, ⟨0, none⟩]) rfl rfl rfl (TOp.loadAgg_o rfl agg27 siz27 rfl rfl rfl rfl) rfl ?_
                refine ROps.d (r := AV.b false) (fs := []) (Γ' := [⟨2, none⟩, ⟨1, some (r10.map AV.f32)⟩, ⟨1, some (r11.map AV.f32)⟩, ⟨1, some [AV.i64 r5, AV.i64 r6, AV.oref 1 1 0 r10.length]⟩, ⟨1, some [AV.i64 r7, AV.i64 r8, AV.oref 2 1 0 r11.length]⟩, ⟨1, none⟩, ⟨1, some (r20.map AV.f32)⟩, ⟨1, some (r21.map AV.f32)⟩, ⟨1, some [AV.i64 r15, AV.i64 r16, AV.oref 6 1 0 r20.length]⟩, ⟨1, some [AV.i64 r17, AV.i64 r18, AV.oref 7 1 0 r21.length]⟩, ⟨0, none⟩, ⟨0, none⟩, ⟨0, none⟩]) rfl rfl rfl (TOp.eqb (TOp.callB (CallAs.func ent13 rfl rfl) (Bors.cons (Bor.agg (Bors.cons (Bor.pure rfl) (Bors.cons (Bor.pure rfl) (Bors.cons (Bor.own (f := AV.f32) (fun _ => rfl) rfl rfl) Bors.nil)))) (Bors.cons (Bor.agg (Bors.cons (Bor.pure rfl) (Bors.cons (Bor.pure rfl) (Bors.cons (Bor.own (f := AV.f32) (fun _ => rfl) rfl rfl) Bors.nil)))) Bors.nil)) rfl rfl (w_eqMatrix_ok r15 r16 r20 r5 r6 r10 r30 hf18)) hc19) rfl ?_
                refine ROps.l (r := AV.b true) rfl rfl rfl (LOp.eqb (LOp.not rfl rfl) rfl) ?_
                refine ROps.l (r := AV.b true) rfl rfl rfl (LOp.pick_false rfl rfl rfl) ?_
                refine ROps.l (r := AV.b true) rfl rfl rfl (LOp.move rfl rfl) ?_
                refine ROps.s rfl rfl rfl ?_
                refine ROps.s rfl rfl rfl ?_
                refine ROps.s rfl rfl rfl ?_
                refine ROps.s rfl rfl rfl ?_
                refine ROps.l (r := AV.b true) rfl rfl rfl (LOp.pick_true rfl rfl rfl) ?_
                refine ROps.l (r := AV.b true) rfl rfl rfl (LOp.move rfl rfl) ?_
                refine ROps.s rfl rfl rfl ?_
                refine ROps.s rfl rfl rfl ?_
                refine ROps.s rfl rfl rfl ?_
                refine ROps.l (r := AV.b true) rfl rfl rfl (LOp.pick_true rfl rfl rfl) ?_
                refine ROps.nil ?_
                refine RunC.wl (τ' := [(1, AV.i64 a3), (2, AV.ptr [AV.i64 a0, AV.i64 a1, AV.sl a2.length (a2.map AV.f32)]), (6, AV.optr 3 1 0), (7, AV.optr 4 1 0), (8, AV.b r9), (10, AV.optr 8 1 0), (11, AV.optr 9 1 0), (82, AV.b true)]) (Γ' := [⟨2, none⟩, ⟨1, some (r10.map AV.f32)⟩, ⟨1, some (r11.map AV.f32)⟩, ⟨1, some [AV.i64 r5, AV.i64 r6, AV.oref 1 1 0 r10.length]⟩, ⟨1, some [AV.i64 r7, AV.i64 r8, AV.oref 2 1 0 r11.length]⟩, ⟨1, none⟩, ⟨1, some (r20.map AV.f32)⟩, ⟨1, some (r21.map AV.f32)⟩, ⟨1, some [AV.i64 r15, AV.i64 r16, AV.oref 6 1 0 r20.length]⟩, ⟨1, some [AV.i64 r17, AV.i64 r18, AV.oref 7 1 0 r21.length]⟩, ⟨0, none⟩, ⟨0, none⟩, ⟨0, none⟩]) ⟨(ALe.refl _), (ALe.refl _), (ALe.refl _), (ALe.refl _), (ALe.refl _), (ALe.refl _), (ALe.refl _), (ALe.refl _), trivial⟩ ⟨⟨rfl, .inl rfl⟩, ⟨rfl, .inr rfl⟩, ⟨rfl, .inr rfl⟩, ⟨rfl, .inr rfl⟩, ⟨rfl, .inr rfl⟩, ⟨rfl, .inl rfl⟩, ⟨rfl, .inr rfl⟩, ⟨rfl, .inr rfl⟩, ⟨rfl, .inr rfl⟩, ⟨rfl, .inr rfl⟩, ⟨rfl, .inr rfl⟩, ⟨rfl, .inr rfl⟩, ⟨rfl, .inr rfl⟩, trivial⟩ ?_
                refine RunC.cond_true rfl rfl ?_
                refine RunC.seq ?_
                refine RunC.regionW ?_
                refine ROps.l (r := AV.b false) rfl rfl rfl (LOp.assign rfl rfl) ?_
                refine ROps.nil ?_
                refine RunC.ret ?_
                have hq := Option.some.inj h
                subst q0
                exact bodyQ.pure (.inr rfl) rfl (Res.one rfl (RV.tmp rfl))
          · refine RunC.region_draw (Γ' := [⟨2, some (r14.map AV.f32)⟩, ⟨1, some (r10.map AV.f32)⟩, ⟨1, some (r11.map AV.f32)⟩, ⟨1, some [AV.i64 r5, AV.i64 r6, AV.oref 1 1 0 r10.length]⟩, ⟨1, some [AV.i64 r7, AV.i64 r8, AV.oref 2 1 0 r11.length]⟩, ⟨1, some [AV.i64 r12, AV.i64 r13, AV.oref 0 2 0 r14.length]⟩, ⟨1, some (r20.map AV.f32)⟩, ⟨1, some (r21.map AV.f32)⟩, ⟨1, some [AV.i64 r15, AV.i64 r16, AV.oref 6 1 0 r20.length]⟩, ⟨1, some [AV.i64 r17, AV.i64 r18, AV.oref 7 1 0 r21.length]⟩, ⟨0, none⟩, ⟨0, none⟩, ⟨0, none⟩]) 5 mixed 
              (TR.d (r := AV.agg [AV.i64 r12, AV.i64 r13, AV.oref 0 2 0 r14.length]) (fs := []) rfl rfl (TOp.loadAgg_o rfl agg27 siz27 rfl rfl rfl rfl) <|
              (TR.l (r := AV.agg [AV.i64 a0, AV.i64 a1, AV.sl a2.length (a2.map AV.f32)]) rfl rfl (LOp.loadAgg agg24 siz24 rfl rfl rfl rfl) <|
              (TR.d (r := AV.agg [AV.i64 r24, AV.i64 r25, AV.sl r26.length (r26.map AV.f32)]) (fs := []) rfl rfl (TOp.callS (CallAs.func ent11 rfl rfl) (ALes.cons (ALe.refl _) ALes.nil) (lts_cons (lt_agg (lts_cons rfl (lts_cons rfl (lts_cons (lt_sl (fun _ => rfl)) lts_nil)))) lts_nil) (lt_agg (lts_cons rfl (lts_cons rfl (lts_cons (lt_sl (fun _ => rfl)) lts_nil)))) (w_toMatrix_ok a0 a1 a2 r24 r25 r26 hf12) (Bor.agg (Bors.cons (Bor.pure rfl) (Bors.cons (Bor.pure rfl) (Bors.cons (Bor.own (f := AV.f32) (fun _ => rfl) rfl rfl) Bors.nil))))) <|
              (TR.d (r := AV.b false) (fs := []) rfl rfl (TOp.eqb (TOp.callB (CallAs.func ent13 rfl rfl) (Bors.cons (Bor.agg (Bors.cons (Bor.pure rfl) (Bors.cons (Bor.pure rfl) (Bors.cons (Bor.own (f := AV.f32) (fun _ => rfl) rfl rfl) Bors.nil)))) (Bors.cons (Bor.agg (Bors.cons (Bor.pure rfl) (Bors.cons (Bor.pure rfl) (Bors.cons (Bor.sl (fun _ => rfl)) Bors.nil)))) Bors.nil)) rfl rfl (w_eqMatrix_ok r12 r13 r14 r24 r25 r26 r27 hf13)) hc14) <|
              (TR.l (r := AV.b true) rfl rfl (LOp.eqb (LOp.not rfl rfl) rfl) <|
              TR.nil))))) rfl (by kernel_rfl) rfl fills_nil rfl ?_
            iterate 5 refine ROps.dropS ?_
            refine ROps.drop0 ?_
            refine ROps.nil ?_
            refine RunC.cond_true rfl rfl ?_
            refine RunC.seq ?_
            refine RunC.regionW ?_
            refine ROps.l (r := AV.b false) rfl rfl rfl (LOp.assign rfl rfl) ?_
            refine ROps.nil ?_
            refine RunC.ret ?_
            have hq := Option.some.inj h
            subst q0
            exact bodyQ.pure (.inr rfl) rfl (Res.one rfl (RV.tmp rfl))
      · refine RunC.regionW ?_
        refine ROps.d (r := AV.agg [AV.i64 r15, AV.i64 r16, AV.oref 6 1 0 r20.length]) (fs := []) (Γ' := [⟨2, some (r14.map AV.f32)⟩, ⟨1, some (r10.map AV.f32)⟩, ⟨1, some (r11.map AV.f32)⟩, ⟨1, some [AV.i64 r5, AV.i64 r6, AV.oref 1 1 0 r10.length]⟩, ⟨1, some [AV.i64 r7, AV.i64 r8, AV.oref 2 1 0 r11.length]⟩, ⟨1, some [AV.i64 r12, AV.i64 r13, AV.oref 0 2 0 r14.length]⟩, ⟨1, some (r20.map AV.f32)⟩, ⟨1, some (r21.map AV.f32)⟩, ⟨1, some [AV.i64 r15, AV.i64 r16, AV.oref 6 1 0 r20.length]⟩, ⟨1, some [AV.i64 r17, AV.i64 r18, AV.oref 7 1 0 r21.length]⟩, ⟨0, none⟩, ⟨0, none⟩, ⟨0, none⟩]) rfl rfl rfl (TOp.loadAgg_o rfl agg27 siz27 rfl rfl rfl rfl) rfl ?_
        refine ROps.d (r := AV.agg [AV.i64 r5, AV.i64 r6, AV.oref 1 1 0 r10.length]) (fs := []) (Γ' := [⟨2, some (r14.map AV.f32)⟩, ⟨1, some (r10.map AV.f32)⟩, ⟨1, some (r11.map AV.f32)⟩, ⟨1, some [AV.i64 r5, AV.i64 r6, AV.oref 1 1 0 r10.length]⟩, ⟨1, some [AV.i64 r7, AV.i64 r8, AV.oref 2 1 0 r11.length]⟩, ⟨1, some [AV.i64 r12, AV.i64 r13, AV.oref 0 2 0 r14.length]⟩, ⟨1, some (r20.map AV.f32)⟩, ⟨1, some (r21.map AV.f32)⟩, ⟨1, some [AV.i64 r15, AV.i64 r16, AV.oref 6 1 0 r20.length]⟩, ⟨1, some [AV.i64 r17, AV.i64 r18, AV.oref 7 1 0 r21.length]⟩, ⟨0, none⟩, ⟨0, none⟩, ⟨0, none⟩]) rfl rfl rfl (TOp.loadAgg_o rfl agg27 siz27 rfl rfl rfl rfl) rfl ?_
        refine ROps.d (r := AV.b true) (fs := []) (Γ' := [⟨2, some (r14.map AV.f32)⟩, ⟨1, some (r10.map AV.f32)⟩, ⟨1, some (r11.map AV.f32)⟩, ⟨1, some [AV.i64 r5, AV.i64 r6, AV.oref 1 1 0 r10.length]⟩, ⟨1, some [AV.i64 r7, AV.i64 r8, AV.oref 2 1 0 r11.length]⟩, ⟨1, some [AV.i64 r12, AV.i64 r13, AV.oref 0 2 0 r14.length]⟩, ⟨1, some (r20.map AV.f32)⟩, ⟨1, some (r21.map AV.f32)⟩, ⟨1, some [AV.i64 r15, AV.i64 r16, AV.oref 6 1 0 r20.length]⟩, ⟨1, some [AV.i64 r17, AV.i64 r18, AV.oref 7 1 0 r21.length]⟩, ⟨0, none⟩, ⟨0, none⟩, ⟨0, none⟩]) rfl rfl rfl (TOp.eqb (TOp.callB (CallAs.func ent13 rfl rfl) (Bors.cons (Bor.agg (Bors.cons (Bor.pure rfl) (Bors.cons (Bor.pure rfl) (Bors.cons (Bor.own (f := AV.f32) (fun _ => rfl) rfl rfl) Bors.nil)))) (Bors.cons (Bor.agg (Bors.cons (Bor.pure rfl) (Bors.cons (Bor.pure rfl) (Bors.cons (Bor.own (f := AV.f32) (fun _ => rfl) rfl rfl) Bors.nil)))) Bors.nil)) rfl rfl (w_eqMatrix_ok r15 r16 r20 r5 r6 r10 r22 hf7)) hc8) rfl ?_
        refine ROps.l (r := AV.b false) rfl rfl rfl (LOp.eqb (LOp.not rfl rfl) rfl) ?_
        refine ROps.l (r := AV.b false) rfl rfl rfl (LOp.move rfl rfl) ?_
        refine ROps.d (r := AV.agg [AV.i64 r17, AV.i64 r18, AV.oref 7 1 0 r21.length]) (fs := []) (Γ' := [⟨2, some (r14.map AV.f32)⟩, ⟨1, some (r10.map AV.f32)⟩, ⟨1, some (r11.map AV.f32)⟩, ⟨1, some [AV.i64 r5, AV.i64 r6, AV.oref 1 1 0 r10.length]⟩, ⟨1, some [AV.i64 r7, AV.i64 r8, AV.oref 2 1 0 r11.length]⟩, ⟨1, some [AV.i64 r12, AV.i64 r13, AV.oref 0 2 0 r14.length]⟩, ⟨1, some (r20.map AV.f32)⟩, ⟨1, some (r21.map AV.f32)⟩, ⟨1, some [AV.i64 r15, AV.i64 r16, AV.oref 6 1 0 r20.length]⟩, ⟨1, some [AV.i64 r17, AV.i64 r18, AV.oref 7 1 0 r21.length]⟩, ⟨0, none⟩, ⟨0, none⟩, ⟨0, none⟩]) rfl rfl rfl (TOp.loadAgg_o rfl agg27 siz27 rfl rfl rfl rfl) rfl ?_
        refine ROps.d (r := AV.agg [AV.i64 r7, AV.i64 r8, AV.oref 2 1 0 r11.length]) (fs := []) (Γ' := [⟨2, some (r14.map AV.f32)⟩, ⟨1, some (r10.map AV.f32)⟩, ⟨1, some (r11.map AV.f32)⟩, ⟨1, some [AV.i64 r5, AV.i64 r6, AV.oref 1 1 0 r10.length]⟩, ⟨1, some [AV.i64 r7, AV.i64 r8, AV.oref 2 1 0 r11.length]⟩, ⟨1, some [AV.i64 r12, AV.i64 r13, AV.oref 0 2 0 r14.length]⟩, ⟨1, some (r20.map AV.f32)⟩, ⟨1, some (r21.map AV.f32)⟩, ⟨1, some [AV.i64 r15, AV.i64 r16, AV.oref 6 1 0 r20.length]⟩, ⟨1, some [AV.i64 r17, AV.i64 r18, AV.oref 7 1 0 r21.length]⟩, ⟨0, none⟩, ⟨0, none⟩, ⟨0, none⟩]) rfl rfl rfl (TOp.loadAgg_o rfl agg27 siz27 rfl rfl rfl rfl) rfl ?_
        refine ROps.d (r := AV.b false) (fs := []) (Γ' := [⟨2, some (r14.map AV.f32)⟩, ⟨1, some (r10.map AV.f32)⟩, ⟨1, some (r11.map AV.f32)⟩, ⟨1, some [AV.i64 r5, AV.i64 r6, AV.oref 1 1 0 r10.length]⟩, ⟨1, some [AV.i64 r7, AV.i64 r8, AV.oref 2 1 0 r11.length]⟩, ⟨1, some [AV.i64 r12, AV.i64 r13, AV.oref 0 2 0 r14.length]⟩, ⟨1, some (r20.map AV.f32)⟩, ⟨1, some (r21.map AV.f32)⟩, ⟨1, some [AV.i64 r15, AV.i64 r16, AV.oref 6 1 0 r20.length]⟩, ⟨1, some [AV.i64 r17, AV.i64 r18, AV.oref 7 1 0 r21.length]⟩, ⟨0, none⟩, ⟨0, none⟩, ⟨0, none⟩]) rfl rfl rfl (TOp.eqb (TOp.callB (CallAs.func ent13 rfl rfl) (Bors.cons (Bor.agg (Bors.cons (Bor.pure rfl) (Bors.cons (Bor.pure rfl) (Bors.cons (Bor.own (f := AV.f32) (fun _ => rfl) rfl rfl) Bors.nil)))) (Bors.cons (Bor.agg (Bors.cons (Bor.pure rfl) (Bors.cons (Bor.pure rfl) (Bors.cons (Bor.own (f := AV.f32) (fun _ => rfl) rfl rfl) Bors.nil)))) Bors.nil)) rfl rfl (w_eqMatrix_ok r17 r18 r21 r7 r8 r11 r23 hf9)) hc10) rfl ?_
        refine ROps.l (r := AV.b true) rfl rfl rfl (LOp.eqb (LOp.not rfl rfl) rfl) ?_
        refine ROps.l (r := AV.b true) rfl rfl rfl (LOp.pick_false rfl rfl rfl) ?_
        refine ROps.l (r := AV.b true) rfl rfl rfl (LOp.move rfl rfl) ?_
        refine ROps.s rfl rfl rfl ?_
        refine ROps.s rfl rfl rfl ?_
        refine ROps.s rfl rfl rfl ?_
        refine ROps.l (r := AV.b true) rfl rfl rfl (LOp.pick_true rfl rfl rfl) ?_
        refine ROps.nil ?_
        refine RunC.cond_true rfl rfl ?_
        refine RunC.seq ?_
        refine RunC.regionW ?_
        refine ROps.l (r := AV.b false) rfl rfl rfl (LOp.assign rfl rfl) ?_
        refine ROps.nil ?_
        refine RunC.ret ?_
        have hq := Option.some.inj h
        subst q0
        exact bodyQ.pure (.inr rfl) rfl (Res.one rfl (RV.tmp rfl))
    · refine RunC.regionW ?_
      refine ROps.d (r := AV.agg [AV.i64 r15, AV.i64 r16, AV.oref 6 1 0 r20.length]) (fs := []) (Γ' := [⟨2, some (r14.map AV.f32)⟩, ⟨1, some (r10.map AV.f32)⟩, ⟨1, some (r11.map AV.f32)⟩, ⟨1, some [AV.i64 r5, AV.i64 r6, AV.oref 1 1 0 r10.length]⟩, ⟨1, some [AV.i64 r7, AV.i64 r8, AV.oref 2 1 0 r11.length]⟩, ⟨1, some [AV.i64 r12, AV.i64 r13, AV.oref 0 2 0 r14.length]⟩, ⟨1, some (r20.map AV.f32)⟩, ⟨1, some (r21.map AV.f32)⟩, ⟨1, some [AV.i64 r15, AV.i64 r16, AV.oref 6 1 0 r20.length]⟩, ⟨1, some [AV.i64 r17, AV.i64 r18, AV.oref 7 1 0 r21.length]⟩, ⟨0, none⟩, ⟨0, none⟩, ⟨0, none⟩]) rfl rfl rfl (TOp.loadAgg_o rfl agg27 siz27 rfl rfl rfl rfl) rfl ?_
      refine ROps.d (r := AV.agg [AV.i64 r5, AV.i64 r6, AV.oref 1 1 0 r10.length]) (fs := []) (Γ' := [⟨2, some (r14.map AV.f32)⟩, ⟨1, some (r10.map AV.f32)⟩, ⟨1, some (r11.map AV.f32)⟩, ⟨1, some [AV.i64 r5, AV.i64 r6, AV.oref 1 1 0 r10.length]⟩, ⟨1, some [AV.i64 r7, AV.i64 r8, AV.oref 2 1 0 r11.length]⟩, ⟨1, some [AV.i64 r12, AV.i64 r13, AV.oref 0 2 0 r14.length]⟩, ⟨1, some (r20.map AV.f32)⟩, ⟨1, some (r21.map AV.f32)⟩, ⟨1, some [AV.i64 r15, AV.i64 r16, AV.oref 6 1 0 r20.length]⟩, ⟨1, some [AV.i64 r17, AV.i64 r18, AV.oref 7 1 0 r21.length]⟩, ⟨0, none⟩, ⟨0, none⟩, ⟨0, none⟩]) rfl rfl rfl (TOp.loadAgg_o rfl agg27 siz27 rfl rfl rfl rfl) rfl ?_
      refine ROps.d (r := AV.b false) (fs := []) (Γ' := [⟨2, some (r14.map AV.f32)⟩, ⟨1, some (r10.map AV.f32)⟩, ⟨1, some (r11.map AV.f32)⟩, ⟨1, some [AV.i64 r5, AV.i64 r6, AV.oref 1 1 0 r10.length]⟩, ⟨1, some [AV.i64 r7, AV.i64 r8, AV.oref 2 1 0 r11.length]⟩, ⟨1, some [AV.i64 r12, AV.i64 r13, AV.oref 0 2 0 r14.length]⟩, ⟨1, some (r20.map AV.f32)⟩, ⟨1, some (r21.map AV.f32)⟩, ⟨1, some [AV.i64 r15, AV.i64 r16, AV.oref 6 1 0 r20.length]⟩, ⟨1, some [AV.i64 r17, AV.i64 r18, AV.oref 7 1 0 r21.length]⟩, ⟨0, none⟩, ⟨0, none⟩, ⟨0, none⟩]) rfl rfl rfl (TOp.eqb (TOp.callB (CallAs.func ent13 rfl rfl) (Bors.cons (Bor.agg (Bors.cons (Bor.pure rfl) (Bors.cons (Bor.pure rfl) (Bors.cons (Bor.own (f := AV.f32) (fun _ => rfl) rfl rfl) Bors.nil)))) (Bors.cons (Bor.agg (Bors.cons (Bor.pure rfl) (Bors.cons (Bor.pure rfl) (Bors.cons (Bor.own (f := AV.f32) (fun _ => rfl) rfl rfl) Bors.nil)))) Bors.nil)) rfl rfl (w_eqMatrix_ok r15 r16 r20 r5 r6 r10 r22 hf7)) hc8) rfl ?_
      refine ROps.l (r := AV.b true) rfl rfl rfl (LOp.eqb (LOp.not rfl rfl) rfl) ?_
      refine ROps.l (r := AV.b true) rfl rfl rfl (LOp.move rfl rfl) ?_
      refine ROps.s rfl rfl rfl ?_
      refine ROps.s rfl rfl rfl ?_
      refine ROps.s rfl rfl rfl ?_
      refine ROps.s rfl rfl rfl ?_
      refine ROps.l (r := AV.b true) rfl rfl rfl (LOp.pick_true rfl rfl rfl) ?_
      refine ROps.l (r := AV.b true) rfl rfl rfl (LOp.move rfl rfl) ?_
      refine ROps.s rfl rfl rfl ?_
      refine ROps.s rfl rfl rfl ?_
      refine ROps.s rfl rfl rfl ?_
      refine ROps.l (r := AV.b true) rfl rfl rfl (LOp.pick_true rfl rfl rfl) ?_
      refine ROps.nil ?_
      refine RunC.cond_true rfl rfl ?_
      refine RunC.seq ?_
      refine RunC.regionW ?_
      refine ROps.l (r := AV.b false) rfl rfl rfl (LOp.assign rfl rfl) ?_
      refine ROps.nil ?_
      refine RunC.ret ?_
      have hq := Option.some.inj h
      subst q0
      exact bodyQ.pure (.inr rfl) rfl (Res.one rfl (RV.tmp rfl))
end Go.Proofs.Ytjbifkimffmhpaa
