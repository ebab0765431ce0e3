/- Generated. -/
import Derived.Test.YtcoookgeialmnaaG2
namespace Go.Proofs.Ytcoookgeialmnaa
open Go Go.AM Go.AM.AV
set_option maxRecDepth 20000
set_option maxHeartbeats 4000000
set_option linter.unusedVariables false
set_option linter.unusedSimpArgs false
noncomputable def w_FnExactSparseWith (a0 : Int) (a1 : List Int) (a2 : List Int) (a3 : List F) (a4 : Int) (a5 : List Int) (a6 : List Int) (a7 : List F) (a8 : List F) (a9 : F) (a10 : Int) : Option (Bool) :=
 bsel (decide (1048576 < (a8.length : Int))) (
  some true) (
  obind (w_szSparse a0 a1 a2 a3 1048576) fun (r1 : Int) =>
  bsel (decide (r1 < 0)) (
   some true) (
   obind (w_szSparse a4 a5 a6 a7 r1) fun (r2 : Int) =>
   bsel (decide (r2 < 0)) (
    some true) (
    obind4 (w_toSparse a0 a1 a2 a3) fun (r3 : Int) (r4 : List Int) (r5 : List Int) (r6 : List F) =>
    obind4 (w_toSparse a4 a5 a6 a7) fun (r7 : Int) (r8 : List Int) (r9 : List Int) (r10 : List F) =>
    obind (w_toFloat32S a8) fun (r11 : List F) =>
    obind3 (s_SparseWith r3 r4 r5 r6 r7 r8 r9 r10 r11 a9 a10) fun (r12 : Int) (r13 : Bool) (r14 : List F) =>
    obind4 (w_toSparse a0 a1 a2 a3) fun (r15 : Int) (r16 : List Int) (r17 : List Int) (r18 : List F) =>
    obind4 (w_toSparse a4 a5 a6 a7) fun (r19 : Int) (r20 : List Int) (r21 : List Int) (r22 : List F) =>
    obind (w_toFloat32S a8) fun (r23 : List F) =>
    obind3 (i_SparseWith r15 r16 r17 r18 r19 r20 r21 r22 r23 a9 a10) fun (r24 : Int) (r25 : Bool) (r26 : List F) =>
    obind (w_eqFloat32S r26 r14) fun (r27 : Bool) =>
    bsel r27 (
     bsel (!decide (r24 = r12)) (
      some false) (
      bsel (!(r25 == r13)) (
       some false) (
       obind4 (w_toSparse a0 a1 a2 a3) fun (r28 : Int) (r29 : List Int) (r30 : List Int) (r31 : List F) =>
       obind (w_eqSparse r15 r16 r17 r18 r28 r29 r30 r31) fun (r32 : Bool) =>
       bsel r32 (
        obind4 (w_toSparse a4 a5 a6 a7) fun (r33 : Int) (r34 : List Int) (r35 : List Int) (r36 : List F) =>
        obind (w_eqSparse r19 r20 r21 r22 r33 r34 r35 r36) fun (r37 : Bool) =>
        bsel r37 (
         obind (w_toFloat32S a8) fun (r38 : List F) =>
         obind (w_eqFloat32S r23 r38) fun (r39 : Bool) =>
         bsel r39 (
          obind4 (w_markSparse_01o_02o1_03o2 r15 1 r16 r17 r18) fun (r40 : Int) (r41 : List Int) (r42 : List Int) (r43 : List F) =>
          need (decide (r41.length = r16.length)) <|
          need (decide (r42.length = r17.length)) <|
          need (decide (r43.length = r18.length)) <|
          obind4 (w_markSparse_01o_02o1_03o2 r19 r40 r20 r21 r22) fun (r44 : Int) (r45 : List Int) (r46 : List Int) (r47 : List F) =>
          need (decide (r45.length = r20.length)) <|
          need (decide (r46.length = r21.length)) <|
          need (decide (r47.length = r22.length)) <|
          obind2 (w_markFloat32S_0o r44 r23) fun (r48 : Int) (r49 : List F) =>
          need (decide (r49.length = r23.length)) <|
          bsel (decide (r48 < 0)) (
           some false) (
           obind (w_eqFloat32S r26 r14) fun (r50 : Bool) =>
           bsel r50 (
            obind2 (w_markFloat32S_0o 1 r26) fun (r51 : Int) (r52 : List F) =>
            need (decide (r52.length = r26.length)) <|
            obind (w_heldFloat32S r52 1) fun (r53 : Int) =>
            bsel (decide (r53 < 0)) (
             some false) (
             bsel (!decide (r53 = r51)) (
              some false) (
              obind4 (w_toSparse a0 a1 a2 a3) fun (r54 : Int) (r55 : List Int) (r56 : List Int) (r57 : List F) =>
              obind4 (w_toSparse a4 a5 a6 a7) fun (r58 : Int) (r59 : List Int) (r60 : List Int) (r61 : List F) =>
              obind (w_toFloat32S a8) fun (r62 : List F) =>
              obind3 (i_SparseWith r54 r55 r56 r57 r58 r59 r60 r61 r62 a9 a10) fun (r63 : Int) (r64 : Bool) (r65 : List F) =>
              obind (w_eqFloat32S r65 r14) fun (r66 : Bool) =>
              bsel r66 (
               bsel (!decide (r63 = r12)) (
                some false) (
                bsel (!(r64 == r13)) (
                 some false) (
                 obind (w_heldFloat32S r52 1) fun (r67 : Int) =>
                 bsel (decide (r67 < 0)) (
                  some false) (
                  bsel (!decide (r67 = r51)) (
                   some false) (
                   some true))))) (
               some false)))) (
            some false))) (
          some false)) (
         some false)) (
        some false)))) (
     some false))))
theorem w_FnExactSparseWith_ok (a0 : Int) (a1 : List Int) (a2 : List Int) (a3 : List F) (a4 : Int) (a5 : List Int) (a6 : List Int) (a7 : List F) (a8 : List F) (a9 : F) (a10 : Int) (q0 : Bool) (h : w_FnExactSparseWith a0 a1 a2 a3 a4 a5 a6 a7 a8 a9 a10 = some q0) : Ev Try.prog 4 [agg [i64 a0, sl a1.length (a1.map i64), sl a2.length (a2.map i64), sl a3.length (a3.map f32)], agg [i64 a4, sl a5.length (a5.map i64), sl a6.length (a6.map i64), sl a7.length (a7.map f32)], sl a8.length (a8.map f32), f32 a9, i64 a10] [] (b q0) [] := by
 refine Ev.start Try.func4 rfl rfl 11 (τ := [(0, agg [i64 a0, sl a1.length (a1.map i64), sl a2.length (a2.map i64), sl a3.length (a3.map f32)]), (1, agg [i64 a4, sl a5.length (a5.map i64), sl a6.length (a6.map i64), sl a7.length (a7.map f32)]), (2, sl a8.length (a8.map f32)), (3, f32 a9), (4, i64 a10)]) rfl (Γ' := [⟨0, none⟩, ⟨0, none⟩, ⟨0, none⟩, ⟨0, none⟩, ⟨0, none⟩, ⟨0, none⟩, ⟨0, none⟩, ⟨0, none⟩, ⟨0, none⟩, ⟨0, none⟩, ⟨0, none⟩]) rfl (n := 343) rfl (g := 0) rfl (fun _ => rfl) ?_
 unfold w_FnExactSparseWith at h
 refine zQ ?_
 refine ROps.d (r := ptr [i64 a0, sl a1.length (a1.map i64), sl a2.length (a2.map i64), sl a3.length (a3.map f32)]) (fs := []) (Γ' := [⟨0, none⟩, ⟨0, none⟩, ⟨0, none⟩, ⟨0, none⟩, ⟨0, none⟩, ⟨0, none⟩, ⟨0, none⟩, ⟨0, none⟩, ⟨0, none⟩, ⟨0, none⟩, ⟨0, none⟩]) rfl rfl rfl (TOp.box_s rfl rfl rfl) rfl ?_
 refine ROps.d (r := ptr [i64 a4, sl a5.length (a5.map i64), sl a6.length (a6.map i64), sl a7.length (a7.map f32)]) (fs := []) (Γ' := [⟨0, none⟩, ⟨0, none⟩, ⟨0, none⟩, ⟨0, none⟩, ⟨0, none⟩, ⟨0, none⟩, ⟨0, none⟩, ⟨0, none⟩, ⟨0, none⟩, ⟨0, none⟩, ⟨0, none⟩]) rfl rfl rfl (TOp.box_s rfl rfl rfl) rfl ?_
 refine zA (r := b false) rfl rfl rfl rfl rfl ?_
 refine zN ?_
 refine RunC.seq ?_
 refine RunC.seq ?_
 rcases bsel_some h with ⟨hc1, h⟩ | ⟨hc1, h⟩
 ·refine RunC.regionW ?_
  refine zM (r := sl a8.length (a8.map f32)) rfl rfl rfl rfl rfl ?_
  refine zL (r := i64 (a8.length : Int)) rfl rfl rfl (LOp.len_sl und23 rfl rfl) ?_
  refine zL (r := b true) rfl rfl rfl (LOp.eqb (LOp.gtr rfl rfl rfl) hc1) ?_
  refine zN ?_
  refine RunC.cond_true rfl rfl ?_
  refine zQ ?_
  refine zA (r := b true) rfl rfl rfl rfl rfl ?_
  refine zN ?_
  refine RunC.ret ?_
  have hq := Option.some.inj h
  subst q0
  exact bodyQ.pure (.inr rfl) rfl (Res.one rfl (RV.tmp rfl))
 ·refine RunC.regionW ?_
  refine zM (r := sl a8.length (a8.map f32)) rfl rfl rfl rfl rfl ?_
  refine zL (r := i64 (a8.length : Int)) rfl rfl rfl (LOp.len_sl und23 rfl rfl) ?_
  refine zL (r := b false) rfl rfl rfl (LOp.eqb (LOp.gtr rfl rfl rfl) hc1) ?_
  refine zN ?_
  refine RunC.cond_false rfl rfl ?_
  refine RunC.skip ?_
  refine zQ ?_
  refine zA (r := i64 1048576) rfl rfl rfl rfl rfl ?_
  refine zN ?_
  refine RunC.seq ?_
  obtain ⟨r1, hf2, h⟩ := obind_some h
  refine RunC.regionW ?_
  refine zL (r := agg [i64 a0, sl a1.length (a1.map i64), sl a2.length (a2.map i64), sl a3.length (a3.map f32)]) rfl rfl rfl (LOp.loadAgg agg25 siz25 rfl rfl rfl rfl) ?_
  refine zM (r := i64 1048576) rfl rfl rfl rfl rfl ?_
  refine ROps.d (r := i64 r1) (fs := []) (Γ' := [⟨0, none⟩, ⟨0, none⟩, ⟨0, none⟩, ⟨0, none⟩, ⟨0, none⟩, ⟨0, none⟩, ⟨0, none⟩, ⟨0, none⟩, ⟨0, none⟩, ⟨0, none⟩, ⟨0, none⟩]) rfl rfl rfl (TOp.callB (CallAs.func ent7 rfl rfl) (Bors.cons (Bor.agg (Bors.cons (Bor.pure rfl) (Bors.cons (Bor.sl (fun _ => rfl)) (Bors.cons (Bor.sl (fun _ => rfl)) (Bors.cons (Bor.sl (fun _ => rfl)) Bors.nil))))) (Bors.cons (Bor.pure rfl) Bors.nil)) rfl rfl (w_szSparse_ok a0 a1 a2 a3 1048576 r1 hf2)) rfl ?_
  refine zA (r := i64 r1) rfl rfl rfl rfl rfl ?_
  refine zN ?_
  refine RunC.seq ?_
  refine RunC.seq ?_
  rcases bsel_some h with ⟨hc3, h⟩ | ⟨hc3, h⟩
  ·refine RunC.regionW ?_
   refine zM (r := i64 r1) rfl rfl rfl rfl rfl ?_
   refine zL (r := b true) rfl rfl rfl (LOp.eqb (LOp.lss rfl rfl rfl) hc3) ?_
   refine zN ?_
   refine RunC.cond_true rfl rfl ?_
   refine zQ ?_
   refine zA (r := b true) rfl rfl rfl rfl rfl ?_
   refine zN ?_
   refine RunC.ret ?_
   have hq := Option.some.inj h
   subst q0
   exact bodyQ.pure (.inr rfl) rfl (Res.one rfl (RV.tmp rfl))
  ·refine RunC.regionW ?_
   refine zM (r := i64 r1) rfl rfl rfl rfl rfl ?_
   refine zL (r := b false) rfl rfl rfl (LOp.eqb (LOp.lss rfl rfl rfl) hc3) ?_
   refine zN ?_
   refine RunC.cond_false rfl rfl ?_
   refine RunC.skip ?_
   refine RunC.seq ?_
   obtain ⟨r2, hf4, h⟩ := obind_some h
   refine RunC.regionW ?_
   refine zL (r := agg [i64 a4, sl a5.length (a5.map i64), sl a6.length (a6.map i64), sl a7.length (a7.map f32)]) rfl rfl rfl (LOp.loadAgg agg25 siz25 rfl rfl rfl rfl) ?_
   refine zM (r := i64 r1) rfl rfl rfl rfl rfl ?_
   refine ROps.d (r := i64 r2) (fs := []) (Γ' := [⟨0, none⟩, ⟨0, none⟩, ⟨0, none⟩, ⟨0, none⟩, ⟨0, none⟩, ⟨0, none⟩, ⟨0, none⟩, ⟨0, none⟩, ⟨0, none⟩, ⟨0, none⟩, ⟨0, none⟩]) rfl rfl rfl (TOp.callB (CallAs.func ent7 rfl rfl) (Bors.cons (Bor.agg (Bors.cons (Bor.pure rfl) (Bors.cons (Bor.sl (fun _ => rfl)) (Bors.cons (Bor.sl (fun _ => rfl)) (Bors.cons (Bor.sl (fun _ => rfl)) Bors.nil))))) (Bors.cons (Bor.pure rfl) Bors.nil)) rfl rfl (w_szSparse_ok a4 a5 a6 a7 r1 r2 hf4)) rfl ?_
   refine zA (r := i64 r2) rfl rfl rfl rfl rfl ?_
   refine zN ?_
   refine RunC.seq ?_
   refine RunC.seq ?_
   rcases bsel_some h with ⟨hc5, h⟩ | ⟨hc5, h⟩
   ·refine RunC.regionW ?_
    refine zM (r := i64 r2) rfl rfl rfl rfl rfl ?_
    refine zL (r := b true) rfl rfl rfl (LOp.eqb (LOp.lss rfl rfl rfl) hc5) ?_
    refine zN ?_
    refine RunC.cond_true rfl rfl ?_
    refine zQ ?_
    refine zA (r := b true) rfl rfl rfl rfl rfl ?_
    refine zN ?_
    refine RunC.ret ?_
    have hq := Option.some.inj h
    subst q0
    exact bodyQ.pure (.inr rfl) rfl (Res.one rfl (RV.tmp rfl))
   ·refine RunC.regionW ?_
    refine zM (r := i64 r2) rfl rfl rfl rfl rfl ?_
    refine zL (r := b false) rfl rfl rfl (LOp.eqb (LOp.lss rfl rfl rfl) hc5) ?_
    refine zN ?_
    refine RunC.cond_false rfl rfl ?_
    refine RunC.skip ?_
    refine RunC.seq ?_
    obtain ⟨r3, r4, r5, r6, hf6, h⟩ := obind4_some h
    obtain ⟨r7, r8, r9, r10, hf7, h⟩ := obind4_some h
    obtain ⟨r11, hf8, h⟩ := obind_some h
    obtain ⟨r12, r13, r14, hf9, h⟩ := obind3_some h
    refine RunC.region_draw (Γ' := [⟨0, none⟩, ⟨0, none⟩, ⟨0, none⟩, ⟨0, none⟩, ⟨0, none⟩, ⟨0, none⟩, ⟨0, none⟩, ⟨0, none⟩, ⟨0, none⟩, ⟨0, none⟩, ⟨0, none⟩]) 16 mixed 
     (TR.l (r := agg [i64 a0, sl a1.length (a1.map i64), sl a2.length (a2.map i64), sl a3.length (a3.map f32)]) rfl rfl (LOp.loadAgg agg25 siz25 rfl rfl rfl rfl) <|
     (TR.d (r := agg [i64 r3, sl r4.length (r4.map i64), sl r5.length (r5.map i64), sl r6.length (r6.map f32)]) (fs := []) rfl rfl (TOp.callS (CallAs.func ent9 rfl rfl) (ALes.cons aR ALes.nil) (lts_cons (lt_agg (lts_cons rfl (lts_cons (lt_sl (fun _ => rfl)) (lts_cons (lt_sl (fun _ => rfl)) (lts_cons (lt_sl (fun _ => rfl)) lts_nil))))) lts_nil) (lt_agg (lts_cons rfl (lts_cons (lt_sl (fun _ => rfl)) (lts_cons (lt_sl (fun _ => rfl)) (lts_cons (lt_sl (fun _ => rfl)) lts_nil))))) (w_toSparse_ok a0 a1 a2 a3 r3 r4 r5 r6 hf6) (Bor.agg (Bors.cons (Bor.pure rfl) (Bors.cons (Bor.own (f := i64) (fun _ => rfl) rfl rfl) (Bors.cons (Bor.own (f := i64) (fun _ => rfl) rfl rfl) (Bors.cons (Bor.own (f := f32) (fun _ => rfl) rfl rfl) Bors.nil)))))) <|
     (TR.l (r := agg [i64 a4, sl a5.length (a5.map i64), sl a6.length (a6.map i64), sl a7.length (a7.map f32)]) rfl rfl (LOp.loadAgg agg25 siz25 rfl rfl rfl rfl) <|
     (TR.d (r := agg [i64 r7, sl r8.length (r8.map i64), sl r9.length (r9.map i64), sl r10.length (r10.map f32)]) (fs := []) rfl rfl (TOp.callS (CallAs.func ent9 rfl rfl) (ALes.cons aR ALes.nil) (lts_cons (lt_agg (lts_cons rfl (lts_cons (lt_sl (fun _ => rfl)) (lts_cons (lt_sl (fun _ => rfl)) (lts_cons (lt_sl (fun _ => rfl)) lts_nil))))) lts_nil) (lt_agg (lts_cons rfl (lts_cons (lt_sl (fun _ => rfl)) (lts_cons (lt_sl (fun _ => rfl)) (lts_cons (lt_sl (fun _ => rfl)) lts_nil))))) (w_toSparse_ok a4 a5 a6 a7 r7 r8 r9 r10 hf7) (Bor.agg (Bors.cons (Bor.pure rfl) (Bors.cons (Bor.own (f := i64) (fun _ => rfl) rfl rfl) (Bors.cons (Bor.own (f := i64) (fun _ => rfl) rfl rfl) (Bors.cons (Bor.own (f := f32) (fun _ => rfl) rfl rfl) Bors.nil)))))) <|
     (TR.l (r := sl a8.length (a8.map f32)) rfl rfl (LOp.move rfl rfl) <|
     (TR.d (r := sl r11.length (r11.map f32)) (fs := []) rfl rfl (TOp.callS (CallAs.func ent10 rfl rfl) (ALes.cons aR ALes.nil) (lts_cons (lt_sl (fun _ => rfl)) lts_nil) (lt_sl (fun _ => rfl)) (w_toFloat32S_ok a8 r11 hf8) (Bor.own (f := f32) (fun _ => rfl) rfl rfl)) <|
     (TR.l (r := f32 a9) rfl rfl (LOp.move rfl rfl) <|
     (TR.l (r := i64 a10) rfl rfl (LOp.move rfl rfl) <|
     (TR.d (r := tup [sl r14.length (r14.map f32), i64 r12, b r13]) (fs := []) rfl rfl (TOp.callS (CallAs.func ent17 rfl rfl) (ALes.cons aR (ALes.cons aR (ALes.cons aR (ALes.cons aR (ALes.cons aR ALes.nil))))) (lts_cons (lt_agg (lts_cons rfl (lts_cons (lt_sl (fun _ => rfl)) (lts_cons (lt_sl (fun _ => rfl)) (lts_cons (lt_sl (fun _ => rfl)) lts_nil))))) (lts_cons (lt_agg (lts_cons rfl (lts_cons (lt_sl (fun _ => rfl)) (lts_cons (lt_sl (fun _ => rfl)) (lts_cons (lt_sl (fun _ => rfl)) lts_nil))))) (lts_cons (lt_sl (fun _ => rfl)) (lts_cons rfl (lts_cons rfl lts_nil))))) (lt_tup (lts_cons (lt_sl (fun _ => rfl)) (lts_cons rfl (lts_cons rfl lts_nil)))) (s_SparseWith_ok r3 r4 r5 r6 r7 r8 r9 r10 r11 a9 a10 r12 r13 r14 hf9) (Bor.tup (Bors.cons (Bor.own (f := f32) (fun _ => rfl) rfl rfl) (Bors.cons (Bor.pure rfl) (Bors.cons (Bor.pure rfl) Bors.nil))))) <|
     (TR.l (r := tup [sl r14.length (r14.map f32), i64 r12, b r13]) rfl rfl (LOp.move rfl rfl) <|
     (TR.l (r := sl r14.length (r14.map f32)) rfl rfl (LOp.extract rfl rfl rfl) <|
     (TR.l (r := i64 r12) rfl rfl (LOp.extract rfl rfl rfl) <|
     (TR.l (r := b r13) rfl rfl (LOp.extract rfl rfl rfl) <|
     (TR.l (r := sl r14.length (r14.map f32)) rfl rfl (LOp.assign rfl rfl) <|
     (TR.l (r := i64 r12) rfl rfl (LOp.assign rfl rfl) <|
     (TR.l (r := b r13) rfl rfl (LOp.assign rfl rfl) <|
     TR.nil)))))))))))))))) rfl (by kernel_rfl) rfl fills_nil rfl ?_
    iterate 16 refine ROps.dropS ?_
    refine ROps.drop0 ?_
    refine zN ?_
    refine RunC.seq ?_
    obtain ⟨r15, r16, r17, r18, hf10, h⟩ := obind4_some h
    refine RunC.regionW ?_
    refine zL (r := agg [i64 a0, sl a1.length (a1.map i64), sl a2.length (a2.map i64), sl a3.length (a3.map f32)]) rfl rfl rfl (LOp.loadAgg agg25 siz25 rfl rfl rfl rfl) ?_
    refine ROps.d (r := agg [i64 r15, oref 0 1 0 r16.length, oref 1 1 0 r17.length, oref 2 1 0 r18.length]) (fs := [(0, (r16.map i64)), (1, (r17.map i64)), (2, (r18.map f32))]) (Γ' := [⟨1, some (r16.map i64)⟩, ⟨1, some (r17.map i64)⟩, ⟨1, some (r18.map f32)⟩, ⟨0, none⟩, ⟨0, none⟩, ⟨0, none⟩, ⟨0, none⟩, ⟨0, none⟩, ⟨0, none⟩, ⟨0, none⟩, ⟨0, none⟩]) rfl rfl rfl (TOp.callBN (ls := [(r16.map i64), (r17.map i64), (r18.map f32)]) [0, 1, 2] (CallAs.func ent9 rfl rfl) (Bors.cons (Bor.agg (Bors.cons (Bor.pure rfl) (Bors.cons (Bor.sl (fun _ => rfl)) (Bors.cons (Bor.sl (fun _ => rfl)) (Bors.cons (Bor.sl (fun _ => rfl)) Bors.nil))))) Bors.nil) rfl (w_toSparse_ok a0 a1 a2 a3 r15 r16 r17 r18 hf10) (and_all (lts0_map (f := i64) (fun _ => rfl) _) (and_all (lts0_map (f := i64) (fun _ => rfl) _) (and_all (lts0_map (f := f32) (fun _ => rfl) _) rfl))) (and_all (noss_map (f := i64) (fun _ => rfl) _) (and_all (noss_map (f := i64) (fun _ => rfl) _) (and_all (noss_map (f := f32) (fun _ => rfl) _) rfl))) rfl (by decide) (ns_of ⟨⟨_, rfl⟩, ⟨_, rfl⟩, ⟨_, rfl⟩, trivial⟩)) rfl ?_
    refine ROps.d (r := optr 3 1 0) (fs := [(3, [i64 0, nilsl, nilsl, nilsl])]) (Γ' := [⟨1, some (r16.map i64)⟩, ⟨1, some (r17.map i64)⟩, ⟨1, some (r18.map f32)⟩, ⟨1, some [i64 0, nilsl, nilsl, nilsl]⟩, ⟨0, none⟩, ⟨0, none⟩, ⟨0, none⟩, ⟨0, none⟩, ⟨0, none⟩, ⟨0, none⟩, ⟨0, none⟩]) rfl rfl rfl (TOp.alloc_o (g := ⟨0, none⟩) 3 rfl zer30 zok30 rfl) rfl ?_
    refine ROps.store_le (r := agg [i64 r15, oref 0 1 0 r16.length, oref 1 1 0 r17.length, oref 2 1 0 r18.length]) (l' := [i64 r15, oref 0 1 0 r16.length, oref 1 1 0 r17.length, oref 2 1 0 r18.length]) (Γ' := [⟨1, some (r16.map i64)⟩, ⟨1, some (r17.map i64)⟩, ⟨1, some (r18.map f32)⟩, ⟨1, some [i64 r15, oref 0 1 0 r16.length, oref 1 1 0 r17.length, oref 2 1 0 r18.length]⟩, ⟨0, none⟩, ⟨0, none⟩, ⟨0, none⟩, ⟨0, none⟩, ⟨0, none⟩, ⟨0, none⟩, ⟨0, none⟩]) rfl siz30 rfl rfl rfl aR rfl rfl rfl rfl (Nat.le_of_ble_eq_true rfl) rfl rfl ?_
    refine zN ?_
    refine RunC.seq ?_
    obtain ⟨r19, r20, r21, r22, hf11, h⟩ := obind4_some h
    refine RunC.regionW ?_
    refine zL (r := agg [i64 a4, sl a5.length (a5.map i64), sl a6.length (a6.map i64), sl a7.length (a7.map f32)]) rfl rfl rfl (LOp.loadAgg agg25 siz25 rfl rfl rfl rfl) ?_
    refine ROps.d (r := agg [i64 r19, oref 4 1 0 r20.length, oref 5 1 0 r21.length, oref 6 1 0 r22.length]) (fs := [(4, (r20.map i64)), (5, (r21.map i64)), (6, (r22.map f32))]) (Γ' := [⟨1, some (r16.map i64)⟩, ⟨1, some (r17.map i64)⟩, ⟨1, some (r18.map f32)⟩, ⟨1, some [i64 r15, oref 0 1 0 r16.length, oref 1 1 0 r17.length, oref 2 1 0 r18.length]⟩, ⟨1, some (r20.map i64)⟩, ⟨1, some (r21.map i64)⟩, ⟨1, some (r22.map f32)⟩, ⟨0, none⟩, ⟨0, none⟩, ⟨0, none⟩, ⟨0, none⟩]) rfl rfl rfl (TOp.callBN (ls := [(r20.map i64), (r21.map i64), (r22.map f32)]) [4, 5, 6] (CallAs.func ent9 rfl rfl) (Bors.cons (Bor.agg (Bors.cons (Bor.pure rfl) (Bors.cons (Bor.sl (fun _ => rfl)) (Bors.cons (Bor.sl (fun _ => rfl)) (Bors.cons (Bor.sl (fun _ => rfl)) Bors.nil))))) Bors.nil) rfl (w_toSparse_ok a4 a5 a6 a7 r19 r20 r21 r22 hf11) (and_all (lts0_map (f := i64) (fun _ => rfl) _) (and_all (lts0_map (f := i64) (fun _ => rfl) _) (and_all (lts0_map (f := f32) (fun _ => rfl) _) rfl))) (and_all (noss_map (f := i64) (fun _ => rfl) _) (and_all (noss_map (f := i64) (fun _ => rfl) _) (and_all (noss_map (f := f32) (fun _ => rfl) _) rfl))) rfl (by decide) (ns_of ⟨⟨_, rfl⟩, ⟨_, rfl⟩, ⟨_, rfl⟩, trivial⟩)) rfl ?_
    refine ROps.d (r := optr 7 1 0) (fs := [(7, [i64 0, nilsl, nilsl, nilsl])]) (Γ' := [⟨1, some (r16.map i64)⟩, ⟨1, some (r17.map i64)⟩, ⟨1, some (r18.map f32)⟩, ⟨1, some [i64 r15, oref 0 1 0 r16.length, oref 1 1 0 r17.length, oref 2 1 0 r18.length]⟩, ⟨1, some (r20.map i64)⟩, ⟨1, some (r21.map i64)⟩, ⟨1, some (r22.map f32)⟩, ⟨1, some [i64 0, nilsl, nilsl, nilsl]⟩, ⟨0, none⟩, ⟨0, none⟩, ⟨0, none⟩]) rfl rfl rfl (TOp.alloc_o (g := ⟨0, none⟩) 7 rfl zer30 zok30 rfl) rfl ?_
    refine ROps.store_le (r := agg [i64 r19, oref 4 1 0 r20.length, oref 5 1 0 r21.length, oref 6 1 0 r22.length]) (l' := [i64 r19, oref 4 1 0 r20.length, oref 5 1 0 r21.length, oref 6 1 0 r22.length]) (Γ' := [⟨1, some (r16.map i64)⟩, ⟨1, some (r17.map i64)⟩, ⟨1, some (r18.map f32)⟩, ⟨1, some [i64 r15, oref 0 1 0 r16.length, oref 1 1 0 r17.length, oref 2 1 0 r18.length]⟩, ⟨1, some (r20.map i64)⟩, ⟨1, some (r21.map i64)⟩, ⟨1, some (r22.map f32)⟩, ⟨1, some [i64 r19, oref 4 1 0 r20.length, oref 5 1 0 r21.length, oref 6 1 0 r22.length]⟩, ⟨0, none⟩, ⟨0, none⟩, ⟨0, none⟩]) rfl siz30 rfl rfl rfl aR rfl rfl rfl rfl (Nat.le_of_ble_eq_true rfl) rfl rfl ?_
    refine zN ?_
    refine RunC.seq ?_
    obtain ⟨r23, hf12, h⟩ := obind_some h
    refine RunC.regionW ?_
    refine zM (r := sl a8.length (a8.map f32)) rfl rfl rfl rfl rfl ?_
    refine ROps.d (r := oref 8 1 0 r23.length) (fs := [(8, (r23.map f32))]) (Γ' := [⟨1, some (r16.map i64)⟩, ⟨1, some (r17.map i64)⟩, ⟨1, some (r18.map f32)⟩, ⟨1, some [i64 r15, oref 0 1 0 r16.length, oref 1 1 0 r17.length, oref 2 1 0 r18.length]⟩, ⟨1, some (r20.map i64)⟩, ⟨1, some (r21.map i64)⟩, ⟨1, some (r22.map f32)⟩, ⟨1, some [i64 r19, oref 4 1 0 r20.length, oref 5 1 0 r21.length, oref 6 1 0 r22.length]⟩, ⟨1, some (r23.map f32)⟩, ⟨0, none⟩, ⟨0, none⟩]) rfl rfl rfl (TOp.callBN (ls := [(r23.map f32)]) [8] (CallAs.func ent10 rfl rfl) (Bors.cons (Bor.sl (fun _ => rfl)) Bors.nil) rfl (w_toFloat32S_ok a8 r23 hf12) (and_all (lts0_map (f := f32) (fun _ => rfl) _) rfl) (and_all (noss_map (f := f32) (fun _ => rfl) _) rfl) rfl (by decide) (ns_of ⟨⟨_, rfl⟩, trivial⟩)) rfl ?_
    refine zA (r := oref 8 1 0 r23.length) rfl rfl rfl rfl rfl ?_
    refine zN ?_
    refine RunC.wl (τ' := [(2, sl a8.length (a8.map f32)), (3, f32 a9), (4, i64 a10), (5, ptr [i64 a0, sl a1.length (a1.map i64), sl a2.length (a2.map i64), sl a3.length (a3.map f32)]), (6, ptr [i64 a4, sl a5.length (a5.map i64), sl a6.length (a6.map i64), sl a7.length (a7.map f32)]), (12, sl r14.length (r14.map f32)), (13, i64 r12), (14, b r13), (15, optr 3 1 0), (16, optr 7 1 0), (17, oref 8 1 0 r23.length)]) (Γ' := [⟨1, some (r16.map i64)⟩, ⟨1, some (r17.map i64)⟩, ⟨1, some (r18.map f32)⟩, ⟨1, some [i64 r15, oref 0 1 0 r16.length, oref 1 1 0 r17.length, oref 2 1 0 r18.length]⟩, ⟨1, some (r20.map i64)⟩, ⟨1, some (r21.map i64)⟩, ⟨1, some (r22.map f32)⟩, ⟨1, some [i64 r19, oref 4 1 0 r20.length, oref 5 1 0 r21.length, oref 6 1 0 r22.length]⟩, ⟨1, some (r23.map f32)⟩, ⟨0, none⟩, ⟨0, none⟩]) ⟨aR, aR, aR, aR, aR, aR, aR, aR, aR, aR, aR, trivial⟩ ⟨⟨rfl, .inr rfl⟩, ⟨rfl, .inr rfl⟩, ⟨rfl, .inr rfl⟩, ⟨rfl, .inr rfl⟩, ⟨rfl, .inr rfl⟩, ⟨rfl, .inr rfl⟩, ⟨rfl, .inr rfl⟩, ⟨rfl, .inr rfl⟩, ⟨rfl, .inr rfl⟩, ⟨rfl, .inr rfl⟩, ⟨rfl, .inr rfl⟩, trivial⟩ ?_
    refine RunC.seq ?_
    obtain ⟨r24, r25, r26, hf13, h⟩ := obind3_some h
    refine RunC.regionW ?_
    refine ROps.d (r := agg [i64 r15, oref 0 1 0 r16.length, oref 1 1 0 r17.length, oref 2 1 0 r18.length]) (fs := []) (Γ' := [⟨1, some (r16.map i64)⟩, ⟨1, some (r17.map i64)⟩, ⟨1, some (r18.map f32)⟩, ⟨1, some [i64 r15, oref 0 1 0 r16.length, oref 1 1 0 r17.length, oref 2 1 0 r18.length]⟩, ⟨1, some (r20.map i64)⟩, ⟨1, some (r21.map i64)⟩, ⟨1, some (r22.map f32)⟩, ⟨1, some [i64 r19, oref 4 1 0 r20.length, oref 5 1 0 r21.length, oref 6 1 0 r22.length]⟩, ⟨1, some (r23.map f32)⟩, ⟨0, none⟩, ⟨0, none⟩]) rfl rfl rfl (TOp.loadAgg_o rfl agg30 siz30 rfl rfl rfl rfl) rfl ?_
    refine ROps.d (r := agg [i64 r19, oref 4 1 0 r20.length, oref 5 1 0 r21.length, oref 6 1 0 r22.length]) (fs := []) (Γ' := [⟨1, some (r16.map i64)⟩, ⟨1, some (r17.map i64)⟩, ⟨1, some (r18.map f32)⟩, ⟨1, some [i64 r15, oref 0 1 0 r16.length, oref 1 1 0 r17.length, oref 2 1 0 r18.length]⟩, ⟨1, some (r20.map i64)⟩, ⟨1, some (r21.map i64)⟩, ⟨1, some (r22.map f32)⟩, ⟨1, some [i64 r19, oref 4 1 0 r20.length, oref 5 1 0 r21.length, oref 6 1 0 r22.length]⟩, ⟨1, some (r23.map f32)⟩, ⟨0, none⟩, ⟨0, none⟩]) rfl rfl rfl (TOp.loadAgg_o rfl agg30 siz30 rfl rfl rfl rfl) rfl ?_
    refine zM (r := oref 8 1 0 r23.length) rfl rfl rfl rfl rfl ?_
    refine zM (r := f32 a9) rfl rfl rfl rfl rfl ?_
    refine zM (r := i64 a10) rfl rfl rfl rfl rfl ?_
    refine ROps.d (r := tup [oref 9 1 0 r26.length, i64 r24, b r25]) (fs := [(9, (r26.map f32))]) (Γ' := [⟨1, some (r16.map i64)⟩, ⟨1, some (r17.map i64)⟩, ⟨1, some (r18.map f32)⟩, ⟨1, some [i64 r15, oref 0 1 0 r16.length, oref 1 1 0 r17.length, oref 2 1 0 r18.length]⟩, ⟨1, some (r20.map i64)⟩, ⟨1, some (r21.map i64)⟩, ⟨1, some (r22.map f32)⟩, ⟨1, some [i64 r19, oref 4 1 0 r20.length, oref 5 1 0 r21.length, oref 6 1 0 r22.length]⟩, ⟨1, some (r23.map f32)⟩, ⟨1, some (r26.map f32)⟩, ⟨0, none⟩]) rfl rfl rfl (TOp.callBN (ls := [(r26.map f32)]) [9] (CallAs.func ent18 rfl rfl) (Bors.cons (Bor.agg (Bors.cons (Bor.pure rfl) (Bors.cons (Bor.own (f := i64) (fun _ => rfl) rfl rfl) (Bors.cons (Bor.own (f := i64) (fun _ => rfl) rfl rfl) (Bors.cons (Bor.own (f := f32) (fun _ => rfl) rfl rfl) Bors.nil))))) (Bors.cons (Bor.agg (Bors.cons (Bor.pure rfl) (Bors.cons (Bor.own (f := i64) (fun _ => rfl) rfl rfl) (Bors.cons (Bor.own (f := i64) (fun _ => rfl) rfl rfl) (Bors.cons (Bor.own (f := f32) (fun _ => rfl) rfl rfl) Bors.nil))))) (Bors.cons (Bor.own (f := f32) (fun _ => rfl) rfl rfl) (Bors.cons (Bor.pure rfl) (Bors.cons (Bor.pure rfl) Bors.nil))))) rfl (i_SparseWith_ok r15 r16 r17 r18 r19 r20 r21 r22 r23 a9 a10 r24 r25 r26 hf13) (and_all (lts0_map (f := f32) (fun _ => rfl) _) rfl) (and_all (noss_map (f := f32) (fun _ => rfl) _) rfl) rfl (by decide) (ns_of ⟨⟨_, rfl⟩, trivial⟩)) rfl ?_
    refine zM (r := tup [oref 9 1 0 r26.length, i64 r24, b r25]) rfl rfl rfl rfl rfl ?_
    refine zL (r := oref 9 1 0 r26.length) rfl rfl rfl (LOp.extract rfl rfl rfl) ?_
    refine zL (r := i64 r24) rfl rfl rfl (LOp.extract rfl rfl rfl) ?_
    refine zL (r := b r25) rfl rfl rfl (LOp.extract rfl rfl rfl) ?_
    refine zA (r := oref 9 1 0 r26.length) rfl rfl rfl rfl rfl ?_
    refine zA (r := i64 r24) rfl rfl rfl rfl rfl ?_
    refine zA (r := b r25) rfl rfl rfl rfl rfl ?_
    refine zN ?_
    refine RunC.seq ?_
    refine RunC.seq ?_
    obtain ⟨r27, hf14, h⟩ := obind_some h
    rcases bsel_some h with ⟨hc15, h⟩ | ⟨hc15, h⟩
    ·rcases bsel_some h with ⟨hc16, h⟩ | ⟨hc16, h⟩
     ·refine RunC.regionW ?_
      refine zM (r := oref 9 1 0 r26.length) rfl rfl rfl rfl rfl ?_
      refine zM (r := sl r14.length (r14.map f32)) rfl rfl rfl rfl rfl ?_
      refine ROps.d (r := b true) (fs := []) (Γ' := [⟨1, some (r16.map i64)⟩, ⟨1, some (r17.map i64)⟩, ⟨1, some (r18.map f32)⟩, ⟨1, some [i64 r15, oref 0 1 0 r16.length, oref 1 1 0 r17.length, oref 2 1 0 r18.length]⟩, ⟨1, some (r20.map i64)⟩, ⟨1, some (r21.map i64)⟩, ⟨1, some (r22.map f32)⟩, ⟨1, some [i64 r19, oref 4 1 0 r20.length, oref 5 1 0 r21.length, oref 6 1 0 r22.length]⟩, ⟨1, some (r23.map f32)⟩, ⟨1, some (r26.map f32)⟩, ⟨0, none⟩]) rfl rfl rfl (TOp.eqb (TOp.callB (CallAs.func ent12 rfl rfl) (Bors.cons (Bor.own (f := f32) (fun _ => rfl) rfl rfl) (Bors.cons (Bor.sl (fun _ => rfl)) Bors.nil)) rfl rfl (w_eqFloat32S_ok r26 r14 r27 hf14)) hc15) rfl ?_
      refine zL (r := b false) rfl rfl rfl (LOp.eqb (LOp.not rfl rfl) rfl) ?_
      refine zM (r := b false) rfl rfl rfl rfl rfl ?_
      refine zM (r := i64 r24) rfl rfl rfl rfl rfl ?_
      refine zM (r := i64 r12) rfl rfl rfl rfl rfl ?_
      refine zL (r := b true) rfl rfl rfl (LOp.eqb (LOp.neq rfl rfl rfl) hc16) ?_
      refine zL (r := b true) rfl rfl rfl (LOp.pick_false rfl rfl rfl) ?_
      refine zM (r := b true) rfl rfl rfl rfl rfl ?_
      refine ROps.s rfl rfl rfl ?_
      refine ROps.s rfl rfl rfl ?_
      refine ROps.s rfl rfl rfl ?_
      refine zL (r := b true) rfl rfl rfl (LOp.pick_true rfl rfl rfl) ?_
      refine zN ?_
      refine RunC.cond_true rfl rfl ?_
      refine zQ ?_
      refine zA (r := b false) rfl rfl rfl rfl rfl ?_
      refine zN ?_
      refine RunC.ret ?_
      have hq := Option.some.inj h
      subst q0
      exact bodyQ.pure (.inr rfl) rfl (Res.one rfl (RV.tmp rfl))
     ·rcases bsel_some h with ⟨hc17, h⟩ | ⟨hc17, h⟩
      ·refine RunC.regionW ?_
       refine zM (r := oref 9 1 0 r26.length) rfl rfl rfl rfl rfl ?_
       refine zM (r := sl r14.length (r14.map f32)) rfl rfl rfl rfl rfl ?_
       refine ROps.d (r := b true) (fs := []) (Γ' := [⟨1, some (r16.map i64)⟩, ⟨1, some (r17.map i64)⟩, ⟨1, some (r18.map f32)⟩, ⟨1, some [i64 r15, oref 0 1 0 r16.length, oref 1 1 0 r17.length, oref 2 1 0 r18.length]⟩, ⟨1, some (r20.map i64)⟩, ⟨1, some (r21.map i64)⟩, ⟨1, some (r22.map f32)⟩, ⟨1, some [i64 r19, oref 4 1 0 r20.length, oref 5 1 0 r21.length, oref 6 1 0 r22.length]⟩, ⟨1, some (r23.map f32)⟩, ⟨1, some (r26.map f32)⟩, ⟨0, none⟩]) rfl rfl rfl (TOp.eqb (TOp.callB (CallAs.func ent12 rfl rfl) (Bors.cons (Bor.own (f := f32) (fun _ => rfl) rfl rfl) (Bors.cons (Bor.sl (fun _ => rfl)) Bors.nil)) rfl rfl (w_eqFloat32S_ok r26 r14 r27 hf14)) hc15) rfl ?_
       refine zL (r := b false) rfl rfl rfl (LOp.eqb (LOp.not rfl rfl) rfl) ?_
       refine zM (r := b false) rfl rfl rfl rfl rfl ?_
       refine zM (r := i64 r24) rfl rfl rfl rfl rfl ?_
       refine zM (r := i64 r12) rfl rfl rfl rfl rfl ?_
       refine zL (r := b false) rfl rfl rfl (LOp.eqb (LOp.neq rfl rfl rfl) hc16) ?_
       refine zL (r := b false) rfl rfl rfl (LOp.pick_false rfl rfl rfl) ?_
       refine zM (r := b false) rfl rfl rfl rfl rfl ?_
       refine zM (r := b r25) rfl rfl rfl rfl rfl ?_
       refine zM (r := b r13) rfl rfl rfl rfl rfl ?_
       refine zL (r := b true) rfl rfl rfl (LOp.eqb (LOp.neqb pun4 rfl rfl rfl) hc17) ?_
       refine zL (r := b true) rfl rfl rfl (LOp.pick_false rfl rfl rfl) ?_
       refine zN ?_
       refine RunC.cond_true rfl rfl ?_
       refine zQ ?_
       refine zA (r := b false) rfl rfl rfl rfl rfl ?_
       refine zN ?_
       refine RunC.ret ?_
       have hq := Option.some.inj h
       subst q0
       exact bodyQ.pure (.inr rfl) rfl (Res.one rfl (RV.tmp rfl))
      ·refine RunC.regionW ?_
       refine zM (r := oref 9 1 0 r26.length) rfl rfl rfl rfl rfl ?_
       refine zM (r := sl r14.length (r14.map f32)) rfl rfl rfl rfl rfl ?_
       refine ROps.d (r := b true) (fs := []) (Γ' := [⟨1, some (r16.map i64)⟩, ⟨1, some (r17.map i64)⟩, ⟨1, some (r18.map f32)⟩, ⟨1, some [i64 r15, oref 0 1 0 r16.length, oref 1 1 0 r17.length, oref 2 1 0 r18.length]⟩, ⟨1, some (r20.map i64)⟩, ⟨1, some (r21.map i64)⟩, ⟨1, some (r22.map f32)⟩, ⟨1, some [i64 r19, oref 4 1 0 r20.length, oref 5 1 0 r21.length, oref 6 1 0 r22.length]⟩, ⟨1, some (r23.map f32)⟩, ⟨1, some (r26.map f32)⟩, ⟨0, none⟩]) rfl rfl rfl (TOp.eqb (TOp.callB (CallAs.func ent12 rfl rfl) (Bors.cons (Bor.own (f := f32) (fun _ => rfl) rfl rfl) (Bors.cons (Bor.sl (fun _ => rfl)) Bors.nil)) rfl rfl (w_eqFloat32S_ok r26 r14 r27 hf14)) hc15) rfl ?_
       refine zL (r := b false) rfl rfl rfl (LOp.eqb (LOp.not rfl rfl) rfl) ?_
       refine zM (r := b false) rfl rfl rfl rfl rfl ?_
       refine zM (r := i64 r24) rfl rfl rfl rfl rfl ?_
       refine zM (r := i64 r12) rfl rfl rfl rfl rfl ?_
       refine zL (r := b false) rfl rfl rfl (LOp.eqb (LOp.neq rfl rfl rfl) hc16) ?_
       refine zL (r := b false) rfl rfl rfl (LOp.pick_false rfl rfl rfl) ?_
       refine zM (r := b false) rfl rfl rfl rfl rfl ?_
       refine zM (r := b r25) rfl rfl rfl rfl rfl ?_
       refine zM (r := b r13) rfl rfl rfl rfl rfl ?_
       refine zL (r := b false) rfl rfl rfl (LOp.eqb (LOp.neqb pun4 rfl rfl rfl) hc17) ?_
       refine zL (r := b false) rfl rfl rfl (LOp.pick_false rfl rfl rfl) ?_
       refine zN ?_
       refine RunC.cond_false rfl rfl ?_
       refine RunC.skip ?_
       refine RunC.seq ?_
       refine RunC.seq ?_
       obtain ⟨r28, r29, r30, r31, hf18, h⟩ := obind4_some h
       obtain ⟨r32, hf19, h⟩ := obind_some h
       rcases bsel_some h with ⟨hc20, h⟩ | ⟨hc20, h⟩
       ·refine RunC.region_draw (Γ' := [⟨1, some (r16.map i64)⟩, ⟨1, some (r17.map i64)⟩, ⟨1, some (r18.map f32)⟩, ⟨1, some [i64 r15, oref 0 1 0 r16.length, oref 1 1 0 r17.length, oref 2 1 0 r18.length]⟩, ⟨1, some (r20.map i64)⟩, ⟨1, some (r21.map i64)⟩, ⟨1, some (r22.map f32)⟩, ⟨1, some [i64 r19, oref 4 1 0 r20.length, oref 5 1 0 r21.length, oref 6 1 0 r22.length]⟩, ⟨1, some (r23.map f32)⟩, ⟨1, some (r26.map f32)⟩, ⟨0, none⟩]) 5 mixed 
         (TR.d (r := agg [i64 r15, oref 0 1 0 r16.length, oref 1 1 0 r17.length, oref 2 1 0 r18.length]) (fs := []) rfl rfl (TOp.loadAgg_o rfl agg30 siz30 rfl rfl rfl rfl) <|
         (TR.l (r := agg [i64 a0, sl a1.length (a1.map i64), sl a2.length (a2.map i64), sl a3.length (a3.map f32)]) rfl rfl (LOp.loadAgg agg25 siz25 rfl rfl rfl rfl) <|
         (TR.d (r := agg [i64 r28, sl r29.length (r29.map i64), sl r30.length (r30.map i64), sl r31.length (r31.map f32)]) (fs := []) rfl rfl (TOp.callS (CallAs.func ent9 rfl rfl) (ALes.cons aR ALes.nil) (lts_cons (lt_agg (lts_cons rfl (lts_cons (lt_sl (fun _ => rfl)) (lts_cons (lt_sl (fun _ => rfl)) (lts_cons (lt_sl (fun _ => rfl)) lts_nil))))) lts_nil) (lt_agg (lts_cons rfl (lts_cons (lt_sl (fun _ => rfl)) (lts_cons (lt_sl (fun _ => rfl)) (lts_cons (lt_sl (fun _ => rfl)) lts_nil))))) (w_toSparse_ok a0 a1 a2 a3 r28 r29 r30 r31 hf18) (Bor.agg (Bors.cons (Bor.pure rfl) (Bors.cons (Bor.own (f := i64) (fun _ => rfl) rfl rfl) (Bors.cons (Bor.own (f := i64) (fun _ => rfl) rfl rfl) (Bors.cons (Bor.own (f := f32) (fun _ => rfl) rfl rfl) Bors.nil)))))) <|
         (TR.d (r := b true) (fs := []) rfl rfl (TOp.eqb (TOp.callB (CallAs.func ent13 rfl rfl) (Bors.cons (Bor.agg (Bors.cons (Bor.pure rfl) (Bors.cons (Bor.own (f := i64) (fun _ => rfl) rfl rfl) (Bors.cons (Bor.own (f := i64) (fun _ => rfl) rfl rfl) (Bors.cons (Bor.own (f := f32) (fun _ => rfl) rfl rfl) Bors.nil))))) (Bors.cons (Bor.agg (Bors.cons (Bor.pure rfl) (Bors.cons (Bor.sl (fun _ => rfl)) (Bors.cons (Bor.sl (fun _ => rfl)) (Bors.cons (Bor.sl (fun _ => rfl)) Bors.nil))))) Bors.nil)) rfl rfl (w_eqSparse_ok r15 r16 r17 r18 r28 r29 r30 r31 r32 hf19)) hc20) <|
         (TR.l (r := b false) rfl rfl (LOp.eqb (LOp.not rfl rfl) rfl) <|
         TR.nil))))) rfl (by kernel_rfl) rfl fills_nil rfl ?_
        iterate 5 refine ROps.dropS ?_
        refine ROps.drop0 ?_
        refine zN ?_
        refine RunC.cond_false rfl rfl ?_
        refine RunC.skip ?_
        refine RunC.wl (τ' := [(2, sl a8.length (a8.map f32)), (3, f32 a9), (4, i64 a10), (5, ptr [i64 a0, sl a1.length (a1.map i64), sl a2.length (a2.map i64), sl a3.length (a3.map f32)]), (6, ptr [i64 a4, sl a5.length (a5.map i64), sl a6.length (a6.map i64), sl a7.length (a7.map f32)]), (12, sl r14.length (r14.map f32)), (13, i64 r12), (14, b r13), (15, optr 3 1 0), (16, optr 7 1 0), (17, oref 8 1 0 r23.length), (18, oref 9 1 0 r26.length), (19, i64 r24), (20, b r25)]) (Γ' := [⟨1, some (r16.map i64)⟩, ⟨1, some (r17.map i64)⟩, ⟨1, some (r18.map f32)⟩, ⟨1, some [i64 r15, oref 0 1 0 r16.length, oref 1 1 0 r17.length, oref 2 1 0 r18.length]⟩, ⟨1, some (r20.map i64)⟩, ⟨1, some (r21.map i64)⟩, ⟨1, some (r22.map f32)⟩, ⟨1, some [i64 r19, oref 4 1 0 r20.length, oref 5 1 0 r21.length, oref 6 1 0 r22.length]⟩, ⟨1, some (r23.map f32)⟩, ⟨1, some (r26.map f32)⟩, ⟨0, none⟩]) ⟨aR, aR, aR, aR, aR, aR, aR, aR, aR, aR, aR, aR, aR, aR, trivial⟩ ⟨⟨rfl, .inr rfl⟩, ⟨rfl, .inr rfl⟩, ⟨rfl, .inr rfl⟩, ⟨rfl, .inr rfl⟩, ⟨rfl, .inr rfl⟩, ⟨rfl, .inr rfl⟩, ⟨rfl, .inr rfl⟩, ⟨rfl, .inr rfl⟩, ⟨rfl, .inr rfl⟩, ⟨rfl, .inr rfl⟩, ⟨rfl, .inr rfl⟩, trivial⟩ ?_
        refine RunC.seq ?_
        refine RunC.seq ?_
        obtain ⟨r33, r34, r35, r36, hf21, h⟩ := obind4_some h
        obtain ⟨r37, hf22, h⟩ := obind_some h
        rcases bsel_some h with ⟨hc23, h⟩ | ⟨hc23, h⟩
        ·refine RunC.region_draw (Γ' := [⟨1, some (r16.map i64)⟩, ⟨1, some (r17.map i64)⟩, ⟨1, some (r18.map f32)⟩, ⟨1, some [i64 r15, oref 0 1 0 r16.length, oref 1 1 0 r17.length, oref 2 1 0 r18.length]⟩, ⟨1, some (r20.map i64)⟩, ⟨1, some (r21.map i64)⟩, ⟨1, some (r22.map f32)⟩, ⟨1, some [i64 r19, oref 4 1 0 r20.length, oref 5 1 0 r21.length, oref 6 1 0 r22.length]⟩, ⟨1, some (r23.map f32)⟩, ⟨1, some (r26.map f32)⟩, ⟨0, none⟩]) 5 mixed 
          (TR.d (r := agg [i64 r19, oref 4 1 0 r20.length, oref 5 1 0 r21.length, oref 6 1 0 r22.length]) (fs := []) rfl rfl (TOp.loadAgg_o rfl agg30 siz30 rfl rfl rfl rfl) <|
          (TR.l (r := agg [i64 a4, sl a5.length (a5.map i64), sl a6.length (a6.map i64), sl a7.length (a7.map f32)]) rfl rfl (LOp.loadAgg agg25 siz25 rfl rfl rfl rfl) <|
          (TR.d (r := agg [i64 r33, sl r34.length (r34.map i64), sl r35.length (r35.map i64), sl r36.length (r36.map f32)]) (fs := []) rfl rfl (TOp.callS (CallAs.func ent9 rfl rfl) (ALes.cons aR ALes.nil) (lts_cons (lt_agg (lts_cons rfl (lts_cons (lt_sl (fun _ => rfl)) (lts_cons (lt_sl (fun _ => rfl)) (lts_cons (lt_sl (fun _ => rfl)) lts_nil))))) lts_nil) (lt_agg (lts_cons rfl (lts_cons (lt_sl (fun _ => rfl)) (lts_cons (lt_sl (fun _ => rfl)) (lts_cons (lt_sl (fun _ => rfl)) lts_nil))))) (w_toSparse_ok a4 a5 a6 a7 r33 r34 r35 r36 hf21) (Bor.agg (Bors.cons (Bor.pure rfl) (Bors.cons (Bor.own (f := i64) (fun _ => rfl) rfl rfl) (Bors.cons (Bor.own (f := i64) (fun _ => rfl) rfl rfl) (Bors.cons (Bor.own (f := f32) (fun _ => rfl) rfl rfl) Bors.nil)))))) <|
          (TR.d (r := b true) (fs := []) rfl rfl (TOp.eqb (TOp.callB (CallAs.func ent13 rfl rfl) (Bors.cons (Bor.agg (Bors.cons (Bor.pure rfl) (Bors.cons (Bor.own (f := i64) (fun _ => rfl) rfl rfl) (Bors.cons (Bor.own (f := i64) (fun _ => rfl) rfl rfl) (Bors.cons (Bor.own (f := f32) (fun _ => rfl) rfl rfl) Bors.nil))))) (Bors.cons (Bor.agg (Bors.cons (Bor.pure rfl) (Bors.cons (Bor.sl (fun _ => rfl)) (Bors.cons (Bor.sl (fun _ => rfl)) (Bors.cons (Bor.sl (fun _ => rfl)) Bors.nil))))) Bors.nil)) rfl rfl (w_eqSparse_ok r19 r20 r21 r22 r33 r34 r35 r36 r37 hf22)) hc23) <|
          (TR.l (r := b false) rfl rfl (LOp.eqb (LOp.not rfl rfl) rfl) <|
          TR.nil))))) rfl (by kernel_rfl) rfl fills_nil rfl ?_
         iterate 5 refine ROps.dropS ?_
         refine ROps.drop0 ?_
         refine zN ?_
         refine RunC.cond_false rfl rfl ?_
         refine RunC.skip ?_
         refine RunC.seq ?_
         refine RunC.seq ?_
         obtain ⟨r38, hf24, h⟩ := obind_some h
         obtain ⟨r39, hf25, h⟩ := obind_some h
         rcases bsel_some h with ⟨hc26, h⟩ | ⟨hc26, h⟩
         ·refine RunC.regionW ?_
          refine zM (r := oref 8 1 0 r23.length) rfl rfl rfl rfl rfl ?_
          refine zM (r := sl a8.length (a8.map f32)) rfl rfl rfl rfl rfl ?_
          refine ROps.d (r := oref 10 1 0 r38.length) (fs := [(10, (r38.map f32))]) (Γ' := [⟨1, some (r16.map i64)⟩, ⟨1, some (r17.map i64)⟩, ⟨1, some (r18.map f32)⟩, ⟨1, some [i64 r15, oref 0 1 0 r16.length, oref 1 1 0 r17.length, oref 2 1 0 r18.length]⟩, ⟨1, some (r20.map i64)⟩, ⟨1, some (r21.map i64)⟩, ⟨1, some (r22.map f32)⟩, ⟨1, some [i64 r19, oref 4 1 0 r20.length, oref 5 1 0 r21.length, oref 6 1 0 r22.length]⟩, ⟨1, some (r23.map f32)⟩, ⟨1, some (r26.map f32)⟩, ⟨1, some (r38.map f32)⟩]) rfl rfl rfl (TOp.callBN (ls := [(r38.map f32)]) [10] (CallAs.func ent10 rfl rfl) (Bors.cons (Bor.sl (fun _ => rfl)) Bors.nil) rfl (w_toFloat32S_ok a8 r38 hf24) (and_all (lts0_map (f := f32) (fun _ => rfl) _) rfl) (and_all (noss_map (f := f32) (fun _ => rfl) _) rfl) rfl (by decide) (ns_of ⟨⟨_, rfl⟩, trivial⟩)) rfl ?_
          refine ROps.d (r := b true) (fs := []) (Γ' := [⟨1, some (r16.map i64)⟩, ⟨1, some (r17.map i64)⟩, ⟨1, some (r18.map f32)⟩, ⟨1, some [i64 r15, oref 0 1 0 r16.length, oref 1 1 0 r17.length, oref 2 1 0 r18.length]⟩, ⟨1, some (r20.map i64)⟩, ⟨1, some (r21.map i64)⟩, ⟨1, some (r22.map f32)⟩, ⟨1, some [i64 r19, oref 4 1 0 r20.length, oref 5 1 0 r21.length, oref 6 1 0 r22.length]⟩, ⟨1, some (r23.map f32)⟩, ⟨1, some (r26.map f32)⟩, ⟨1, some (r38.map f32)⟩]) rfl rfl rfl (TOp.eqb (TOp.callB (CallAs.func ent12 rfl rfl) (Bors.cons (Bor.own (f := f32) (fun _ => rfl) rfl rfl) (Bors.cons (Bor.own (f := f32) (fun _ => rfl) rfl rfl) Bors.nil)) rfl rfl (w_eqFloat32S_ok r23 r38 r39 hf25)) hc26) rfl ?_
          refine zL (r := b false) rfl rfl rfl (LOp.eqb (LOp.not rfl rfl) rfl) ?_
          refine zN ?_
          refine RunC.wl (τ' := [(2, sl a8.length (a8.map f32)), (3, f32 a9), (4, i64 a10), (5, ptr [i64 a0, sl a1.length (a1.map i64), sl a2.length (a2.map i64), sl a3.length (a3.map f32)]), (6, ptr [i64 a4, sl a5.length (a5.map i64), sl a6.length (a6.map i64), sl a7.length (a7.map f32)]), (12, sl r14.length (r14.map f32)), (13, i64 r12), (14, b r13), (15, optr 3 1 0), (16, optr 7 1 0), (17, oref 8 1 0 r23.length), (18, oref 9 1 0 r26.length), (19, i64 r24), (20, b r25), (97, b false)]) (Γ' := [⟨1, some (r16.map i64)⟩, ⟨1, some (r17.map i64)⟩, ⟨1, some (r18.map f32)⟩, ⟨1, some [i64 r15, oref 0 1 0 r16.length, oref 1 1 0 r17.length, oref 2 1 0 r18.length]⟩, ⟨1, some (r20.map i64)⟩, ⟨1, some (r21.map i64)⟩, ⟨1, some (r22.map f32)⟩, ⟨1, some [i64 r19, oref 4 1 0 r20.length, oref 5 1 0 r21.length, oref 6 1 0 r22.length]⟩, ⟨1, some (r23.map f32)⟩, ⟨1, some (r26.map f32)⟩, ⟨1, none⟩]) ⟨aR, aR, aR, aR, aR, aR, aR, aR, aR, aR, aR, aR, aR, aR, aR, trivial⟩ ⟨⟨rfl, .inr rfl⟩, ⟨rfl, .inr rfl⟩, ⟨rfl, .inr rfl⟩, ⟨rfl, .inr rfl⟩, ⟨rfl, .inr rfl⟩, ⟨rfl, .inr rfl⟩, ⟨rfl, .inr rfl⟩, ⟨rfl, .inr rfl⟩, ⟨rfl, .inr rfl⟩, ⟨rfl, .inr rfl⟩, ⟨rfl, .inl rfl⟩, trivial⟩ ?_
          refine RunC.cond_false rfl rfl ?_
          refine RunC.skip ?_
          refine zQ ?_
          refine zA (r := i64 1) rfl rfl rfl rfl rfl ?_
          refine zN ?_
          refine RunC.seq ?_
          obtain ⟨r40, r41, r42, r43, hf27, h⟩ := obind4_some h
          obtain ⟨hn28, h⟩ := need_some h
          obtain ⟨hn29, h⟩ := need_some h
          obtain ⟨hn30, h⟩ := need_some h
          refine RunC.regionW ?_
          refine ROps.d (r := agg [i64 r15, oref 0 1 0 r16.length, oref 1 1 0 r17.length, oref 2 1 0 r18.length]) (fs := []) (Γ' := [⟨1, some (r16.map i64)⟩, ⟨1, some (r17.map i64)⟩, ⟨1, some (r18.map f32)⟩, ⟨1, some [i64 r15, oref 0 1 0 r16.length, oref 1 1 0 r17.length, oref 2 1 0 r18.length]⟩, ⟨1, some (r20.map i64)⟩, ⟨1, some (r21.map i64)⟩, ⟨1, some (r22.map f32)⟩, ⟨1, some [i64 r19, oref 4 1 0 r20.length, oref 5 1 0 r21.length, oref 6 1 0 r22.length]⟩, ⟨1, some (r23.map f32)⟩, ⟨1, some (r26.map f32)⟩, ⟨1, none⟩]) rfl rfl rfl (TOp.loadAgg_o rfl agg30 siz30 rfl rfl rfl rfl) rfl ?_
          refine zM (r := i64 1) rfl rfl rfl rfl rfl ?_
          refine ROps.callO (A := [agg [i64 r15, oref 0 1 0 r16.length, oref 1 1 0 r17.length, oref 2 1 0 r18.length], i64 1]) (args := [agg [i64 r15, oref 0 0 0 r16.length, oref 1 0 0 r17.length, oref 2 0 0 r18.length], i64 1]) (Γc := [⟨0, some (r16.map i64)⟩, ⟨0, some (r17.map i64)⟩, ⟨0, some (r18.map f32)⟩]) (Γc' := [⟨0, some (r41.map i64)⟩, ⟨0, some (r42.map i64)⟩, ⟨0, some (r43.map f32)⟩]) (r' := i64 r40) (Γ' := [⟨1, some (r41.map i64)⟩, ⟨1, some (r42.map i64)⟩, ⟨1, some (r43.map f32)⟩, ⟨1, some [i64 r15, oref 0 1 0 r16.length, oref 1 1 0 r17.length, oref 2 1 0 r18.length]⟩, ⟨1, some (r20.map i64)⟩, ⟨1, some (r21.map i64)⟩, ⟨1, some (r22.map f32)⟩, ⟨1, some [i64 r19, oref 4 1 0 r20.length, oref 5 1 0 r21.length, oref 6 1 0 r22.length]⟩, ⟨1, some (r23.map f32)⟩, ⟨1, some (r26.map f32)⟩, ⟨1, none⟩]) [(0, 1), (1, 1), (2, 1)] [] rfl (CallAs.func ent14 rfl rfl) rfl rfl (SelOk.of (show List.Nodup [0, 1, 2] from by decide) (SelL.arr0 (f := i64) (fun _ => rfl) rfl (SelL.arr0 (f := i64) (fun _ => rfl) rfl (SelL.arr0 (f := f32) (fun _ => rfl) rfl trivial)))) (live_of ⟨⟨_, _, rfl⟩, ⟨_, _, rfl⟩, ⟨_, _, rfl⟩, trivial⟩) (by simp [ren, rens, sigma, rens_f32, rens_f64, rens_i64, rens_ik, rens_str, rens_cp]) rfl (w_markSparse_01o_02o1_03o2_ok r15 1 r16 r17 r18 r40 r41 r42 r43 hf27) rfl (news_of trivial) (show List.Nodup [0, 1, 2] from by decide) (by simp [ren, rens, sigma, of_decide_eq_true hn28, of_decide_eq_true hn29, of_decide_eq_true hn30]) (by simp [backOb, sigma, ren, rens, rens_f32, rens_f64, rens_i64, rens_ik, rens_str, rens_cp]) ?_
          refine zA (r := i64 r40) rfl rfl rfl rfl rfl ?_
          refine zN ?_
          refine RunC.wl (τ' := [(2, sl a8.length (a8.map f32)), (3, f32 a9), (4, i64 a10), (5, ptr [i64 a0, sl a1.length (a1.map i64), sl a2.length (a2.map i64), sl a3.length (a3.map f32)]), (6, ptr [i64 a4, sl a5.length (a5.map i64), sl a6.length (a6.map i64), sl a7.length (a7.map f32)]), (12, sl r14.length (r14.map f32)), (13, i64 r12), (14, b r13), (16, optr 7 1 0), (17, oref 8 1 0 r23.length), (18, oref 9 1 0 r26.length), (19, i64 r24), (20, b r25), (21, i64 r40)]) (Γ' := [⟨1, none⟩, ⟨1, none⟩, ⟨1, none⟩, ⟨1, none⟩, ⟨1, some (r20.map i64)⟩, ⟨1, some (r21.map i64)⟩, ⟨1, some (r22.map f32)⟩, ⟨1, some [i64 r19, oref 4 1 0 r20.length, oref 5 1 0 r21.length, oref 6 1 0 r22.length]⟩, ⟨1, some (r23.map f32)⟩, ⟨1, some (r26.map f32)⟩, ⟨1, none⟩]) ⟨aR, aR, aR, aR, aR, aR, aR, aR, aR, aR, aR, aR, aR, aR, trivial⟩ ⟨⟨rfl, .inl rfl⟩, ⟨rfl, .inl rfl⟩, ⟨rfl, .inl rfl⟩, ⟨rfl, .inl rfl⟩, ⟨rfl, .inr rfl⟩, ⟨rfl, .inr rfl⟩, ⟨rfl, .inr rfl⟩, ⟨rfl, .inr rfl⟩, ⟨rfl, .inr rfl⟩, ⟨rfl, .inr rfl⟩, ⟨rfl, .inl rfl⟩, trivial⟩ ?_
          refine RunC.seq ?_
          obtain ⟨r44, r45, r46, r47, hf31, h⟩ := obind4_some h
          obtain ⟨hn32, h⟩ := need_some h
          obtain ⟨hn33, h⟩ := need_some h
          obtain ⟨hn34, h⟩ := need_some h
          refine RunC.regionW ?_
          refine ROps.d (r := agg [i64 r19, oref 4 1 0 r20.length, oref 5 1 0 r21.length, oref 6 1 0 r22.length]) (fs := []) (Γ' := [⟨1, none⟩, ⟨1, none⟩, ⟨1, none⟩, ⟨1, none⟩, ⟨1, some (r20.map i64)⟩, ⟨1, some (r21.map i64)⟩, ⟨1, some (r22.map f32)⟩, ⟨1, some [i64 r19, oref 4 1 0 r20.length, oref 5 1 0 r21.length, oref 6 1 0 r22.length]⟩, ⟨1, some (r23.map f32)⟩, ⟨1, some (r26.map f32)⟩, ⟨1, none⟩]) rfl rfl rfl (TOp.loadAgg_o rfl agg30 siz30 rfl rfl rfl rfl) rfl ?_
          refine zM (r := i64 r40) rfl rfl rfl rfl rfl ?_
          refine ROps.callO (A := [agg [i64 r19, oref 4 1 0 r20.length, oref 5 1 0 r21.length, oref 6 1 0 r22.length], i64 r40]) (args := [agg [i64 r19, oref 0 0 0 r20.length, oref 1 0 0 r21.length, oref 2 0 0 r22.length], i64 r40]) (Γc := [⟨0, some (r20.map i64)⟩, ⟨0, some (r21.map i64)⟩, ⟨0, some (r22.map f32)⟩]) (Γc' := [⟨0, some (r45.map i64)⟩, ⟨0, some (r46.map i64)⟩, ⟨0, some (r47.map f32)⟩]) (r' := i64 r44) (Γ' := [⟨1, none⟩, ⟨1, none⟩, ⟨1, none⟩, ⟨1, none⟩, ⟨1, some (r45.map i64)⟩, ⟨1, some (r46.map i64)⟩, ⟨1, some (r47.map f32)⟩, ⟨1, some [i64 r19, oref 4 1 0 r20.length, oref 5 1 0 r21.length, oref 6 1 0 r22.length]⟩, ⟨1, some (r23.map f32)⟩, ⟨1, some (r26.map f32)⟩, ⟨1, none⟩]) [(4, 1), (5, 1), (6, 1)] [] rfl (CallAs.func ent14 rfl rfl) rfl rfl (SelOk.of (show List.Nodup [4, 5, 6] from by decide) (SelL.arr0 (f := i64) (fun _ => rfl) rfl (SelL.arr0 (f := i64) (fun _ => rfl) rfl (SelL.arr0 (f := f32) (fun _ => rfl) rfl trivial)))) (live_of ⟨⟨_, _, rfl⟩, ⟨_, _, rfl⟩, ⟨_, _, rfl⟩, trivial⟩) (by simp [ren, rens, sigma, rens_f32, rens_f64, rens_i64, rens_ik, rens_str, rens_cp]) rfl (w_markSparse_01o_02o1_03o2_ok r19 r40 r20 r21 r22 r44 r45 r46 r47 hf31) rfl (news_of trivial) (show List.Nodup [4, 5, 6] from by decide) (by simp [ren, rens, sigma, of_decide_eq_true hn32, of_decide_eq_true hn33, of_decide_eq_true hn34]) (by simp [backOb, sigma, ren, rens, rens_f32, rens_f64, rens_i64, rens_ik, rens_str, rens_cp]) ?_
          refine zA (r := i64 r44) rfl rfl rfl rfl rfl ?_
          refine zN ?_
          refine RunC.wl (τ' := [(2, sl a8.length (a8.map f32)), (3, f32 a9), (4, i64 a10), (5, ptr [i64 a0, sl a1.length (a1.map i64), sl a2.length (a2.map i64), sl a3.length (a3.map f32)]), (6, ptr [i64 a4, sl a5.length (a5.map i64), sl a6.length (a6.map i64), sl a7.length (a7.map f32)]), (12, sl r14.length (r14.map f32)), (13, i64 r12), (14, b r13), (17, oref 8 1 0 r23.length), (18, oref 9 1 0 r26.length), (19, i64 r24), (20, b r25), (21, i64 r44)]) (Γ' := [⟨1, none⟩, ⟨1, none⟩, ⟨1, none⟩, ⟨1, none⟩, ⟨1, none⟩, ⟨1, none⟩, ⟨1, none⟩, ⟨1, none⟩, ⟨1, some (r23.map f32)⟩, ⟨1, some (r26.map f32)⟩, ⟨1, none⟩]) ⟨aR, aR, aR, aR, aR, aR, aR, aR, aR, aR, aR, aR, aR, trivial⟩ ⟨⟨rfl, .inl rfl⟩, ⟨rfl, .inl rfl⟩, ⟨rfl, .inl rfl⟩, ⟨rfl, .inl rfl⟩, ⟨rfl, .inl rfl⟩, ⟨rfl, .inl rfl⟩, ⟨rfl, .inl rfl⟩, ⟨rfl, .inl rfl⟩, ⟨rfl, .inr rfl⟩, ⟨rfl, .inr rfl⟩, ⟨rfl, .inl rfl⟩, trivial⟩ ?_
          refine RunC.seq ?_
          obtain ⟨r48, r49, hf35, h⟩ := obind2_some h
          obtain ⟨hn36, h⟩ := need_some h
          refine RunC.regionW ?_
          refine zM (r := oref 8 1 0 r23.length) rfl rfl rfl rfl rfl ?_
          refine zM (r := i64 r44) rfl rfl rfl rfl rfl ?_
          refine ROps.callO (A := [oref 8 1 0 r23.length, i64 r44]) (args := [oref 0 0 0 r23.length, i64 r44]) (Γc := [⟨0, some (r23.map f32)⟩]) (Γc' := [⟨0, some (r49.map f32)⟩]) (r' := i64 r48) (Γ' := [⟨1, none⟩, ⟨1, none⟩, ⟨1, none⟩, ⟨1, none⟩, ⟨1, none⟩, ⟨1, none⟩, ⟨1, none⟩, ⟨1, none⟩, ⟨1, some (r49.map f32)⟩, ⟨1, some (r26.map f32)⟩, ⟨1, none⟩]) [(8, 1)] [] rfl (CallAs.func ent15 rfl rfl) rfl rfl (SelOk.of (show List.Nodup [8] from by decide) (SelL.arr0 (f := f32) (fun _ => rfl) rfl trivial)) (live_of ⟨⟨_, _, rfl⟩, trivial⟩) (by simp [ren, rens, sigma, rens_f32, rens_f64, rens_i64, rens_ik, rens_str, rens_cp]) rfl (w_markFloat32S_0o_ok r44 r23 r48 r49 hf35) rfl (news_of trivial) (show List.Nodup [8] from by decide) (by simp [ren, rens, sigma, of_decide_eq_true hn36]) (by simp [backOb, sigma, ren, rens, rens_f32, rens_f64, rens_i64, rens_ik, rens_str, rens_cp]) ?_
          refine zA (r := i64 r48) rfl rfl rfl rfl rfl ?_
          refine zN ?_
          refine RunC.wl (τ' := [(2, sl a8.length (a8.map f32)), (3, f32 a9), (4, i64 a10), (5, ptr [i64 a0, sl a1.length (a1.map i64), sl a2.length (a2.map i64), sl a3.length (a3.map f32)]), (6, ptr [i64 a4, sl a5.length (a5.map i64), sl a6.length (a6.map i64), sl a7.length (a7.map f32)]), (12, sl r14.length (r14.map f32)), (13, i64 r12), (14, b r13), (18, oref 9 1 0 r26.length), (19, i64 r24), (20, b r25), (21, i64 r48)]) (Γ' := [⟨1, none⟩, ⟨1, none⟩, ⟨1, none⟩, ⟨1, none⟩, ⟨1, none⟩, ⟨1, none⟩, ⟨1, none⟩, ⟨1, none⟩, ⟨1, none⟩, ⟨1, some (r26.map f32)⟩, ⟨1, none⟩]) ⟨aR, aR, aR, aR, aR, aR, aR, aR, aR, aR, aR, aR, trivial⟩ ⟨⟨rfl, .inl rfl⟩, ⟨rfl, .inl rfl⟩, ⟨rfl, .inl rfl⟩, ⟨rfl, .inl rfl⟩, ⟨rfl, .inl rfl⟩, ⟨rfl, .inl rfl⟩, ⟨rfl, .inl rfl⟩, ⟨rfl, .inl rfl⟩, ⟨rfl, .inl rfl⟩, ⟨rfl, .inr rfl⟩, ⟨rfl, .inl rfl⟩, trivial⟩ ?_
          refine RunC.seq ?_
          refine RunC.seq ?_
          rcases bsel_some h with ⟨hc37, h⟩ | ⟨hc37, h⟩
          ·refine RunC.regionW ?_
           refine zM (r := i64 r48) rfl rfl rfl rfl rfl ?_
           refine zL (r := b true) rfl rfl rfl (LOp.eqb (LOp.lss rfl rfl rfl) hc37) ?_
           refine zM (r := b true) rfl rfl rfl rfl rfl ?_
           refine ROps.s rfl rfl rfl ?_
           refine ROps.s rfl rfl rfl ?_
           refine ROps.s rfl rfl rfl ?_
           refine ROps.s rfl rfl rfl ?_
           refine zL (r := b true) rfl rfl rfl (LOp.pick_true rfl rfl rfl) ?_
           refine zM (r := b true) rfl rfl rfl rfl rfl ?_
           refine ROps.s rfl rfl rfl ?_
           refine ROps.s rfl rfl rfl ?_
           refine ROps.s rfl rfl rfl ?_
           refine zL (r := b true) rfl rfl rfl (LOp.pick_true rfl rfl rfl) ?_
           refine zM (r := b true) rfl rfl rfl rfl rfl ?_
           refine ROps.s rfl rfl rfl ?_
           refine ROps.s rfl rfl rfl ?_
           refine ROps.s rfl rfl rfl ?_
           refine zL (r := b true) rfl rfl rfl (LOp.pick_true rfl rfl rfl) ?_
           refine zN ?_
           refine RunC.wl (τ' := [(2, sl a8.length (a8.map f32)), (3, f32 a9), (4, i64 a10), (5, ptr [i64 a0, sl a1.length (a1.map i64), sl a2.length (a2.map i64), sl a3.length (a3.map f32)]), (6, ptr [i64 a4, sl a5.length (a5.map i64), sl a6.length (a6.map i64), sl a7.length (a7.map f32)]), (12, sl r14.length (r14.map f32)), (13, i64 r12), (14, b r13), (18, oref 9 1 0 r26.length), (124, b true)]) (Γ' := [⟨1, none⟩, ⟨1, none⟩, ⟨1, none⟩, ⟨1, none⟩, ⟨1, none⟩, ⟨1, none⟩, ⟨1, none⟩, ⟨1, none⟩, ⟨1, none⟩, ⟨1, some (r26.map f32)⟩, ⟨1, none⟩]) ⟨aR, aR, aR, aR, aR, aR, aR, aR, aR, aR, trivial⟩ ⟨⟨rfl, .inl rfl⟩, ⟨rfl, .inl rfl⟩, ⟨rfl, .inl rfl⟩, ⟨rfl, .inl rfl⟩, ⟨rfl, .inl rfl⟩, ⟨rfl, .inl rfl⟩, ⟨rfl, .inl rfl⟩, ⟨rfl, .inl rfl⟩, ⟨rfl, .inl rfl⟩, ⟨rfl, .inr rfl⟩, ⟨rfl, .inl rfl⟩, trivial⟩ ?_
           refine RunC.cond_true rfl rfl ?_
           refine zQ ?_
           refine zA (r := b false) rfl rfl rfl rfl rfl ?_
           refine zN ?_
           refine RunC.ret ?_
           have hq := Option.some.inj h
           subst q0
           exact bodyQ.pure (.inr rfl) rfl (Res.one rfl (RV.tmp rfl))
          ·obtain ⟨r50, hf38, h⟩ := obind_some h
           rcases bsel_some h with ⟨hc39, h⟩ | ⟨hc39, h⟩
           ·refine RunC.regionW ?_
            refine zM (r := i64 r48) rfl rfl rfl rfl rfl ?_
            refine zL (r := b false) rfl rfl rfl (LOp.eqb (LOp.lss rfl rfl rfl) hc37) ?_
            refine zM (r := b false) rfl rfl rfl rfl rfl ?_
            refine zM (r := oref 9 1 0 r26.length) rfl rfl rfl rfl rfl ?_
            refine zM (r := sl r14.length (r14.map f32)) rfl rfl rfl rfl rfl ?_
            refine ROps.d (r := b true) (fs := []) (Γ' := [⟨1, none⟩, ⟨1, none⟩, ⟨1, none⟩, ⟨1, none⟩, ⟨1, none⟩, ⟨1, none⟩, ⟨1, none⟩, ⟨1, none⟩, ⟨1, none⟩, ⟨1, some (r26.map f32)⟩, ⟨1, none⟩]) rfl rfl rfl (TOp.eqb (TOp.callB (CallAs.func ent12 rfl rfl) (Bors.cons (Bor.own (f := f32) (fun _ => rfl) rfl rfl) (Bors.cons (Bor.sl (fun _ => rfl)) Bors.nil)) rfl rfl (w_eqFloat32S_ok r26 r14 r50 hf38)) hc39) rfl ?_
            refine zL (r := b false) rfl rfl rfl (LOp.eqb (LOp.not rfl rfl) rfl) ?_
            refine zL (r := b false) rfl rfl rfl (LOp.pick_false rfl rfl rfl) ?_
            refine zM (r := b false) rfl rfl rfl rfl rfl ?_
            refine zM (r := i64 r24) rfl rfl rfl rfl rfl ?_
            refine zM (r := i64 r12) rfl rfl rfl rfl rfl ?_
            refine zL (r := b false) rfl rfl rfl (LOp.eqb (LOp.neq rfl rfl rfl) hc16) ?_
            refine zL (r := b false) rfl rfl rfl (LOp.pick_false rfl rfl rfl) ?_
            refine zM (r := b false) rfl rfl rfl rfl rfl ?_
            refine zM (r := b r25) rfl rfl rfl rfl rfl ?_
            refine zM (r := b r13) rfl rfl rfl rfl rfl ?_
            refine zL (r := b false) rfl rfl rfl (LOp.eqb (LOp.neqb pun4 rfl rfl rfl) hc17) ?_
            refine zL (r := b false) rfl rfl rfl (LOp.pick_false rfl rfl rfl) ?_
            refine zN ?_
            refine RunC.wl (τ' := [(2, sl a8.length (a8.map f32)), (3, f32 a9), (4, i64 a10), (5, ptr [i64 a0, sl a1.length (a1.map i64), sl a2.length (a2.map i64), sl a3.length (a3.map f32)]), (6, ptr [i64 a4, sl a5.length (a5.map i64), sl a6.length (a6.map i64), sl a7.length (a7.map f32)]), (12, sl r14.length (r14.map f32)), (13, i64 r12), (14, b r13), (18, oref 9 1 0 r26.length), (124, b false)]) (Γ' := [⟨1, none⟩, ⟨1, none⟩, ⟨1, none⟩, ⟨1, none⟩, ⟨1, none⟩, ⟨1, none⟩, ⟨1, none⟩, ⟨1, none⟩, ⟨1, none⟩, ⟨1, some (r26.map f32)⟩, ⟨1, none⟩]) ⟨aR, aR, aR, aR, aR, aR, aR, aR, aR, aR, trivial⟩ ⟨⟨rfl, .inl rfl⟩, ⟨rfl, .inl rfl⟩, ⟨rfl, .inl rfl⟩, ⟨rfl, .inl rfl⟩, ⟨rfl, .inl rfl⟩, ⟨rfl, .inl rfl⟩, ⟨rfl, .inl rfl⟩, ⟨rfl, .inl rfl⟩, ⟨rfl, .inl rfl⟩, ⟨rfl, .inr rfl⟩, ⟨rfl, .inl rfl⟩, trivial⟩ ?_
            refine RunC.cond_false rfl rfl ?_
            refine RunC.skip ?_
            refine zQ ?_
            refine zA (r := i64 1) rfl rfl rfl rfl rfl ?_
            refine zN ?_
            refine RunC.seq ?_
            obtain ⟨r51, r52, hf40, h⟩ := obind2_some h
            obtain ⟨hn41, h⟩ := need_some h
            refine RunC.regionW ?_
            refine zM (r := oref 9 1 0 r26.length) rfl rfl rfl rfl rfl ?_
            refine zM (r := i64 1) rfl rfl rfl rfl rfl ?_
            refine ROps.callO (A := [oref 9 1 0 r26.length, i64 1]) (args := [oref 0 0 0 r26.length, i64 1]) (Γc := [⟨0, some (r26.map f32)⟩]) (Γc' := [⟨0, some (r52.map f32)⟩]) (r' := i64 r51) (Γ' := [⟨1, none⟩, ⟨1, none⟩, ⟨1, none⟩, ⟨1, none⟩, ⟨1, none⟩, ⟨1, none⟩, ⟨1, none⟩, ⟨1, none⟩, ⟨1, none⟩, ⟨1, some (r52.map f32)⟩, ⟨1, none⟩]) [(9, 1)] [] rfl (CallAs.func ent15 rfl rfl) rfl rfl (SelOk.of (show List.Nodup [9] from by decide) (SelL.arr0 (f := f32) (fun _ => rfl) rfl trivial)) (live_of ⟨⟨_, _, rfl⟩, trivial⟩) (by simp [ren, rens, sigma, rens_f32, rens_f64, rens_i64, rens_ik, rens_str, rens_cp]) rfl (w_markFloat32S_0o_ok 1 r26 r51 r52 hf40) rfl (news_of trivial) (show List.Nodup [9] from by decide) (by simp [ren, rens, sigma, of_decide_eq_true hn41]) (by simp [backOb, sigma, ren, rens, rens_f32, rens_f64, rens_i64, rens_ik, rens_str, rens_cp]) ?_
            refine zA (r := i64 r51) rfl rfl rfl rfl rfl ?_
            refine zN ?_
            refine zQ ?_
            refine zA (r := i64 1) rfl rfl rfl rfl rfl ?_
            refine zN ?_
            refine RunC.seq ?_
            obtain ⟨r53, hf42, h⟩ := obind_some h
            refine RunC.regionW ?_
            refine zM (r := oref 9 1 0 r26.length) rfl rfl rfl rfl rfl ?_
            refine zM (r := i64 1) rfl rfl rfl rfl rfl ?_
            refine ROps.d (r := i64 r53) (fs := []) (Γ' := [⟨1, none⟩, ⟨1, none⟩, ⟨1, none⟩, ⟨1, none⟩, ⟨1, none⟩, ⟨1, none⟩, ⟨1, none⟩, ⟨1, none⟩, ⟨1, none⟩, ⟨1, some (r52.map f32)⟩, ⟨1, none⟩]) rfl rfl rfl (TOp.callB (CallAs.func ent16 rfl rfl) (Bors.cons (Bor.own (f := f32) (fun _ => rfl) rfl (of_decide_eq_true hn41)) (Bors.cons (Bor.pure rfl) Bors.nil)) rfl rfl (w_heldFloat32S_ok r52 1 r53 hf42)) rfl ?_
            refine zA (r := i64 r53) rfl rfl rfl rfl rfl ?_
            refine zN ?_
            refine RunC.seq ?_
            refine RunC.seq ?_
            rcases bsel_some h with ⟨hc43, h⟩ | ⟨hc43, h⟩
            ·refine RunC.regionW ?_
             refine zM (r := i64 r53) rfl rfl rfl rfl rfl ?_
             refine zL (r := b true) rfl rfl rfl (LOp.eqb (LOp.lss rfl rfl rfl) hc43) ?_
             refine zN ?_
             refine RunC.cond_true rfl rfl ?_
             refine zQ ?_
             refine zA (r := b false) rfl rfl rfl rfl rfl ?_
             refine zN ?_
             refine RunC.ret ?_
             have hq := Option.some.inj h
             subst q0
             exact bodyQ.pure (.inr rfl) rfl (Res.one rfl (RV.tmp rfl))
            ·refine RunC.regionW ?_
             refine zM (r := i64 r53) rfl rfl rfl rfl rfl ?_
             refine zL (r := b false) rfl rfl rfl (LOp.eqb (LOp.lss rfl rfl rfl) hc43) ?_
             refine zN ?_
             refine RunC.cond_false rfl rfl ?_
             refine RunC.skip ?_
             refine RunC.seq ?_
             refine RunC.seq ?_
             rcases bsel_some h with ⟨hc44, h⟩ | ⟨hc44, h⟩
             ·refine RunC.regionW ?_
              refine zM (r := i64 r53) rfl rfl rfl rfl rfl ?_
              refine zM (r := i64 r51) rfl rfl rfl rfl rfl ?_
              refine zL (r := b true) rfl rfl rfl (LOp.eqb (LOp.neq rfl rfl rfl) hc44) ?_
              refine zN ?_
              refine RunC.cond_true rfl rfl ?_
              refine zQ ?_
              refine zA (r := b false) rfl rfl rfl rfl rfl ?_
              refine zN ?_
              refine RunC.ret ?_
              have hq := Option.some.inj h
              subst q0
              exact bodyQ.pure (.inr rfl) rfl (Res.one rfl (RV.tmp rfl))
             ·refine RunC.regionW ?_
              refine zM (r := i64 r53) rfl rfl rfl rfl rfl ?_
              refine zM (r := i64 r51) rfl rfl rfl rfl rfl ?_
              refine zL (r := b false) rfl rfl rfl (LOp.eqb (LOp.neq rfl rfl rfl) hc44) ?_
              refine zN ?_
              refine RunC.cond_false rfl rfl ?_
              refine RunC.skip ?_
              refine RunC.seq ?_
              obtain ⟨r54, r55, r56, r57, hf45, h⟩ := obind4_some h
              obtain ⟨r58, r59, r60, r61, hf46, h⟩ := obind4_some h
              obtain ⟨r62, hf47, h⟩ := obind_some h
              obtain ⟨r63, r64, r65, hf48, h⟩ := obind3_some h
              refine RunC.region_draw (Γ' := [⟨1, none⟩, ⟨1, none⟩, ⟨1, none⟩, ⟨1, none⟩, ⟨1, none⟩, ⟨1, none⟩, ⟨1, none⟩, ⟨1, none⟩, ⟨1, none⟩, ⟨1, some (r52.map f32)⟩, ⟨1, none⟩]) 16 mixed 
               (TR.l (r := agg [i64 a0, sl a1.length (a1.map i64), sl a2.length (a2.map i64), sl a3.length (a3.map f32)]) rfl rfl (LOp.loadAgg agg25 siz25 rfl rfl rfl rfl) <|
               (TR.d (r := agg [i64 r54, sl r55.length (r55.map i64), sl r56.length (r56.map i64), sl r57.length (r57.map f32)]) (fs := []) rfl rfl (TOp.callS (CallAs.func ent9 rfl rfl) (ALes.cons aR ALes.nil) (lts_cons (lt_agg (lts_cons rfl (lts_cons (lt_sl (fun _ => rfl)) (lts_cons (lt_sl (fun _ => rfl)) (lts_cons (lt_sl (fun _ => rfl)) lts_nil))))) lts_nil) (lt_agg (lts_cons rfl (lts_cons (lt_sl (fun _ => rfl)) (lts_cons (lt_sl (fun _ => rfl)) (lts_cons (lt_sl (fun _ => rfl)) lts_nil))))) (w_toSparse_ok a0 a1 a2 a3 r54 r55 r56 r57 hf45) (Bor.agg (Bors.cons (Bor.pure rfl) (Bors.cons (Bor.own (f := i64) (fun _ => rfl) rfl rfl) (Bors.cons (Bor.own (f := i64) (fun _ => rfl) rfl rfl) (Bors.cons (Bor.own (f := f32) (fun _ => rfl) rfl rfl) Bors.nil)))))) <|
               (TR.l (r := agg [i64 a4, sl a5.length (a5.map i64), sl a6.length (a6.map i64), sl a7.length (a7.map f32)]) rfl rfl (LOp.loadAgg agg25 siz25 rfl rfl rfl rfl) <|
               (TR.d (r := agg [i64 r58, sl r59.length (r59.map i64), sl r60.length (r60.map i64), sl r61.length (r61.map f32)]) (fs := []) rfl rfl (TOp.callS (CallAs.func ent9 rfl rfl) (ALes.cons aR ALes.nil) (lts_cons (lt_agg (lts_cons rfl (lts_cons (lt_sl (fun _ => rfl)) (lts_cons (lt_sl (fun _ => rfl)) (lts_cons (lt_sl (fun _ => rfl)) lts_nil))))) lts_nil) (lt_agg (lts_cons rfl (lts_cons (lt_sl (fun _ => rfl)) (lts_cons (lt_sl (fun _ => rfl)) (lts_cons (lt_sl (fun _ => rfl)) lts_nil))))) (w_toSparse_ok a4 a5 a6 a7 r58 r59 r60 r61 hf46) (Bor.agg (Bors.cons (Bor.pure rfl) (Bors.cons (Bor.own (f := i64) (fun _ => rfl) rfl rfl) (Bors.cons (Bor.own (f := i64) (fun _ => rfl) rfl rfl) (Bors.cons (Bor.own (f := f32) (fun _ => rfl) rfl rfl) Bors.nil)))))) <|
               (TR.l (r := sl a8.length (a8.map f32)) rfl rfl (LOp.move rfl rfl) <|
               (TR.d (r := sl r62.length (r62.map f32)) (fs := []) rfl rfl (TOp.callS (CallAs.func ent10 rfl rfl) (ALes.cons aR ALes.nil) (lts_cons (lt_sl (fun _ => rfl)) lts_nil) (lt_sl (fun _ => rfl)) (w_toFloat32S_ok a8 r62 hf47) (Bor.own (f := f32) (fun _ => rfl) rfl rfl)) <|
               (TR.l (r := f32 a9) rfl rfl (LOp.move rfl rfl) <|
               (TR.l (r := i64 a10) rfl rfl (LOp.move rfl rfl) <|
               (TR.d (r := tup [sl r65.length (r65.map f32), i64 r63, b r64]) (fs := []) rfl rfl (TOp.callS (CallAs.func ent18 rfl rfl) (ALes.cons aR (ALes.cons aR (ALes.cons aR (ALes.cons aR (ALes.cons aR ALes.nil))))) (lts_cons (lt_agg (lts_cons rfl (lts_cons (lt_sl (fun _ => rfl)) (lts_cons (lt_sl (fun _ => rfl)) (lts_cons (lt_sl (fun _ => rfl)) lts_nil))))) (lts_cons (lt_agg (lts_cons rfl (lts_cons (lt_sl (fun _ => rfl)) (lts_cons (lt_sl (fun _ => rfl)) (lts_cons (lt_sl (fun _ => rfl)) lts_nil))))) (lts_cons (lt_sl (fun _ => rfl)) (lts_cons rfl (lts_cons rfl lts_nil))))) (lt_tup (lts_cons (lt_sl (fun _ => rfl)) (lts_cons rfl (lts_cons rfl lts_nil)))) (i_SparseWith_ok r54 r55 r56 r57 r58 r59 r60 r61 r62 a9 a10 r63 r64 r65 hf48) (Bor.tup (Bors.cons (Bor.own (f := f32) (fun _ => rfl) rfl rfl) (Bors.cons (Bor.pure rfl) (Bors.cons (Bor.pure rfl) Bors.nil))))) <|
               (TR.l (r := tup [sl r65.length (r65.map f32), i64 r63, b r64]) rfl rfl (LOp.move rfl rfl) <|
               (TR.l (r := sl r65.length (r65.map f32)) rfl rfl (LOp.extract rfl rfl rfl) <|
               (TR.l (r := i64 r63) rfl rfl (LOp.extract rfl rfl rfl) <|
               (TR.l (r := b r64) rfl rfl (LOp.extract rfl rfl rfl) <|
               (TR.l (r := sl r65.length (r65.map f32)) rfl rfl (LOp.assign rfl rfl) <|
               (TR.l (r := i64 r63) rfl rfl (LOp.assign rfl rfl) <|
               (TR.l (r := b r64) rfl rfl (LOp.assign rfl rfl) <|
               TR.nil)))))))))))))))) rfl (by kernel_rfl) rfl fills_nil rfl ?_
              iterate 16 refine ROps.dropS ?_
              refine ROps.drop0 ?_
              refine zN ?_
              refine RunC.wl (τ' := [(12, sl r14.length (r14.map f32)), (13, i64 r12), (14, b r13), (18, oref 9 1 0 r26.length), (22, i64 r51), (24, sl r65.length (r65.map f32)), (25, i64 r63), (26, b r64)]) (Γ' := [⟨1, none⟩, ⟨1, none⟩, ⟨1, none⟩, ⟨1, none⟩, ⟨1, none⟩, ⟨1, none⟩, ⟨1, none⟩, ⟨1, none⟩, ⟨1, none⟩, ⟨1, some (r52.map f32)⟩, ⟨1, none⟩]) ⟨aR, aR, aR, aR, aR, aR, aR, aR, trivial⟩ ⟨⟨rfl, .inl rfl⟩, ⟨rfl, .inl rfl⟩, ⟨rfl, .inl rfl⟩, ⟨rfl, .inl rfl⟩, ⟨rfl, .inl rfl⟩, ⟨rfl, .inl rfl⟩, ⟨rfl, .inl rfl⟩, ⟨rfl, .inl rfl⟩, ⟨rfl, .inl rfl⟩, ⟨rfl, .inr rfl⟩, ⟨rfl, .inl rfl⟩, trivial⟩ ?_
              refine RunC.seq ?_
              refine RunC.seq ?_
              obtain ⟨r66, hf49, h⟩ := obind_some h
              rcases bsel_some h with ⟨hc50, h⟩ | ⟨hc50, h⟩
              ·rcases bsel_some h with ⟨hc51, h⟩ | ⟨hc51, h⟩
               ·refine RunC.regionW ?_
                refine zM (r := sl r65.length (r65.map f32)) rfl rfl rfl rfl rfl ?_
                refine zM (r := sl r14.length (r14.map f32)) rfl rfl rfl rfl rfl ?_
                refine ROps.d (r := b true) (fs := []) (Γ' := [⟨1, none⟩, ⟨1, none⟩, ⟨1, none⟩, ⟨1, none⟩, ⟨1, none⟩, ⟨1, none⟩, ⟨1, none⟩, ⟨1, none⟩, ⟨1, none⟩, ⟨1, some (r52.map f32)⟩, ⟨1, none⟩]) rfl rfl rfl (TOp.eqb (TOp.callB (CallAs.func ent12 rfl rfl) (Bors.cons (Bor.sl (fun _ => rfl)) (Bors.cons (Bor.sl (fun _ => rfl)) Bors.nil)) rfl rfl (w_eqFloat32S_ok r65 r14 r66 hf49)) hc50) rfl ?_
                refine zL (r := b false) rfl rfl rfl (LOp.eqb (LOp.not rfl rfl) rfl) ?_
                refine zM (r := b false) rfl rfl rfl rfl rfl ?_
                refine zM (r := i64 r63) rfl rfl rfl rfl rfl ?_
                refine zM (r := i64 r12) rfl rfl rfl rfl rfl ?_
                refine zL (r := b true) rfl rfl rfl (LOp.eqb (LOp.neq rfl rfl rfl) hc51) ?_
                refine zL (r := b true) rfl rfl rfl (LOp.pick_false rfl rfl rfl) ?_
                refine zM (r := b true) rfl rfl rfl rfl rfl ?_
                refine ROps.s rfl rfl rfl ?_
                refine ROps.s rfl rfl rfl ?_
                refine ROps.s rfl rfl rfl ?_
                refine zL (r := b true) rfl rfl rfl (LOp.pick_true rfl rfl rfl) ?_
                refine zN ?_
                refine RunC.wl (τ' := [(18, oref 9 1 0 r26.length), (22, i64 r51), (162, b true)]) (Γ' := [⟨1, none⟩, ⟨1, none⟩, ⟨1, none⟩, ⟨1, none⟩, ⟨1, none⟩, ⟨1, none⟩, ⟨1, none⟩, ⟨1, none⟩, ⟨1, none⟩, ⟨1, some (r52.map f32)⟩, ⟨1, none⟩]) ⟨aR, aR, aR, trivial⟩ ⟨⟨rfl, .inl rfl⟩, ⟨rfl, .inl rfl⟩, ⟨rfl, .inl rfl⟩, ⟨rfl, .inl rfl⟩, ⟨rfl, .inl rfl⟩, ⟨rfl, .inl rfl⟩, ⟨rfl, .inl rfl⟩, ⟨rfl, .inl rfl⟩, ⟨rfl, .inl rfl⟩, ⟨rfl, .inr rfl⟩, ⟨rfl, .inl rfl⟩, trivial⟩ ?_
                refine RunC.cond_true rfl rfl ?_
                refine zQ ?_
                refine zA (r := b false) rfl rfl rfl rfl rfl ?_
                refine zN ?_
                refine RunC.ret ?_
                have hq := Option.some.inj h
                subst q0
                exact bodyQ.pure (.inr rfl) rfl (Res.one rfl (RV.tmp rfl))
               ·rcases bsel_some h with ⟨hc52, h⟩ | ⟨hc52, h⟩
                ·refine RunC.regionW ?_
                 refine zM (r := sl r65.length (r65.map f32)) rfl rfl rfl rfl rfl ?_
                 refine zM (r := sl r14.length (r14.map f32)) rfl rfl rfl rfl rfl ?_
                 refine ROps.d (r := b true) (fs := []) (Γ' := [⟨1, none⟩, ⟨1, none⟩, ⟨1, none⟩, ⟨1, none⟩, ⟨1, none⟩, ⟨1, none⟩, ⟨1, none⟩, ⟨1, none⟩, ⟨1, none⟩, ⟨1, some (r52.map f32)⟩, ⟨1, none⟩]) rfl rfl rfl (TOp.eqb (TOp.callB (CallAs.func ent12 rfl rfl) (Bors.cons (Bor.sl (fun _ => rfl)) (Bors.cons (Bor.sl (fun _ => rfl)) Bors.nil)) rfl rfl (w_eqFloat32S_ok r65 r14 r66 hf49)) hc50) rfl ?_
                 refine zL (r := b false) rfl rfl rfl (LOp.eqb (LOp.not rfl rfl) rfl) ?_
                 refine zM (r := b false) rfl rfl rfl rfl rfl ?_
                 refine zM (r := i64 r63) rfl rfl rfl rfl rfl ?_
                 refine zM (r := i64 r12) rfl rfl rfl rfl rfl ?_
                 refine zL (r := b false) rfl rfl rfl (LOp.eqb (LOp.neq rfl rfl rfl) hc51) ?_
                 refine zL (r := b false) rfl rfl rfl (LOp.pick_false rfl rfl rfl) ?_
                 refine zM (r := b false) rfl rfl rfl rfl rfl ?_
                 refine zM (r := b r64) rfl rfl rfl rfl rfl ?_
                 refine zM (r := b r13) rfl rfl rfl rfl rfl ?_
                 refine zL (r := b true) rfl rfl rfl (LOp.eqb (LOp.neqb pun4 rfl rfl rfl) hc52) ?_
                 refine zL (r := b true) rfl rfl rfl (LOp.pick_false rfl rfl rfl) ?_
                 refine zN ?_
                 refine RunC.wl (τ' := [(18, oref 9 1 0 r26.length), (22, i64 r51), (162, b true)]) (Γ' := [⟨1, none⟩, ⟨1, none⟩, ⟨1, none⟩, ⟨1, none⟩, ⟨1, none⟩, ⟨1, none⟩, ⟨1, none⟩, ⟨1, none⟩, ⟨1, none⟩, ⟨1, some (r52.map f32)⟩, ⟨1, none⟩]) ⟨aR, aR, aR, trivial⟩ ⟨⟨rfl, .inl rfl⟩, ⟨rfl, .inl rfl⟩, ⟨rfl, .inl rfl⟩, ⟨rfl, .inl rfl⟩, ⟨rfl, .inl rfl⟩, ⟨rfl, .inl rfl⟩, ⟨rfl, .inl rfl⟩, ⟨rfl, .inl rfl⟩, ⟨rfl, .inl rfl⟩, ⟨rfl, .inr rfl⟩, ⟨rfl, .inl rfl⟩, trivial⟩ ?_
                 refine RunC.cond_true rfl rfl ?_
                 refine zQ ?_
                 refine zA (r := b false) rfl rfl rfl rfl rfl ?_
                 refine zN ?_
                 refine RunC.ret ?_
                 have hq := Option.some.inj h
                 subst q0
                 exact bodyQ.pure (.inr rfl) rfl (Res.one rfl (RV.tmp rfl))
                ·refine RunC.regionW ?_
                 refine zM (r := sl r65.length (r65.map f32)) rfl rfl rfl rfl rfl ?_
                 refine zM (r := sl r14.length (r14.map f32)) rfl rfl rfl rfl rfl ?_
                 refine ROps.d (r := b true) (fs := []) (Γ' := [⟨1, none⟩, ⟨1, none⟩, ⟨1, none⟩, ⟨1, none⟩, ⟨1, none⟩, ⟨1, none⟩, ⟨1, none⟩, ⟨1, none⟩, ⟨1, none⟩, ⟨1, some (r52.map f32)⟩, ⟨1, none⟩]) rfl rfl rfl (TOp.eqb (TOp.callB (CallAs.func ent12 rfl rfl) (Bors.cons (Bor.sl (fun _ => rfl)) (Bors.cons (Bor.sl (fun _ => rfl)) Bors.nil)) rfl rfl (w_eqFloat32S_ok r65 r14 r66 hf49)) hc50) rfl ?_
                 refine zL (r := b false) rfl rfl rfl (LOp.eqb (LOp.not rfl rfl) rfl) ?_
                 refine zM (r := b false) rfl rfl rfl rfl rfl ?_
                 refine zM (r := i64 r63) rfl rfl rfl rfl rfl ?_
                 refine zM (r := i64 r12) rfl rfl rfl rfl rfl ?_
                 refine zL (r := b false) rfl rfl rfl (LOp.eqb (LOp.neq rfl rfl rfl) hc51) ?_
                 refine zL (r := b false) rfl rfl rfl (LOp.pick_false rfl rfl rfl) ?_
                 refine zM (r := b false) rfl rfl rfl rfl rfl ?_
                 refine zM (r := b r64) rfl rfl rfl rfl rfl ?_
                 refine zM (r := b r13) rfl rfl rfl rfl rfl ?_
                 refine zL (r := b false) rfl rfl rfl (LOp.eqb (LOp.neqb pun4 rfl rfl rfl) hc52) ?_
                 refine zL (r := b false) rfl rfl rfl (LOp.pick_false rfl rfl rfl) ?_
                 refine zN ?_
                 refine RunC.wl (τ' := [(18, oref 9 1 0 r26.length), (22, i64 r51), (162, b false)]) (Γ' := [⟨1, none⟩, ⟨1, none⟩, ⟨1, none⟩, ⟨1, none⟩, ⟨1, none⟩, ⟨1, none⟩, ⟨1, none⟩, ⟨1, none⟩, ⟨1, none⟩, ⟨1, some (r52.map f32)⟩, ⟨1, none⟩]) ⟨aR, aR, aR, trivial⟩ ⟨⟨rfl, .inl rfl⟩, ⟨rfl, .inl rfl⟩, ⟨rfl, .inl rfl⟩, ⟨rfl, .inl rfl⟩, ⟨rfl, .inl rfl⟩, ⟨rfl, .inl rfl⟩, ⟨rfl, .inl rfl⟩, ⟨rfl, .inl rfl⟩, ⟨rfl, .inl rfl⟩, ⟨rfl, .inr rfl⟩, ⟨rfl, .inl rfl⟩, trivial⟩ ?_
                 refine RunC.cond_false rfl rfl ?_
                 refine RunC.skip ?_
                 refine zQ ?_
                 refine zA (r := i64 1) rfl rfl rfl rfl rfl ?_
                 refine zN ?_
                 refine RunC.seq ?_
                 obtain ⟨r67, hf53, h⟩ := obind_some h
                 refine RunC.regionW ?_
                 refine zM (r := oref 9 1 0 r26.length) rfl rfl rfl rfl rfl ?_
                 refine zM (r := i64 1) rfl rfl rfl rfl rfl ?_
                 refine ROps.d (r := i64 r67) (fs := []) (Γ' := [⟨1, none⟩, ⟨1, none⟩, ⟨1, none⟩, ⟨1, none⟩, ⟨1, none⟩, ⟨1, none⟩, ⟨1, none⟩, ⟨1, none⟩, ⟨1, none⟩, ⟨1, some (r52.map f32)⟩, ⟨1, none⟩]) rfl rfl rfl (TOp.callB (CallAs.func ent16 rfl rfl) (Bors.cons (Bor.own (f := f32) (fun _ => rfl) rfl (of_decide_eq_true hn41)) (Bors.cons (Bor.pure rfl) Bors.nil)) rfl rfl (w_heldFloat32S_ok r52 1 r67 hf53)) rfl ?_
                 refine zA (r := i64 r67) rfl rfl rfl rfl rfl ?_
                 refine zN ?_
                 refine RunC.wl (τ' := [(22, i64 r51), (23, i64 r67)]) (Γ' := [⟨1, none⟩, ⟨1, none⟩, ⟨1, none⟩, ⟨1, none⟩, ⟨1, none⟩, ⟨1, none⟩, ⟨1, none⟩, ⟨1, none⟩, ⟨1, none⟩, ⟨1, none⟩, ⟨1, none⟩]) ⟨aR, aR, trivial⟩ ⟨⟨rfl, .inl rfl⟩, ⟨rfl, .inl rfl⟩, ⟨rfl, .inl rfl⟩, ⟨rfl, .inl rfl⟩, ⟨rfl, .inl rfl⟩, ⟨rfl, .inl rfl⟩, ⟨rfl, .inl rfl⟩, ⟨rfl, .inl rfl⟩, ⟨rfl, .inl rfl⟩, ⟨rfl, .inl rfl⟩, ⟨rfl, .inl rfl⟩, trivial⟩ ?_
                 refine RunC.seq ?_
                 refine RunC.seq ?_
                 rcases bsel_some h with ⟨hc54, h⟩ | ⟨hc54, h⟩
                 ·refine RunC.regionW ?_
                  refine zM (r := i64 r67) rfl rfl rfl rfl rfl ?_
                  refine zL (r := b true) rfl rfl rfl (LOp.eqb (LOp.lss rfl rfl rfl) hc54) ?_
                  refine zN ?_
                  refine RunC.cond_true rfl rfl ?_
                  refine zQ ?_
                  refine zA (r := b false) rfl rfl rfl rfl rfl ?_
                  refine zN ?_
                  refine RunC.ret ?_
                  have hq := Option.some.inj h
                  subst q0
                  exact bodyQ.pure (.inr rfl) rfl (Res.one rfl (RV.tmp rfl))
                 ·refine RunC.regionW ?_
                  refine zM (r := i64 r67) rfl rfl rfl rfl rfl ?_
                  refine zL (r := b false) rfl rfl rfl (LOp.eqb (LOp.lss rfl rfl rfl) hc54) ?_
                  refine zN ?_
                  refine RunC.cond_false rfl rfl ?_
                  refine RunC.skip ?_
                  refine RunC.seq ?_
                  refine RunC.seq ?_
                  rcases bsel_some h with ⟨hc55, h⟩ | ⟨hc55, h⟩
                  ·refine RunC.regionW ?_
                   refine zM (r := i64 r67) rfl rfl rfl rfl rfl ?_
                   refine zM (r := i64 r51) rfl rfl rfl rfl rfl ?_
                   refine zL (r := b true) rfl rfl rfl (LOp.eqb (LOp.neq rfl rfl rfl) hc55) ?_
                   refine zN ?_
                   refine RunC.cond_true rfl rfl ?_
                   refine zQ ?_
                   refine zA (r := b false) rfl rfl rfl rfl rfl ?_
                   refine zN ?_
                   refine RunC.ret ?_
                   have hq := Option.some.inj h
                   subst q0
                   exact bodyQ.pure (.inr rfl) rfl (Res.one rfl (RV.tmp rfl))
                  ·refine RunC.regionW ?_
                   refine zM (r := i64 r67) rfl rfl rfl rfl rfl ?_
                   refine zM (r := i64 r51) rfl rfl rfl rfl rfl ?_
                   refine zL (r := b false) rfl rfl rfl (LOp.eqb (LOp.neq rfl rfl rfl) hc55) ?_
                   refine zN ?_
                   refine RunC.cond_false rfl rfl ?_
                   refine RunC.skip ?_
                   refine zQ ?_
                   refine zA (r := b true) rfl rfl rfl rfl rfl ?_
                   refine zN ?_
                   refine RunC.ret ?_
                   have hq := Option.some.inj h
                   subst q0
                   exact bodyQ.pure (.inr rfl) rfl (Res.one rfl (RV.tmp rfl))
              ·refine RunC.regionW ?_
               refine zM (r := sl r65.length (r65.map f32)) rfl rfl rfl rfl rfl ?_
               refine zM (r := sl r14.length (r14.map f32)) rfl rfl rfl rfl rfl ?_
               refine ROps.d (r := b false) (fs := []) (Γ' := [⟨1, none⟩, ⟨1, none⟩, ⟨1, none⟩, ⟨1, none⟩, ⟨1, none⟩, ⟨1, none⟩, ⟨1, none⟩, ⟨1, none⟩, ⟨1, none⟩, ⟨1, some (r52.map f32)⟩, ⟨1, none⟩]) rfl rfl rfl (TOp.eqb (TOp.callB (CallAs.func ent12 rfl rfl) (Bors.cons (Bor.sl (fun _ => rfl)) (Bors.cons (Bor.sl (fun _ => rfl)) Bors.nil)) rfl rfl (w_eqFloat32S_ok r65 r14 r66 hf49)) hc50) rfl ?_
               refine zL (r := b true) rfl rfl rfl (LOp.eqb (LOp.not rfl rfl) rfl) ?_
               refine zM (r := b true) rfl rfl rfl rfl rfl ?_
               refine ROps.s rfl rfl rfl ?_
               refine ROps.s rfl rfl rfl ?_
               refine ROps.s rfl rfl rfl ?_
               refine zL (r := b true) rfl rfl rfl (LOp.pick_true rfl rfl rfl) ?_
               refine zM (r := b true) rfl rfl rfl rfl rfl ?_
               refine ROps.s rfl rfl rfl ?_
               refine ROps.s rfl rfl rfl ?_
               refine ROps.s rfl rfl rfl ?_
               refine zL (r := b true) rfl rfl rfl (LOp.pick_true rfl rfl rfl) ?_
               refine zN ?_
               refine RunC.wl (τ' := [(18, oref 9 1 0 r26.length), (22, i64 r51), (162, b true)]) (Γ' := [⟨1, none⟩, ⟨1, none⟩, ⟨1, none⟩, ⟨1, none⟩, ⟨1, none⟩, ⟨1, none⟩, ⟨1, none⟩, ⟨1, none⟩, ⟨1, none⟩, ⟨1, some (r52.map f32)⟩, ⟨1, none⟩]) ⟨aR, aR, aR, trivial⟩ ⟨⟨rfl, .inl rfl⟩, ⟨rfl, .inl rfl⟩, ⟨rfl, .inl rfl⟩, ⟨rfl, .inl rfl⟩, ⟨rfl, .inl rfl⟩, ⟨rfl, .inl rfl⟩, ⟨rfl, .inl rfl⟩, ⟨rfl, .inl rfl⟩, ⟨rfl, .inl rfl⟩, ⟨rfl, .inr rfl⟩, ⟨rfl, .inl rfl⟩, trivial⟩ ?_
               refine RunC.cond_true rfl rfl ?_
               refine zQ ?_
               refine zA (r := b false) rfl rfl rfl rfl rfl ?_
               refine zN ?_
               refine RunC.ret ?_
               have hq := Option.some.inj h
               subst q0
               exact bodyQ.pure (.inr rfl) rfl (Res.one rfl (RV.tmp rfl))
           ·refine RunC.regionW ?_
            refine zM (r := i64 r48) rfl rfl rfl rfl rfl ?_
            refine zL (r := b false) rfl rfl rfl (LOp.eqb (LOp.lss rfl rfl rfl) hc37) ?_
            refine zM (r := b false) rfl rfl rfl rfl rfl ?_
            refine zM (r := oref 9 1 0 r26.length) rfl rfl rfl rfl rfl ?_
            refine zM (r := sl r14.length (r14.map f32)) rfl rfl rfl rfl rfl ?_
            refine ROps.d (r := b false) (fs := []) (Γ' := [⟨1, none⟩, ⟨1, none⟩, ⟨1, none⟩, ⟨1, none⟩, ⟨1, none⟩, ⟨1, none⟩, ⟨1, none⟩, ⟨1, none⟩, ⟨1, none⟩, ⟨1, some (r26.map f32)⟩, ⟨1, none⟩]) rfl rfl rfl (TOp.eqb (TOp.callB (CallAs.func ent12 rfl rfl) (Bors.cons (Bor.own (f := f32) (fun _ => rfl) rfl rfl) (Bors.cons (Bor.sl (fun _ => rfl)) Bors.nil)) rfl rfl (w_eqFloat32S_ok r26 r14 r50 hf38)) hc39) rfl ?_
            refine zL (r := b true) rfl rfl rfl (LOp.eqb (LOp.not rfl rfl) rfl) ?_
            refine zL (r := b true) rfl rfl rfl (LOp.pick_false rfl rfl rfl) ?_
            refine zM (r := b true) rfl rfl rfl rfl rfl ?_
            refine ROps.s rfl rfl rfl ?_
            refine ROps.s rfl rfl rfl ?_
            refine ROps.s rfl rfl rfl ?_
            refine zL (r := b true) rfl rfl rfl (LOp.pick_true rfl rfl rfl) ?_
            refine zM (r := b true) rfl rfl rfl rfl rfl ?_
            refine ROps.s rfl rfl rfl ?_
            refine ROps.s rfl rfl rfl ?_
            refine ROps.s rfl rfl rfl ?_
            refine zL (r := b true) rfl rfl rfl (LOp.pick_true rfl rfl rfl) ?_
            refine zN ?_
            refine RunC.wl (τ' := [(2, sl a8.length (a8.map f32)), (3, f32 a9), (4, i64 a10), (5, ptr [i64 a0, sl a1.length (a1.map i64), sl a2.length (a2.map i64), sl a3.length (a3.map f32)]), (6, ptr [i64 a4, sl a5.length (a5.map i64), sl a6.length (a6.map i64), sl a7.length (a7.map f32)]), (12, sl r14.length (r14.map f32)), (13, i64 r12), (14, b r13), (18, oref 9 1 0 r26.length), (124, b true)]) (Γ' := [⟨1, none⟩, ⟨1, none⟩, ⟨1, none⟩, ⟨1, none⟩, ⟨1, none⟩, ⟨1, none⟩, ⟨1, none⟩, ⟨1, none⟩, ⟨1, none⟩, ⟨1, some (r26.map f32)⟩, ⟨1, none⟩]) ⟨aR, aR, aR, aR, aR, aR, aR, aR, aR, aR, trivial⟩ ⟨⟨rfl, .inl rfl⟩, ⟨rfl, .inl rfl⟩, ⟨rfl, .inl rfl⟩, ⟨rfl, .inl rfl⟩, ⟨rfl, .inl rfl⟩, ⟨rfl, .inl rfl⟩, ⟨rfl, .inl rfl⟩, ⟨rfl, .inl rfl⟩, ⟨rfl, .inl rfl⟩, ⟨rfl, .inr rfl⟩, ⟨rfl, .inl rfl⟩, trivial⟩ ?_
            refine RunC.cond_true rfl rfl ?_
            refine zQ ?_
            refine zA (r := b false) rfl rfl rfl rfl rfl ?_
            refine zN ?_
            refine RunC.ret ?_
            have hq := Option.some.inj h
            subst q0
            exact bodyQ.pure (.inr rfl) rfl (Res.one rfl (RV.tmp rfl))
         ·refine RunC.regionW ?_
          refine zM (r := oref 8 1 0 r23.length) rfl rfl rfl rfl rfl ?_
          refine zM (r := sl a8.length (a8.map f32)) rfl rfl rfl rfl rfl ?_
          refine ROps.d (r := oref 10 1 0 r38.length) (fs := [(10, (r38.map f32))]) (Γ' := [⟨1, some (r16.map i64)⟩, ⟨1, some (r17.map i64)⟩, ⟨1, some (r18.map f32)⟩, ⟨1, some [i64 r15, oref 0 1 0 r16.length, oref 1 1 0 r17.length, oref 2 1 0 r18.length]⟩, ⟨1, some (r20.map i64)⟩, ⟨1, some (r21.map i64)⟩, ⟨1, some (r22.map f32)⟩, ⟨1, some [i64 r19, oref 4 1 0 r20.length, oref 5 1 0 r21.length, oref 6 1 0 r22.length]⟩, ⟨1, some (r23.map f32)⟩, ⟨1, some (r26.map f32)⟩, ⟨1, some (r38.map f32)⟩]) rfl rfl rfl (TOp.callBN (ls := [(r38.map f32)]) [10] (CallAs.func ent10 rfl rfl) (Bors.cons (Bor.sl (fun _ => rfl)) Bors.nil) rfl (w_toFloat32S_ok a8 r38 hf24) (and_all (lts0_map (f := f32) (fun _ => rfl) _) rfl) (and_all (noss_map (f := f32) (fun _ => rfl) _) rfl) rfl (by decide) (ns_of ⟨⟨_, rfl⟩, trivial⟩)) rfl ?_
          refine ROps.d (r := b false) (fs := []) (Γ' := [⟨1, some (r16.map i64)⟩, ⟨1, some (r17.map i64)⟩, ⟨1, some (r18.map f32)⟩, ⟨1, some [i64 r15, oref 0 1 0 r16.length, oref 1 1 0 r17.length, oref 2 1 0 r18.length]⟩, ⟨1, some (r20.map i64)⟩, ⟨1, some (r21.map i64)⟩, ⟨1, some (r22.map f32)⟩, ⟨1, some [i64 r19, oref 4 1 0 r20.length, oref 5 1 0 r21.length, oref 6 1 0 r22.length]⟩, ⟨1, some (r23.map f32)⟩, ⟨1, some (r26.map f32)⟩, ⟨1, some (r38.map f32)⟩]) rfl rfl rfl (TOp.eqb (TOp.callB (CallAs.func ent12 rfl rfl) (Bors.cons (Bor.own (f := f32) (fun _ => rfl) rfl rfl) (Bors.cons (Bor.own (f := f32) (fun _ => rfl) rfl rfl) Bors.nil)) rfl rfl (w_eqFloat32S_ok r23 r38 r39 hf25)) hc26) rfl ?_
          refine zL (r := b true) rfl rfl rfl (LOp.eqb (LOp.not rfl rfl) rfl) ?_
          refine zN ?_
          refine RunC.wl (τ' := [(2, sl a8.length (a8.map f32)), (3, f32 a9), (4, i64 a10), (5, ptr [i64 a0, sl a1.length (a1.map i64), sl a2.length (a2.map i64), sl a3.length (a3.map f32)]), (6, ptr [i64 a4, sl a5.length (a5.map i64), sl a6.length (a6.map i64), sl a7.length (a7.map f32)]), (12, sl r14.length (r14.map f32)), (13, i64 r12), (14, b r13), (15, optr 3 1 0), (16, optr 7 1 0), (17, oref 8 1 0 r23.length), (18, oref 9 1 0 r26.length), (19, i64 r24), (20, b r25), (97, b true)]) (Γ' := [⟨1, some (r16.map i64)⟩, ⟨1, some (r17.map i64)⟩, ⟨1, some (r18.map f32)⟩, ⟨1, some [i64 r15, oref 0 1 0 r16.length, oref 1 1 0 r17.length, oref 2 1 0 r18.length]⟩, ⟨1, some (r20.map i64)⟩, ⟨1, some (r21.map i64)⟩, ⟨1, some (r22.map f32)⟩, ⟨1, some [i64 r19, oref 4 1 0 r20.length, oref 5 1 0 r21.length, oref 6 1 0 r22.length]⟩, ⟨1, some (r23.map f32)⟩, ⟨1, some (r26.map f32)⟩, ⟨1, none⟩]) ⟨aR, aR, aR, aR, aR, aR, aR, aR, aR, aR, aR, aR, aR, aR, aR, trivial⟩ ⟨⟨rfl, .inr rfl⟩, ⟨rfl, .inr rfl⟩, ⟨rfl, .inr rfl⟩, ⟨rfl, .inr rfl⟩, ⟨rfl, .inr rfl⟩, ⟨rfl, .inr rfl⟩, ⟨rfl, .inr rfl⟩, ⟨rfl, .inr rfl⟩, ⟨rfl, .inr rfl⟩, ⟨rfl, .inr rfl⟩, ⟨rfl, .inl rfl⟩, trivial⟩ ?_
          refine RunC.cond_true rfl rfl ?_
          refine zQ ?_
          refine zA (r := b false) rfl rfl rfl rfl rfl ?_
          refine zN ?_
          refine RunC.ret ?_
          have hq := Option.some.inj h
          subst q0
          exact bodyQ.pure (.inr rfl) rfl (Res.one rfl (RV.tmp rfl))
        ·refine RunC.region_draw (Γ' := [⟨1, some (r16.map i64)⟩, ⟨1, some (r17.map i64)⟩, ⟨1, some (r18.map f32)⟩, ⟨1, some [i64 r15, oref 0 1 0 r16.length, oref 1 1 0 r17.length, oref 2 1 0 r18.length]⟩, ⟨1, some (r20.map i64)⟩, ⟨1, some (r21.map i64)⟩, ⟨1, some (r22.map f32)⟩, ⟨1, some [i64 r19, oref 4 1 0 r20.length, oref 5 1 0 r21.length, oref 6 1 0 r22.length]⟩, ⟨1, some (r23.map f32)⟩, ⟨1, some (r26.map f32)⟩, ⟨0, none⟩]) 5 mixed 
          (TR.d (r := agg [i64 r19, oref 4 1 0 r20.length, oref 5 1 0 r21.length, oref 6 1 0 r22.length]) (fs := []) rfl rfl (TOp.loadAgg_o rfl agg30 siz30 rfl rfl rfl rfl) <|
          (TR.l (r := agg [i64 a4, sl a5.length (a5.map i64), sl a6.length (a6.map i64), sl a7.length (a7.map f32)]) rfl rfl (LOp.loadAgg agg25 siz25 rfl rfl rfl rfl) <|
          (TR.d (r := agg [i64 r33, sl r34.length (r34.map i64), sl r35.length (r35.map i64), sl r36.length (r36.map f32)]) (fs := []) rfl rfl (TOp.callS (CallAs.func ent9 rfl rfl) (ALes.cons aR ALes.nil) (lts_cons (lt_agg (lts_cons rfl (lts_cons (lt_sl (fun _ => rfl)) (lts_cons (lt_sl (fun _ => rfl)) (lts_cons (lt_sl (fun _ => rfl)) lts_nil))))) lts_nil) (lt_agg (lts_cons rfl (lts_cons (lt_sl (fun _ => rfl)) (lts_cons (lt_sl (fun _ => rfl)) (lts_cons (lt_sl (fun _ => rfl)) lts_nil))))) (w_toSparse_ok a4 a5 a6 a7 r33 r34 r35 r36 hf21) (Bor.agg (Bors.cons (Bor.pure rfl) (Bors.cons (Bor.own (f := i64) (fun _ => rfl) rfl rfl) (Bors.cons (Bor.own (f := i64) (fun _ => rfl) rfl rfl) (Bors.cons (Bor.own (f := f32) (fun _ => rfl) rfl rfl) Bors.nil)))))) <|
          (TR.d (r := b false) (fs := []) rfl rfl (TOp.eqb (TOp.callB (CallAs.func ent13 rfl rfl) (Bors.cons (Bor.agg (Bors.cons (Bor.pure rfl) (Bors.cons (Bor.own (f := i64) (fun _ => rfl) rfl rfl) (Bors.cons (Bor.own (f := i64) (fun _ => rfl) rfl rfl) (Bors.cons (Bor.own (f := f32) (fun _ => rfl) rfl rfl) Bors.nil))))) (Bors.cons (Bor.agg (Bors.cons (Bor.pure rfl) (Bors.cons (Bor.sl (fun _ => rfl)) (Bors.cons (Bor.sl (fun _ => rfl)) (Bors.cons (Bor.sl (fun _ => rfl)) Bors.nil))))) Bors.nil)) rfl rfl (w_eqSparse_ok r19 r20 r21 r22 r33 r34 r35 r36 r37 hf22)) hc23) <|
          (TR.l (r := b true) rfl rfl (LOp.eqb (LOp.not rfl rfl) rfl) <|
          TR.nil))))) rfl (by kernel_rfl) rfl fills_nil rfl ?_
         iterate 5 refine ROps.dropS ?_
         refine ROps.drop0 ?_
         refine zN ?_
         refine RunC.cond_true rfl rfl ?_
         refine zQ ?_
         refine zA (r := b false) rfl rfl rfl rfl rfl ?_
         refine zN ?_
         refine RunC.ret ?_
         have hq := Option.some.inj h
         subst q0
         exact bodyQ.pure (.inr rfl) rfl (Res.one rfl (RV.tmp rfl))
       ·refine RunC.region_draw (Γ' := [⟨1, some (r16.map i64)⟩, ⟨1, some (r17.map i64)⟩, ⟨1, some (r18.map f32)⟩, ⟨1, some [i64 r15, oref 0 1 0 r16.length, oref 1 1 0 r17.length, oref 2 1 0 r18.length]⟩, ⟨1, some (r20.map i64)⟩, ⟨1, some (r21.map i64)⟩, ⟨1, some (r22.map f32)⟩, ⟨1, some [i64 r19, oref 4 1 0 r20.length, oref 5 1 0 r21.length, oref 6 1 0 r22.length]⟩, ⟨1, some (r23.map f32)⟩, ⟨1, some (r26.map f32)⟩, ⟨0, none⟩]) 5 mixed 
         (TR.d (r := agg [i64 r15, oref 0 1 0 r16.length, oref 1 1 0 r17.length, oref 2 1 0 r18.length]) (fs := []) rfl rfl (TOp.loadAgg_o rfl agg30 siz30 rfl rfl rfl rfl) <|
         (TR.l (r := agg [i64 a0, sl a1.length (a1.map i64), sl a2.length (a2.map i64), sl a3.length (a3.map f32)]) rfl rfl (LOp.loadAgg agg25 siz25 rfl rfl rfl rfl) <|
         (TR.d (r := agg [i64 r28, sl r29.length (r29.map i64), sl r30.length (r30.map i64), sl r31.length (r31.map f32)]) (fs := []) rfl rfl (TOp.callS (CallAs.func ent9 rfl rfl) (ALes.cons aR ALes.nil) (lts_cons (lt_agg (lts_cons rfl (lts_cons (lt_sl (fun _ => rfl)) (lts_cons (lt_sl (fun _ => rfl)) (lts_cons (lt_sl (fun _ => rfl)) lts_nil))))) lts_nil) (lt_agg (lts_cons rfl (lts_cons (lt_sl (fun _ => rfl)) (lts_cons (lt_sl (fun _ => rfl)) (lts_cons (lt_sl (fun _ => rfl)) lts_nil))))) (w_toSparse_ok a0 a1 a2 a3 r28 r29 r30 r31 hf18) (Bor.agg (Bors.cons (Bor.pure rfl) (Bors.cons (Bor.own (f := i64) (fun _ => rfl) rfl rfl) (Bors.cons (Bor.own (f := i64) (fun _ => rfl) rfl rfl) (Bors.cons (Bor.own (f := f32) (fun _ => rfl) rfl rfl) Bors.nil)))))) <|
         (TR.d (r := b false) (fs := []) rfl rfl (TOp.eqb (TOp.callB (CallAs.func ent13 rfl rfl) (Bors.cons (Bor.agg (Bors.cons (Bor.pure rfl) (Bors.cons (Bor.own (f := i64) (fun _ => rfl) rfl rfl) (Bors.cons (Bor.own (f := i64) (fun _ => rfl) rfl rfl) (Bors.cons (Bor.own (f := f32) (fun _ => rfl) rfl rfl) Bors.nil))))) (Bors.cons (Bor.agg (Bors.cons (Bor.pure rfl) (Bors.cons (Bor.sl (fun _ => rfl)) (Bors.cons (Bor.sl (fun _ => rfl)) (Bors.cons (Bor.sl (fun _ => rfl)) Bors.nil))))) Bors.nil)) rfl rfl (w_eqSparse_ok r15 r16 r17 r18 r28 r29 r30 r31 r32 hf19)) hc20) <|
         (TR.l (r := b true) rfl rfl (LOp.eqb (LOp.not rfl rfl) rfl) <|
         TR.nil))))) rfl (by kernel_rfl) rfl fills_nil rfl ?_
        iterate 5 refine ROps.dropS ?_
        refine ROps.drop0 ?_
        refine zN ?_
        refine RunC.cond_true rfl rfl ?_
        refine zQ ?_
        refine zA (r := b false) rfl rfl rfl rfl rfl ?_
        refine zN ?_
        refine RunC.ret ?_
        have hq := Option.some.inj h
        subst q0
        exact bodyQ.pure (.inr rfl) rfl (Res.one rfl (RV.tmp rfl))
    ·refine RunC.regionW ?_
     refine zM (r := oref 9 1 0 r26.length) rfl rfl rfl rfl rfl ?_
     refine zM (r := sl r14.length (r14.map f32)) rfl rfl rfl rfl rfl ?_
     refine ROps.d (r := b false) (fs := []) (Γ' := [⟨1, some (r16.map i64)⟩, ⟨1, some (r17.map i64)⟩, ⟨1, some (r18.map f32)⟩, ⟨1, some [i64 r15, oref 0 1 0 r16.length, oref 1 1 0 r17.length, oref 2 1 0 r18.length]⟩, ⟨1, some (r20.map i64)⟩, ⟨1, some (r21.map i64)⟩, ⟨1, some (r22.map f32)⟩, ⟨1, some [i64 r19, oref 4 1 0 r20.length, oref 5 1 0 r21.length, oref 6 1 0 r22.length]⟩, ⟨1, some (r23.map f32)⟩, ⟨1, some (r26.map f32)⟩, ⟨0, none⟩]) rfl rfl rfl (TOp.eqb (TOp.callB (CallAs.func ent12 rfl rfl) (Bors.cons (Bor.own (f := f32) (fun _ => rfl) rfl rfl) (Bors.cons (Bor.sl (fun _ => rfl)) Bors.nil)) rfl rfl (w_eqFloat32S_ok r26 r14 r27 hf14)) hc15) rfl ?_
     refine zL (r := b true) rfl rfl rfl (LOp.eqb (LOp.not rfl rfl) rfl) ?_
     refine zM (r := b true) rfl rfl rfl rfl rfl ?_
     refine ROps.s rfl rfl rfl ?_
     refine ROps.s rfl rfl rfl ?_
     refine ROps.s rfl rfl rfl ?_
     refine zL (r := b true) rfl rfl rfl (LOp.pick_true rfl rfl rfl) ?_
     refine zM (r := b true) rfl rfl rfl rfl rfl ?_
     refine ROps.s rfl rfl rfl ?_
     refine ROps.s rfl rfl rfl ?_
     refine ROps.s rfl rfl rfl ?_
     refine zL (r := b true) rfl rfl rfl (LOp.pick_true rfl rfl rfl) ?_
     refine zN ?_
     refine RunC.cond_true rfl rfl ?_
     refine zQ ?_
     refine zA (r := b false) rfl rfl rfl rfl rfl ?_
     refine zN ?_
     refine RunC.ret ?_
     have hq := Option.some.inj h
     subst q0
     exact bodyQ.pure (.inr rfl) rfl (Res.one rfl (RV.tmp rfl))
end Go.Proofs.Ytcoookgeialmnaa
