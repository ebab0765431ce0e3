/- Generated. -/
import Derived.Test.YtjdonddobkpghaaGreatG1
namespace Go.Proofs.YtjdonddobkpghaaGreat
open Go Go.AM Go.AM.AV
set_option maxRecDepth 20000
set_option maxHeartbeats 4000000
set_option linter.unusedVariables false
set_option linter.unusedSimpArgs false
noncomputable def w_heldFloat32S_b1 (a0 : List F) (v1 : Int) (v2 : Int) : Option (LR (Int × Int) (Int) (Int)) :=
 bsel (decide (v2 < (a0.length : Int))) (
  obind (at? a0 v2) fun (e3 : F) =>
  olet (fint .f32 v1) fun (x4 : F) =>
  bsel (!feq .f32 e3 x4) (
   some (LR.ret (-1))) (
   olet (IntKind.i64.wrap (v1 + 1)) fun (x5 : Int) =>
   olet (IntKind.i64.wrap (v2 + 1)) fun (x6 : Int) =>
   some (LR.next (x5, x6)))) (
  some (LR.out v1))
noncomputable def w_heldFloat32S_s1 (a0 : List F) : (Int × Int) → Option (LR (Int × Int) (Int) (Int)) := fun s => w_heldFloat32S_b1 a0 s.1 s.2
noncomputable def w_heldFloat32S_k1 (v7 : Int) : Option (Int) :=
 some v7
noncomputable def w_heldFloat32S (a0 : List F) (a1 : Int) : Option (Int) :=
 obind (loopM (w_heldFloat32S_s1 a0) (a1, 0)) fun z => osum z (fun e => w_heldFloat32S_k1 e) (fun r => some r)
theorem w_heldFloat32S_ok (a0 : List F) (a1 : Int) (q0 : Int) (h : w_heldFloat32S a0 a1 = some q0) : Ev Tryz.prog 13 [sl a0.length (a0.map f32), i64 a1] [] (i64 q0) [] := by
 refine Ev.start Tryz.func13 rfl rfl 0 (τ := [(0, sl a0.length (a0.map f32)), (1, i64 a1)]) rfl (Γ' := []) rfl (n := 45) rfl (g := 0) rfl (fun _ => rfl) ?_
 unfold w_heldFloat32S at h
 refine zQ ?_
 refine zA (r := i64 0) rfl rfl rfl rfl rfl ?_
 refine zN ?_
 refine RunC.seq ?_
 refine zQ ?_
 refine zA (r := i64 0) rfl rfl rfl rfl rfl ?_
 refine zN ?_
 obtain ⟨z2, hz_2, h⟩ := obind_some h
 refine RunC.cutN (fun τ Γ => ∃ (v7 : Int), WeakLe τ [(1, i64 v7)] ∧ DeadLe Γ [] ∧ z2 = .inl v7) ?_ ?_
 ·refine RunC.block (RunC.loop (RunL.loopM (x := z2) (w_heldFloat32S_s1 a0) (fun (s : Int × Int) τ Γ => WeakLe τ [(0, sl a0.length (a0.map f32)), (1, i64 s.1), (5, i64 s.2)] ∧ DeadLe Γ []) ?_ _ _ _ hz_2 ⟨⟨aR, aR, aR, trivial⟩, trivial⟩))
  rintro ⟨v1, v2⟩ τ2 Γ2 y2_ ⟨hw2, hd2⟩ h2_ ho2 hr2
  refine RunC.wl (τ' := [(0, sl a0.length (a0.map f32)), (1, i64 v1), (5, i64 v2)]) (Γ' := []) hw2 hd2 ?_
  replace h2_ : w_heldFloat32S_b1 a0 v1 v2 = some y2_ := h2_
  unfold w_heldFloat32S_b1 at h2_
  refine RunC.seq ?_
  refine RunC.seq ?_
  rcases bsel_some h2_ with ⟨hc1, h2_⟩ | ⟨hc1, h2_⟩
  ·refine RunC.regionW ?_
   refine zM (r := i64 v2) rfl rfl rfl rfl rfl ?_
   refine zM (r := sl a0.length (a0.map f32)) rfl rfl rfl rfl rfl ?_
   refine zL (r := i64 (a0.length : Int)) rfl rfl rfl (LOp.len_sl und22 rfl rfl) ?_
   refine zL (r := b true) rfl rfl rfl (LOp.eqb (LOp.lss rfl rfl rfl) hc1) ?_
   refine zN ?_
   refine RunC.cond_true rfl rfl ?_
   refine RunC.skip ?_
   refine RunC.seq ?_
   refine RunC.block ?_
   refine RunC.seq ?_
   refine RunC.seq ?_
   obtain ⟨e3, he2, h2_⟩ := obind_some h2_
   obtain ⟨x4, hx3, h2_⟩ := olet_some h2_
   rcases bsel_some h2_ with ⟨hc4, h2_⟩ | ⟨hc4, h2_⟩
   ·refine RunC.regionW ?_
    refine zM (r := sl a0.length (a0.map f32)) rfl rfl rfl rfl rfl ?_
    refine zM (r := i64 v2) rfl rfl rfl rfl rfl ?_
    refine zL (r := ptr [f32 e3]) rfl rfl rfl (LOp.le (LOp.ix (f := f32) und22 siz44 rfl rfl rfl rfl he2) ALe.ptr) ?_
    refine zL (r := f32 e3) rfl rfl rfl (LOp.load1 agg44 rfl rfl) ?_
    refine zM (r := i64 v1) rfl rfl rfl rfl rfl ?_
    refine zL (r := f32 x4) rfl rfl rfl (LOp.eqr (LOp.i2f (src := 3) (dst := 44) ⟨_, pun3⟩ pun44 rfl rfl) (congrArg (f .f32) hx3)) ?_
    refine zL (r := b true) rfl rfl rfl (LOp.eqb (LOp.fne rfl (OpF.tmp rfl) (OpF.tmp rfl)) hc4) ?_
    refine zN ?_
    refine RunC.cond_true rfl rfl ?_
    refine zQ ?_
    refine zA (r := i64 (-1)) rfl rfl rfl rfl rfl ?_
    refine zN ?_
    refine RunC.ret ?_
    cases Option.some.inj h2_
    have hx3_ := hr2 _ rfl
    subst hx3_
    have hq := Option.some.inj h
    subst q0
    exact bodyQ.pure (.inr rfl) rfl (Res.one rfl (RV.tmp rfl))
   ·refine RunC.regionW ?_
    refine zM (r := sl a0.length (a0.map f32)) rfl rfl rfl rfl rfl ?_
    refine zM (r := i64 v2) rfl rfl rfl rfl rfl ?_
    refine zL (r := ptr [f32 e3]) rfl rfl rfl (LOp.le (LOp.ix (f := f32) und22 siz44 rfl rfl rfl rfl he2) ALe.ptr) ?_
    refine zL (r := f32 e3) rfl rfl rfl (LOp.load1 agg44 rfl rfl) ?_
    refine zM (r := i64 v1) rfl rfl rfl rfl rfl ?_
    refine zL (r := f32 x4) rfl rfl rfl (LOp.eqr (LOp.i2f (src := 3) (dst := 44) ⟨_, pun3⟩ pun44 rfl rfl) (congrArg (f .f32) hx3)) ?_
    refine zL (r := b false) rfl rfl rfl (LOp.eqb (LOp.fne rfl (OpF.tmp rfl) (OpF.tmp rfl)) hc4) ?_
    refine zN ?_
    refine RunC.cond_false rfl rfl ?_
    refine RunC.skip ?_
    obtain ⟨x5, hx5, h2_⟩ := olet_some h2_
    refine RunC.regionW ?_
    refine zM (r := i64 v1) rfl rfl rfl rfl rfl ?_
    refine zL (r := i64 x5) rfl rfl rfl (LOp.eqr (LOp.add rfl rfl rfl) (congrArg (ik .i64) hx5)) ?_
    refine zA (r := i64 x5) rfl rfl rfl rfl rfl ?_
    refine zN ?_
    refine RunC.wl (τ' := [(0, sl a0.length (a0.map f32)), (1, i64 x5), (5, i64 v2)]) (Γ' := []) ⟨aR, aR, aR, trivial⟩ trivial ?_
    obtain ⟨x6, hx6, h2_⟩ := olet_some h2_
    refine RunC.regionW ?_
    refine zM (r := i64 v2) rfl rfl rfl rfl rfl ?_
    refine zL (r := i64 x6) rfl rfl rfl (LOp.eqr (LOp.add rfl rfl rfl) (congrArg (ik .i64) hx6)) ?_
    refine zA (r := i64 x6) rfl rfl rfl rfl rfl ?_
    refine zN ?_
    cases Option.some.inj h2_
    exact ⟨_, rfl, ⟨aR, aR, aR, trivial⟩, trivial⟩
  ·refine RunC.regionW ?_
   refine zM (r := i64 v2) rfl rfl rfl rfl rfl ?_
   refine zM (r := sl a0.length (a0.map f32)) rfl rfl rfl rfl rfl ?_
   refine zL (r := i64 (a0.length : Int)) rfl rfl rfl (LOp.len_sl und22 rfl rfl) ?_
   refine zL (r := b false) rfl rfl rfl (LOp.eqb (LOp.lss rfl rfl rfl) hc1) ?_
   refine zN ?_
   refine RunC.cond_false rfl rfl ?_
   refine RunC.exit ?_
   cases Option.some.inj h2_
   have hx := ho2 _ rfl
   exact ⟨v1, ⟨aR, trivial⟩, trivial, hx⟩
 ·rintro τ4 Γ4 ⟨v7, hw4, hd4, rfl⟩
  refine RunC.wl hw4 hd4 ?_
  replace h : w_heldFloat32S_k1 v7 = some q0 := h
  unfold w_heldFloat32S_k1 at h
  refine zQ ?_
  refine zM (r := i64 v7) rfl rfl rfl rfl rfl ?_
  refine zA (r := i64 v7) rfl rfl rfl rfl rfl ?_
  refine zN ?_
  refine RunC.ret ?_
  have hq := Option.some.inj h
  subst q0
  exact bodyQ.pure (.inr rfl) rfl (Res.one rfl (RV.tmp rfl))
noncomputable def w_FnExactUpdatedSolve (a0 : Int) (a1 : Int) (a2 : List F) (a3 : List Int) (a4 : List F) (a5 : List F) (a6 : List F) : Option (Bool) :=
 bsel (decide (1048576 < (a4.length : Int))) (
  some true) (
  bsel (decide (1048576 < (a5.length : Int))) (
   some true) (
   bsel (decide (1048576 < (a6.length : Int))) (
    some true) (
    obind (w_szFactor a0 a1 a2 a3 1048576) fun (r1 : Int) =>
    bsel (decide (r1 < 0)) (
     some true) (
     obind4 (w_toFactor a0 a1 a2 a3) fun (r2 : Int) (r3 : Int) (r4 : List F) (r5 : List Int) =>
     obind (w_toFloat32S a4) fun (r6 : List F) =>
     obind (w_toFloat32S a5) fun (r7 : List F) =>
     obind (w_toFloat32S a6) fun (r8 : List F) =>
     obind2 (s_UpdatedSolve r2 r3 r4 r5 r6 r7 r8) fun (r9 : Bool) (r10 : List F) =>
     obind4 (w_toFactor a0 a1 a2 a3) fun (r11 : Int) (r12 : Int) (r13 : List F) (r14 : List Int) =>
     obind (w_toFloat32S a4) fun (r15 : List F) =>
     obind (w_toFloat32S a5) fun (r16 : List F) =>
     obind (w_toFloat32S a6) fun (r17 : List F) =>
     obind2 (i_UpdatedSolve r11 r12 r13 r14 r15 r16 r17) fun (r18 : Bool) (r19 : List F) =>
     obind (w_eqFloat32S r19 r10) fun (r20 : Bool) =>
     bsel r20 (
      bsel (!(r18 == r9)) (
       some false) (
       obind4 (w_toFactor a0 a1 a2 a3) fun (r21 : Int) (r22 : Int) (r23 : List F) (r24 : List Int) =>
       obind (w_eqFactor r11 r12 r13 r14 r21 r22 r23 r24) fun (r25 : Bool) =>
       bsel r25 (
        obind (w_toFloat32S a4) fun (r26 : List F) =>
        obind (w_eqFloat32S r15 r26) fun (r27 : Bool) =>
        bsel r27 (
         obind (w_toFloat32S a5) fun (r28 : List F) =>
         obind (w_eqFloat32S r16 r28) fun (r29 : Bool) =>
         bsel r29 (
          obind (w_toFloat32S a6) fun (r30 : List F) =>
          obind (w_eqFloat32S r17 r30) fun (r31 : Bool) =>
          bsel r31 (
           obind3 (w_markFactor_02o_03o1 r11 r12 1 r13 r14) fun (r32 : Int) (r33 : List F) (r34 : List Int) =>
           need (decide (r33.length = r13.length)) <|
           need (decide (r34.length = r14.length)) <|
           obind2 (w_markFloat32S_0o r32 r15) fun (r35 : Int) (r36 : List F) =>
           need (decide (r36.length = r15.length)) <|
           obind2 (w_markFloat32S_0o r35 r16) fun (r37 : Int) (r38 : List F) =>
           need (decide (r38.length = r16.length)) <|
           obind2 (w_markFloat32S_0o r37 r17) fun (r39 : Int) (r40 : List F) =>
           need (decide (r40.length = r17.length)) <|
           bsel (decide (r39 < 0)) (
            some false) (
            obind (w_eqFloat32S r19 r10) fun (r41 : Bool) =>
            bsel r41 (
             obind2 (w_markFloat32S_0o 1 r19) fun (r42 : Int) (r43 : List F) =>
             need (decide (r43.length = r19.length)) <|
             obind (w_heldFloat32S r43 1) fun (r44 : Int) =>
             bsel (decide (r44 < 0)) (
              some false) (
              bsel (!decide (r44 = r42)) (
               some false) (
               obind4 (w_toFactor a0 a1 a2 a3) fun (r45 : Int) (r46 : Int) (r47 : List F) (r48 : List Int) =>
               obind (w_toFloat32S a4) fun (r49 : List F) =>
               obind (w_toFloat32S a5) fun (r50 : List F) =>
               obind (w_toFloat32S a6) fun (r51 : List F) =>
               obind2 (i_UpdatedSolve r45 r46 r47 r48 r49 r50 r51) fun (r52 : Bool) (r53 : List F) =>
               obind (w_eqFloat32S r53 r10) fun (r54 : Bool) =>
               bsel r54 (
                bsel (!(r52 == r9)) (
                 some false) (
                 obind (w_heldFloat32S r43 1) fun (r55 : Int) =>
                 bsel (decide (r55 < 0)) (
                  some false) (
                  bsel (!decide (r55 = r42)) (
                   some false) (
                   some true)))) (
                some false)))) (
             some false))) (
           some false)) (
          some false)) (
         some false)) (
        some false))) (
      some false)))))
theorem w_FnExactUpdatedSolve_ok (a0 : Int) (a1 : Int) (a2 : List F) (a3 : List Int) (a4 : List F) (a5 : List F) (a6 : List F) (q0 : Bool) (h : w_FnExactUpdatedSolve a0 a1 a2 a3 a4 a5 a6 = some q0) : Ev Tryz.prog 3 [agg [i64 a0, i64 a1, sl a2.length (a2.map f32), sl a3.length (a3.map i64)], sl a4.length (a4.map f32), sl a5.length (a5.map f32), sl a6.length (a6.map f32)] [] (b q0) [] := by
 refine Ev.start Tryz.func3 rfl rfl 9 (τ := [(0, agg [i64 a0, i64 a1, sl a2.length (a2.map f32), sl a3.length (a3.map i64)]), (1, sl a4.length (a4.map f32)), (2, sl a5.length (a5.map f32)), (3, sl a6.length (a6.map f32))]) rfl (Γ' := [⟨0, none⟩, ⟨0, none⟩, ⟨0, none⟩, ⟨0, none⟩, ⟨0, none⟩, ⟨0, none⟩, ⟨0, none⟩, ⟨0, none⟩, ⟨0, none⟩]) rfl (n := 319) rfl (g := 0) rfl (fun _ => rfl) ?_
 unfold w_FnExactUpdatedSolve at h
 refine zQ ?_
 refine ROps.d (r := ptr [i64 a0, i64 a1, sl a2.length (a2.map f32), sl a3.length (a3.map i64)]) (fs := []) (Γ' := [⟨0, none⟩, ⟨0, none⟩, ⟨0, none⟩, ⟨0, none⟩, ⟨0, none⟩, ⟨0, none⟩, ⟨0, none⟩, ⟨0, none⟩, ⟨0, none⟩]) rfl rfl rfl (TOp.box_s rfl rfl rfl) rfl ?_
 refine zA (r := b false) rfl rfl rfl rfl rfl ?_
 refine zN ?_
 refine RunC.seq ?_
 refine RunC.seq ?_
 rcases bsel_some h with ⟨hc1, h⟩ | ⟨hc1, h⟩
 ·refine RunC.regionW ?_
  refine zM (r := sl a4.length (a4.map f32)) rfl rfl rfl rfl rfl ?_
  refine zL (r := i64 (a4.length : Int)) rfl rfl rfl (LOp.len_sl und22 rfl rfl) ?_
  refine zL (r := b true) rfl rfl rfl (LOp.eqb (LOp.gtr rfl rfl rfl) hc1) ?_
  refine zN ?_
  refine RunC.cond_true rfl rfl ?_
  refine zQ ?_
  refine zA (r := b true) rfl rfl rfl rfl rfl ?_
  refine zN ?_
  refine RunC.ret ?_
  have hq := Option.some.inj h
  subst q0
  exact bodyQ.pure (.inr rfl) rfl (Res.one rfl (RV.tmp rfl))
 ·refine RunC.regionW ?_
  refine zM (r := sl a4.length (a4.map f32)) rfl rfl rfl rfl rfl ?_
  refine zL (r := i64 (a4.length : Int)) rfl rfl rfl (LOp.len_sl und22 rfl rfl) ?_
  refine zL (r := b false) rfl rfl rfl (LOp.eqb (LOp.gtr rfl rfl rfl) hc1) ?_
  refine zN ?_
  refine RunC.cond_false rfl rfl ?_
  refine RunC.skip ?_
  refine RunC.seq ?_
  refine RunC.seq ?_
  rcases bsel_some h with ⟨hc2, h⟩ | ⟨hc2, h⟩
  ·refine RunC.regionW ?_
   refine zM (r := sl a5.length (a5.map f32)) rfl rfl rfl rfl rfl ?_
   refine zL (r := i64 (a5.length : Int)) rfl rfl rfl (LOp.len_sl und22 rfl rfl) ?_
   refine zL (r := b true) rfl rfl rfl (LOp.eqb (LOp.gtr rfl rfl rfl) hc2) ?_
   refine zN ?_
   refine RunC.cond_true rfl rfl ?_
   refine zQ ?_
   refine zA (r := b true) rfl rfl rfl rfl rfl ?_
   refine zN ?_
   refine RunC.ret ?_
   have hq := Option.some.inj h
   subst q0
   exact bodyQ.pure (.inr rfl) rfl (Res.one rfl (RV.tmp rfl))
  ·refine RunC.regionW ?_
   refine zM (r := sl a5.length (a5.map f32)) rfl rfl rfl rfl rfl ?_
   refine zL (r := i64 (a5.length : Int)) rfl rfl rfl (LOp.len_sl und22 rfl rfl) ?_
   refine zL (r := b false) rfl rfl rfl (LOp.eqb (LOp.gtr rfl rfl rfl) hc2) ?_
   refine zN ?_
   refine RunC.cond_false rfl rfl ?_
   refine RunC.skip ?_
   refine RunC.seq ?_
   refine RunC.seq ?_
   rcases bsel_some h with ⟨hc3, h⟩ | ⟨hc3, h⟩
   ·refine RunC.regionW ?_
    refine zM (r := sl a6.length (a6.map f32)) rfl rfl rfl rfl rfl ?_
    refine zL (r := i64 (a6.length : Int)) rfl rfl rfl (LOp.len_sl und22 rfl rfl) ?_
    refine zL (r := b true) rfl rfl rfl (LOp.eqb (LOp.gtr rfl rfl rfl) hc3) ?_
    refine zN ?_
    refine RunC.cond_true rfl rfl ?_
    refine zQ ?_
    refine zA (r := b true) rfl rfl rfl rfl rfl ?_
    refine zN ?_
    refine RunC.ret ?_
    have hq := Option.some.inj h
    subst q0
    exact bodyQ.pure (.inr rfl) rfl (Res.one rfl (RV.tmp rfl))
   ·refine RunC.regionW ?_
    refine zM (r := sl a6.length (a6.map f32)) rfl rfl rfl rfl rfl ?_
    refine zL (r := i64 (a6.length : Int)) rfl rfl rfl (LOp.len_sl und22 rfl rfl) ?_
    refine zL (r := b false) rfl rfl rfl (LOp.eqb (LOp.gtr rfl rfl rfl) hc3) ?_
    refine zN ?_
    refine RunC.cond_false rfl rfl ?_
    refine RunC.skip ?_
    refine zQ ?_
    refine zA (r := i64 1048576) rfl rfl rfl rfl rfl ?_
    refine zN ?_
    refine RunC.seq ?_
    obtain ⟨r1, hf4, h⟩ := obind_some h
    refine RunC.regionW ?_
    refine zL (r := agg [i64 a0, i64 a1, sl a2.length (a2.map f32), sl a3.length (a3.map i64)]) rfl rfl rfl (LOp.loadAgg agg27 siz27 rfl rfl rfl rfl) ?_
    refine zM (r := i64 1048576) rfl rfl rfl rfl rfl ?_
    refine ROps.d (r := i64 r1) (fs := []) (Γ' := [⟨0, none⟩, ⟨0, none⟩, ⟨0, none⟩, ⟨0, none⟩, ⟨0, none⟩, ⟨0, none⟩, ⟨0, none⟩, ⟨0, none⟩, ⟨0, none⟩]) rfl rfl rfl (TOp.callB (CallAs.func ent4 rfl rfl) (Bors.cons (Bor.agg (Bors.cons (Bor.pure rfl) (Bors.cons (Bor.pure rfl) (Bors.cons (Bor.sl (fun _ => rfl)) (Bors.cons (Bor.sl (fun _ => rfl)) Bors.nil))))) (Bors.cons (Bor.pure rfl) Bors.nil)) rfl rfl (w_szFactor_ok a0 a1 a2 a3 1048576 r1 hf4)) rfl ?_
    refine zA (r := i64 r1) rfl rfl rfl rfl rfl ?_
    refine zN ?_
    refine RunC.seq ?_
    refine RunC.seq ?_
    rcases bsel_some h with ⟨hc5, h⟩ | ⟨hc5, h⟩
    ·refine RunC.regionW ?_
     refine zM (r := i64 r1) rfl rfl rfl rfl rfl ?_
     refine zL (r := b true) rfl rfl rfl (LOp.eqb (LOp.lss rfl rfl rfl) hc5) ?_
     refine zN ?_
     refine RunC.cond_true rfl rfl ?_
     refine zQ ?_
     refine zA (r := b true) rfl rfl rfl rfl rfl ?_
     refine zN ?_
     refine RunC.ret ?_
     have hq := Option.some.inj h
     subst q0
     exact bodyQ.pure (.inr rfl) rfl (Res.one rfl (RV.tmp rfl))
    ·refine RunC.regionW ?_
     refine zM (r := i64 r1) rfl rfl rfl rfl rfl ?_
     refine zL (r := b false) rfl rfl rfl (LOp.eqb (LOp.lss rfl rfl rfl) hc5) ?_
     refine zN ?_
     refine RunC.cond_false rfl rfl ?_
     refine RunC.skip ?_
     refine RunC.seq ?_
     obtain ⟨r2, r3, r4, r5, hf6, h⟩ := obind4_some h
     obtain ⟨r6, hf7, h⟩ := obind_some h
     obtain ⟨r7, hf8, h⟩ := obind_some h
     obtain ⟨r8, hf9, h⟩ := obind_some h
     obtain ⟨r9, r10, hf10, h⟩ := obind2_some h
     refine RunC.regionW ?_
     refine zL (r := agg [i64 a0, i64 a1, sl a2.length (a2.map f32), sl a3.length (a3.map i64)]) rfl rfl rfl (LOp.loadAgg agg27 siz27 rfl rfl rfl rfl) ?_
     refine ROps.d (r := agg [i64 r2, i64 r3, oref 0 1 0 r4.length, oref 1 1 0 r5.length]) (fs := [(0, (r4.map f32)), (1, (r5.map i64))]) (Γ' := [⟨1, some (r4.map f32)⟩, ⟨1, some (r5.map i64)⟩, ⟨0, none⟩, ⟨0, none⟩, ⟨0, none⟩, ⟨0, none⟩, ⟨0, none⟩, ⟨0, none⟩, ⟨0, none⟩]) rfl rfl rfl (TOp.callBN (ls := [(r4.map f32), (r5.map i64)]) [0, 1] (CallAs.func ent6 rfl rfl) (Bors.cons (Bor.agg (Bors.cons (Bor.pure rfl) (Bors.cons (Bor.pure rfl) (Bors.cons (Bor.sl (fun _ => rfl)) (Bors.cons (Bor.sl (fun _ => rfl)) Bors.nil))))) Bors.nil) rfl (w_toFactor_ok a0 a1 a2 a3 r2 r3 r4 r5 hf6) (and_all (lts0_map (f := f32) (fun _ => rfl) _) (and_all (lts0_map (f := i64) (fun _ => rfl) _) rfl)) (and_all (noss_map (f := f32) (fun _ => rfl) _) (and_all (noss_map (f := i64) (fun _ => rfl) _) rfl)) rfl (by decide) (ns_of ⟨⟨_, rfl⟩, ⟨_, rfl⟩, trivial⟩)) rfl ?_
     refine zM (r := sl a4.length (a4.map f32)) rfl rfl rfl rfl rfl ?_
     refine ROps.d (r := oref 2 1 0 r6.length) (fs := [(2, (r6.map f32))]) (Γ' := [⟨1, some (r4.map f32)⟩, ⟨1, some (r5.map i64)⟩, ⟨1, some (r6.map f32)⟩, ⟨0, none⟩, ⟨0, none⟩, ⟨0, none⟩, ⟨0, none⟩, ⟨0, none⟩, ⟨0, none⟩]) rfl rfl rfl (TOp.callBN (ls := [(r6.map f32)]) [2] (CallAs.func ent7 rfl rfl) (Bors.cons (Bor.sl (fun _ => rfl)) Bors.nil) rfl (w_toFloat32S_ok a4 r6 hf7) (and_all (lts0_map (f := f32) (fun _ => rfl) _) rfl) (and_all (noss_map (f := f32) (fun _ => rfl) _) rfl) rfl (by decide) (ns_of ⟨⟨_, rfl⟩, trivial⟩)) rfl ?_
     refine zM (r := sl a5.length (a5.map f32)) rfl rfl rfl rfl rfl ?_
     refine ROps.d (r := oref 3 1 0 r7.length) (fs := [(3, (r7.map f32))]) (Γ' := [⟨1, some (r4.map f32)⟩, ⟨1, some (r5.map i64)⟩, ⟨1, some (r6.map f32)⟩, ⟨1, some (r7.map f32)⟩, ⟨0, none⟩, ⟨0, none⟩, ⟨0, none⟩, ⟨0, none⟩, ⟨0, none⟩]) rfl rfl rfl (TOp.callBN (ls := [(r7.map f32)]) [3] (CallAs.func ent7 rfl rfl) (Bors.cons (Bor.sl (fun _ => rfl)) Bors.nil) rfl (w_toFloat32S_ok a5 r7 hf8) (and_all (lts0_map (f := f32) (fun _ => rfl) _) rfl) (and_all (noss_map (f := f32) (fun _ => rfl) _) rfl) rfl (by decide) (ns_of ⟨⟨_, rfl⟩, trivial⟩)) rfl ?_
     refine zM (r := sl a6.length (a6.map f32)) rfl rfl rfl rfl rfl ?_
     refine ROps.d (r := oref 4 1 0 r8.length) (fs := [(4, (r8.map f32))]) (Γ' := [⟨1, some (r4.map f32)⟩, ⟨1, some (r5.map i64)⟩, ⟨1, some (r6.map f32)⟩, ⟨1, some (r7.map f32)⟩, ⟨1, some (r8.map f32)⟩, ⟨0, none⟩, ⟨0, none⟩, ⟨0, none⟩, ⟨0, none⟩]) rfl rfl rfl (TOp.callBN (ls := [(r8.map f32)]) [4] (CallAs.func ent7 rfl rfl) (Bors.cons (Bor.sl (fun _ => rfl)) Bors.nil) rfl (w_toFloat32S_ok a6 r8 hf9) (and_all (lts0_map (f := f32) (fun _ => rfl) _) rfl) (and_all (noss_map (f := f32) (fun _ => rfl) _) rfl) rfl (by decide) (ns_of ⟨⟨_, rfl⟩, trivial⟩)) rfl ?_
     refine ROps.d (r := tup [oref 5 1 0 r10.length, b r9]) (fs := [(5, (r10.map f32))]) (Γ' := [⟨1, some (r4.map f32)⟩, ⟨1, some (r5.map i64)⟩, ⟨1, some (r6.map f32)⟩, ⟨1, some (r7.map f32)⟩, ⟨1, some (r8.map f32)⟩, ⟨1, some (r10.map f32)⟩, ⟨0, none⟩, ⟨0, none⟩, ⟨0, none⟩]) rfl rfl rfl (TOp.callBN (ls := [(r10.map f32)]) [5] (CallAs.func ent5 rfl rfl) (Bors.cons (Bor.agg (Bors.cons (Bor.pure rfl) (Bors.cons (Bor.pure rfl) (Bors.cons (Bor.own (f := f32) (fun _ => rfl) rfl rfl) (Bors.cons (Bor.own (f := i64) (fun _ => rfl) rfl rfl) Bors.nil))))) (Bors.cons (Bor.own (f := f32) (fun _ => rfl) rfl rfl) (Bors.cons (Bor.own (f := f32) (fun _ => rfl) rfl rfl) (Bors.cons (Bor.own (f := f32) (fun _ => rfl) rfl rfl) Bors.nil)))) rfl (s_UpdatedSolve_ok r2 r3 r4 r5 r6 r7 r8 r9 r10 hf10) (and_all (lts0_map (f := f32) (fun _ => rfl) _) rfl) (and_all (noss_map (f := f32) (fun _ => rfl) _) rfl) rfl (by decide) (ns_of ⟨⟨_, rfl⟩, trivial⟩)) rfl ?_
     refine zM (r := tup [oref 5 1 0 r10.length, b r9]) rfl rfl rfl rfl rfl ?_
     refine zL (r := oref 5 1 0 r10.length) rfl rfl rfl (LOp.extract rfl rfl rfl) ?_
     refine zL (r := b r9) rfl rfl rfl (LOp.extract rfl rfl rfl) ?_
     refine zA (r := oref 5 1 0 r10.length) rfl rfl rfl rfl rfl ?_
     refine zA (r := b r9) rfl rfl rfl rfl rfl ?_
     refine zN ?_
     refine RunC.wl (τ' := [(1, sl a4.length (a4.map f32)), (2, sl a5.length (a5.map f32)), (3, sl a6.length (a6.map f32)), (4, ptr [i64 a0, i64 a1, sl a2.length (a2.map f32), sl a3.length (a3.map i64)]), (10, oref 5 1 0 r10.length), (11, b r9)]) (Γ' := [⟨1, none⟩, ⟨1, none⟩, ⟨1, none⟩, ⟨1, none⟩, ⟨1, none⟩, ⟨1, some (r10.map f32)⟩, ⟨0, none⟩, ⟨0, none⟩, ⟨0, none⟩]) ⟨aR, aR, aR, aR, aR, aR, trivial⟩ ⟨⟨rfl, .inl rfl⟩, ⟨rfl, .inl rfl⟩, ⟨rfl, .inl rfl⟩, ⟨rfl, .inl rfl⟩, ⟨rfl, .inl rfl⟩, ⟨rfl, .inr rfl⟩, ⟨rfl, .inr rfl⟩, ⟨rfl, .inr rfl⟩, ⟨rfl, .inr rfl⟩, trivial⟩ ?_
     refine RunC.seq ?_
     obtain ⟨r11, r12, r13, r14, hf11, h⟩ := obind4_some h
     refine RunC.regionW ?_
     refine zL (r := agg [i64 a0, i64 a1, sl a2.length (a2.map f32), sl a3.length (a3.map i64)]) rfl rfl rfl (LOp.loadAgg agg27 siz27 rfl rfl rfl rfl) ?_
     refine ROps.d (r := agg [i64 r11, i64 r12, oref 0 2 0 r13.length, oref 1 2 0 r14.length]) (fs := [(0, (r13.map f32)), (1, (r14.map i64))]) (Γ' := [⟨2, some (r13.map f32)⟩, ⟨2, some (r14.map i64)⟩, ⟨1, none⟩, ⟨1, none⟩, ⟨1, none⟩, ⟨1, some (r10.map f32)⟩, ⟨0, none⟩, ⟨0, none⟩, ⟨0, none⟩]) rfl rfl rfl (TOp.callBN (ls := [(r13.map f32), (r14.map i64)]) [0, 1] (CallAs.func ent6 rfl rfl) (Bors.cons (Bor.agg (Bors.cons (Bor.pure rfl) (Bors.cons (Bor.pure rfl) (Bors.cons (Bor.sl (fun _ => rfl)) (Bors.cons (Bor.sl (fun _ => rfl)) Bors.nil))))) Bors.nil) rfl (w_toFactor_ok a0 a1 a2 a3 r11 r12 r13 r14 hf11) (and_all (lts0_map (f := f32) (fun _ => rfl) _) (and_all (lts0_map (f := i64) (fun _ => rfl) _) rfl)) (and_all (noss_map (f := f32) (fun _ => rfl) _) (and_all (noss_map (f := i64) (fun _ => rfl) _) rfl)) rfl (by decide) (ns_of ⟨⟨_, rfl⟩, ⟨_, rfl⟩, trivial⟩)) rfl ?_
     refine ROps.d (r := optr 2 2 0) (fs := [(2, [i64 0, i64 0, nilsl, nilsl])]) (Γ' := [⟨2, some (r13.map f32)⟩, ⟨2, some (r14.map i64)⟩, ⟨2, some [i64 0, i64 0, nilsl, nilsl]⟩, ⟨1, none⟩, ⟨1, none⟩, ⟨1, some (r10.map f32)⟩, ⟨0, none⟩, ⟨0, none⟩, ⟨0, none⟩]) rfl rfl rfl (TOp.alloc_o (g := ⟨1, none⟩) 2 rfl zer33 zok33 rfl) rfl ?_
     refine ROps.store_le (r := agg [i64 r11, i64 r12, oref 0 2 0 r13.length, oref 1 2 0 r14.length]) (l' := [i64 r11, i64 r12, oref 0 2 0 r13.length, oref 1 2 0 r14.length]) (Γ' := [⟨2, some (r13.map f32)⟩, ⟨2, some (r14.map i64)⟩, ⟨2, some [i64 r11, i64 r12, oref 0 2 0 r13.length, oref 1 2 0 r14.length]⟩, ⟨1, none⟩, ⟨1, none⟩, ⟨1, some (r10.map f32)⟩, ⟨0, none⟩, ⟨0, none⟩, ⟨0, none⟩]) rfl siz33 rfl rfl rfl aR rfl rfl rfl rfl (Nat.le_of_ble_eq_true rfl) rfl rfl ?_
     refine zN ?_
     refine RunC.seq ?_
     obtain ⟨r15, hf12, h⟩ := obind_some h
     refine RunC.regionW ?_
     refine zM (r := sl a4.length (a4.map f32)) rfl rfl rfl rfl rfl ?_
     refine ROps.d (r := oref 3 2 0 r15.length) (fs := [(3, (r15.map f32))]) (Γ' := [⟨2, some (r13.map f32)⟩, ⟨2, some (r14.map i64)⟩, ⟨2, some [i64 r11, i64 r12, oref 0 2 0 r13.length, oref 1 2 0 r14.length]⟩, ⟨2, some (r15.map f32)⟩, ⟨1, none⟩, ⟨1, some (r10.map f32)⟩, ⟨0, none⟩, ⟨0, none⟩, ⟨0, none⟩]) rfl rfl rfl (TOp.callBN (ls := [(r15.map f32)]) [3] (CallAs.func ent7 rfl rfl) (Bors.cons (Bor.sl (fun _ => rfl)) Bors.nil) rfl (w_toFloat32S_ok a4 r15 hf12) (and_all (lts0_map (f := f32) (fun _ => rfl) _) rfl) (and_all (noss_map (f := f32) (fun _ => rfl) _) rfl) rfl (by decide) (ns_of ⟨⟨_, rfl⟩, trivial⟩)) rfl ?_
     refine zA (r := oref 3 2 0 r15.length) rfl rfl rfl rfl rfl ?_
     refine zN ?_
     refine RunC.seq ?_
     obtain ⟨r16, hf13, h⟩ := obind_some h
     refine RunC.regionW ?_
     refine zM (r := sl a5.length (a5.map f32)) rfl rfl rfl rfl rfl ?_
     refine ROps.d (r := oref 4 2 0 r16.length) (fs := [(4, (r16.map f32))]) (Γ' := [⟨2, some (r13.map f32)⟩, ⟨2, some (r14.map i64)⟩, ⟨2, some [i64 r11, i64 r12, oref 0 2 0 r13.length, oref 1 2 0 r14.length]⟩, ⟨2, some (r15.map f32)⟩, ⟨2, some (r16.map f32)⟩, ⟨1, some (r10.map f32)⟩, ⟨0, none⟩, ⟨0, none⟩, ⟨0, none⟩]) rfl rfl rfl (TOp.callBN (ls := [(r16.map f32)]) [4] (CallAs.func ent7 rfl rfl) (Bors.cons (Bor.sl (fun _ => rfl)) Bors.nil) rfl (w_toFloat32S_ok a5 r16 hf13) (and_all (lts0_map (f := f32) (fun _ => rfl) _) rfl) (and_all (noss_map (f := f32) (fun _ => rfl) _) rfl) rfl (by decide) (ns_of ⟨⟨_, rfl⟩, trivial⟩)) rfl ?_
     refine zA (r := oref 4 2 0 r16.length) rfl rfl rfl rfl rfl ?_
     refine zN ?_
     refine RunC.seq ?_
     obtain ⟨r17, hf14, h⟩ := obind_some h
     refine RunC.regionW ?_
     refine zM (r := sl a6.length (a6.map f32)) rfl rfl rfl rfl rfl ?_
     refine ROps.d (r := oref 6 1 0 r17.length) (fs := [(6, (r17.map f32))]) (Γ' := [⟨2, some (r13.map f32)⟩, ⟨2, some (r14.map i64)⟩, ⟨2, some [i64 r11, i64 r12, oref 0 2 0 r13.length, oref 1 2 0 r14.length]⟩, ⟨2, some (r15.map f32)⟩, ⟨2, some (r16.map f32)⟩, ⟨1, some (r10.map f32)⟩, ⟨1, some (r17.map f32)⟩, ⟨0, none⟩, ⟨0, none⟩]) rfl rfl rfl (TOp.callBN (ls := [(r17.map f32)]) [6] (CallAs.func ent7 rfl rfl) (Bors.cons (Bor.sl (fun _ => rfl)) Bors.nil) rfl (w_toFloat32S_ok a6 r17 hf14) (and_all (lts0_map (f := f32) (fun _ => rfl) _) rfl) (and_all (noss_map (f := f32) (fun _ => rfl) _) rfl) rfl (by decide) (ns_of ⟨⟨_, rfl⟩, trivial⟩)) rfl ?_
     refine zA (r := oref 6 1 0 r17.length) rfl rfl rfl rfl rfl ?_
     refine zN ?_
     refine RunC.seq ?_
     obtain ⟨r18, r19, hf15, h⟩ := obind2_some h
     refine RunC.regionW ?_
     refine ROps.d (r := agg [i64 r11, i64 r12, oref 0 2 0 r13.length, oref 1 2 0 r14.length]) (fs := []) (Γ' := [⟨2, some (r13.map f32)⟩, ⟨2, some (r14.map i64)⟩, ⟨2, some [i64 r11, i64 r12, oref 0 2 0 r13.length, oref 1 2 0 r14.length]⟩, ⟨2, some (r15.map f32)⟩, ⟨2, some (r16.map f32)⟩, ⟨1, some (r10.map f32)⟩, ⟨1, some (r17.map f32)⟩, ⟨0, none⟩, ⟨0, none⟩]) rfl rfl rfl (TOp.loadAgg_o rfl agg33 siz33 rfl rfl rfl rfl) rfl ?_
     refine zM (r := oref 3 2 0 r15.length) rfl rfl rfl rfl rfl ?_
     refine zM (r := oref 4 2 0 r16.length) rfl rfl rfl rfl rfl ?_
     refine zM (r := oref 6 1 0 r17.length) rfl rfl rfl rfl rfl ?_
     refine ROps.d (r := tup [oref 7 1 0 r19.length, b r18]) (fs := [(7, (r19.map f32))]) (Γ' := [⟨2, some (r13.map f32)⟩, ⟨2, some (r14.map i64)⟩, ⟨2, some [i64 r11, i64 r12, oref 0 2 0 r13.length, oref 1 2 0 r14.length]⟩, ⟨2, some (r15.map f32)⟩, ⟨2, some (r16.map f32)⟩, ⟨1, some (r10.map f32)⟩, ⟨1, some (r17.map f32)⟩, ⟨1, some (r19.map f32)⟩, ⟨0, none⟩]) rfl rfl rfl (TOp.callBN (ls := [(r19.map f32)]) [7] (CallAs.func ent8 rfl rfl) (Bors.cons (Bor.agg (Bors.cons (Bor.pure rfl) (Bors.cons (Bor.pure rfl) (Bors.cons (Bor.own (f := f32) (fun _ => rfl) rfl rfl) (Bors.cons (Bor.own (f := i64) (fun _ => rfl) rfl rfl) Bors.nil))))) (Bors.cons (Bor.own (f := f32) (fun _ => rfl) rfl rfl) (Bors.cons (Bor.own (f := f32) (fun _ => rfl) rfl rfl) (Bors.cons (Bor.own (f := f32) (fun _ => rfl) rfl rfl) Bors.nil)))) rfl (i_UpdatedSolve_ok r11 r12 r13 r14 r15 r16 r17 r18 r19 hf15) (and_all (lts0_map (f := f32) (fun _ => rfl) _) rfl) (and_all (noss_map (f := f32) (fun _ => rfl) _) rfl) rfl (by decide) (ns_of ⟨⟨_, rfl⟩, trivial⟩)) rfl ?_
     refine zM (r := tup [oref 7 1 0 r19.length, b r18]) rfl rfl rfl rfl rfl ?_
     refine zL (r := oref 7 1 0 r19.length) rfl rfl rfl (LOp.extract rfl rfl rfl) ?_
     refine zL (r := b r18) rfl rfl rfl (LOp.extract rfl rfl rfl) ?_
     refine zA (r := oref 7 1 0 r19.length) rfl rfl rfl rfl rfl ?_
     refine zA (r := b r18) rfl rfl rfl rfl rfl ?_
     refine zN ?_
     refine RunC.seq ?_
     refine RunC.seq ?_
     obtain ⟨r20, hf16, h⟩ := obind_some h
     rcases bsel_some h with ⟨hc17, h⟩ | ⟨hc17, h⟩
     ·rcases bsel_some h with ⟨hc18, h⟩ | ⟨hc18, h⟩
      ·refine RunC.regionW ?_
       refine zM (r := oref 7 1 0 r19.length) rfl rfl rfl rfl rfl ?_
       refine zM (r := oref 5 1 0 r10.length) rfl rfl rfl rfl rfl ?_
       refine ROps.d (r := b true) (fs := []) (Γ' := [⟨2, some (r13.map f32)⟩, ⟨2, some (r14.map i64)⟩, ⟨2, some [i64 r11, i64 r12, oref 0 2 0 r13.length, oref 1 2 0 r14.length]⟩, ⟨2, some (r15.map f32)⟩, ⟨2, some (r16.map f32)⟩, ⟨1, some (r10.map f32)⟩, ⟨1, some (r17.map f32)⟩, ⟨1, some (r19.map f32)⟩, ⟨0, none⟩]) rfl rfl rfl (TOp.eqb (TOp.callB (CallAs.func ent9 rfl rfl) (Bors.cons (Bor.own (f := f32) (fun _ => rfl) rfl rfl) (Bors.cons (Bor.own (f := f32) (fun _ => rfl) rfl rfl) Bors.nil)) rfl rfl (w_eqFloat32S_ok r19 r10 r20 hf16)) hc17) rfl ?_
       refine zL (r := b false) rfl rfl rfl (LOp.eqb (LOp.not rfl rfl) rfl) ?_
       refine zM (r := b false) rfl rfl rfl rfl rfl ?_
       refine zM (r := b r18) rfl rfl rfl rfl rfl ?_
       refine zM (r := b r9) rfl rfl rfl rfl rfl ?_
       refine zL (r := b true) rfl rfl rfl (LOp.eqb (LOp.neqb pun4 rfl rfl rfl) hc18) ?_
       refine zL (r := b true) rfl rfl rfl (LOp.pick_false rfl rfl rfl) ?_
       refine zN ?_
       refine RunC.wl (τ' := [(1, sl a4.length (a4.map f32)), (2, sl a5.length (a5.map f32)), (3, sl a6.length (a6.map f32)), (4, ptr [i64 a0, i64 a1, sl a2.length (a2.map f32), sl a3.length (a3.map i64)]), (10, oref 5 1 0 r10.length), (11, b r9), (12, optr 2 2 0), (13, oref 3 2 0 r15.length), (14, oref 4 2 0 r16.length), (15, oref 6 1 0 r17.length), (16, oref 7 1 0 r19.length), (17, b r18), (73, b true)]) (Γ' := [⟨2, some (r13.map f32)⟩, ⟨2, some (r14.map i64)⟩, ⟨2, some [i64 r11, i64 r12, oref 0 2 0 r13.length, oref 1 2 0 r14.length]⟩, ⟨2, some (r15.map f32)⟩, ⟨2, some (r16.map f32)⟩, ⟨1, some (r10.map f32)⟩, ⟨1, some (r17.map f32)⟩, ⟨1, some (r19.map f32)⟩, ⟨0, none⟩]) ⟨aR, aR, aR, aR, aR, aR, aR, aR, aR, aR, aR, aR, aR, trivial⟩ ⟨⟨rfl, .inr rfl⟩, ⟨rfl, .inr rfl⟩, ⟨rfl, .inr rfl⟩, ⟨rfl, .inr rfl⟩, ⟨rfl, .inr rfl⟩, ⟨rfl, .inr rfl⟩, ⟨rfl, .inr rfl⟩, ⟨rfl, .inr rfl⟩, ⟨rfl, .inr rfl⟩, trivial⟩ ?_
       refine RunC.cond_true rfl rfl ?_
       refine zQ ?_
       refine zA (r := b false) rfl rfl rfl rfl rfl ?_
       refine zN ?_
       refine RunC.ret ?_
       have hq := Option.some.inj h
       subst q0
       exact bodyQ.pure (.inr rfl) rfl (Res.one rfl (RV.tmp rfl))
      ·refine RunC.regionW ?_
       refine zM (r := oref 7 1 0 r19.length) rfl rfl rfl rfl rfl ?_
       refine zM (r := oref 5 1 0 r10.length) rfl rfl rfl rfl rfl ?_
       refine ROps.d (r := b true) (fs := []) (Γ' := [⟨2, some (r13.map f32)⟩, ⟨2, some (r14.map i64)⟩, ⟨2, some [i64 r11, i64 r12, oref 0 2 0 r13.length, oref 1 2 0 r14.length]⟩, ⟨2, some (r15.map f32)⟩, ⟨2, some (r16.map f32)⟩, ⟨1, some (r10.map f32)⟩, ⟨1, some (r17.map f32)⟩, ⟨1, some (r19.map f32)⟩, ⟨0, none⟩]) rfl rfl rfl (TOp.eqb (TOp.callB (CallAs.func ent9 rfl rfl) (Bors.cons (Bor.own (f := f32) (fun _ => rfl) rfl rfl) (Bors.cons (Bor.own (f := f32) (fun _ => rfl) rfl rfl) Bors.nil)) rfl rfl (w_eqFloat32S_ok r19 r10 r20 hf16)) hc17) rfl ?_
       refine zL (r := b false) rfl rfl rfl (LOp.eqb (LOp.not rfl rfl) rfl) ?_
       refine zM (r := b false) rfl rfl rfl rfl rfl ?_
       refine zM (r := b r18) rfl rfl rfl rfl rfl ?_
       refine zM (r := b r9) rfl rfl rfl rfl rfl ?_
       refine zL (r := b false) rfl rfl rfl (LOp.eqb (LOp.neqb pun4 rfl rfl rfl) hc18) ?_
       refine zL (r := b false) rfl rfl rfl (LOp.pick_false rfl rfl rfl) ?_
       refine zN ?_
       refine RunC.wl (τ' := [(1, sl a4.length (a4.map f32)), (2, sl a5.length (a5.map f32)), (3, sl a6.length (a6.map f32)), (4, ptr [i64 a0, i64 a1, sl a2.length (a2.map f32), sl a3.length (a3.map i64)]), (10, oref 5 1 0 r10.length), (11, b r9), (12, optr 2 2 0), (13, oref 3 2 0 r15.length), (14, oref 4 2 0 r16.length), (15, oref 6 1 0 r17.length), (16, oref 7 1 0 r19.length), (17, b r18), (73, b false)]) (Γ' := [⟨2, some (r13.map f32)⟩, ⟨2, some (r14.map i64)⟩, ⟨2, some [i64 r11, i64 r12, oref 0 2 0 r13.length, oref 1 2 0 r14.length]⟩, ⟨2, some (r15.map f32)⟩, ⟨2, some (r16.map f32)⟩, ⟨1, some (r10.map f32)⟩, ⟨1, some (r17.map f32)⟩, ⟨1, some (r19.map f32)⟩, ⟨0, none⟩]) ⟨aR, aR, aR, aR, aR, aR, aR, aR, aR, aR, aR, aR, aR, trivial⟩ ⟨⟨rfl, .inr rfl⟩, ⟨rfl, .inr rfl⟩, ⟨rfl, .inr rfl⟩, ⟨rfl, .inr rfl⟩, ⟨rfl, .inr rfl⟩, ⟨rfl, .inr rfl⟩, ⟨rfl, .inr rfl⟩, ⟨rfl, .inr rfl⟩, ⟨rfl, .inr rfl⟩, trivial⟩ ?_
       refine RunC.cond_false rfl rfl ?_
       refine RunC.skip ?_
       refine RunC.seq ?_
       refine RunC.seq ?_
       obtain ⟨r21, r22, r23, r24, hf19, h⟩ := obind4_some h
       obtain ⟨r25, hf20, h⟩ := obind_some h
       rcases bsel_some h with ⟨hc21, h⟩ | ⟨hc21, h⟩
       ·refine RunC.region_draw (Γ' := [⟨2, some (r13.map f32)⟩, ⟨2, some (r14.map i64)⟩, ⟨2, some [i64 r11, i64 r12, oref 0 2 0 r13.length, oref 1 2 0 r14.length]⟩, ⟨2, some (r15.map f32)⟩, ⟨2, some (r16.map f32)⟩, ⟨1, some (r10.map f32)⟩, ⟨1, some (r17.map f32)⟩, ⟨1, some (r19.map f32)⟩, ⟨0, none⟩]) 5 mixed 
         (TR.d (r := agg [i64 r11, i64 r12, oref 0 2 0 r13.length, oref 1 2 0 r14.length]) (fs := []) rfl rfl (TOp.loadAgg_o rfl agg33 siz33 rfl rfl rfl rfl) <|
         (TR.l (r := agg [i64 a0, i64 a1, sl a2.length (a2.map f32), sl a3.length (a3.map i64)]) rfl rfl (LOp.loadAgg agg27 siz27 rfl rfl rfl rfl) <|
         (TR.d (r := agg [i64 r21, i64 r22, sl r23.length (r23.map f32), sl r24.length (r24.map i64)]) (fs := []) rfl rfl (TOp.callS (CallAs.func ent6 rfl rfl) (ALes.cons aR ALes.nil) (lts_cons (lt_agg (lts_cons rfl (lts_cons rfl (lts_cons (lt_sl (fun _ => rfl)) (lts_cons (lt_sl (fun _ => rfl)) lts_nil))))) lts_nil) (lt_agg (lts_cons rfl (lts_cons rfl (lts_cons (lt_sl (fun _ => rfl)) (lts_cons (lt_sl (fun _ => rfl)) lts_nil))))) (w_toFactor_ok a0 a1 a2 a3 r21 r22 r23 r24 hf19) (Bor.agg (Bors.cons (Bor.pure rfl) (Bors.cons (Bor.pure rfl) (Bors.cons (Bor.own (f := f32) (fun _ => rfl) rfl rfl) (Bors.cons (Bor.own (f := i64) (fun _ => rfl) rfl rfl) Bors.nil)))))) <|
         (TR.d (r := b true) (fs := []) rfl rfl (TOp.eqb (TOp.callB (CallAs.func ent10 rfl rfl) (Bors.cons (Bor.agg (Bors.cons (Bor.pure rfl) (Bors.cons (Bor.pure rfl) (Bors.cons (Bor.own (f := f32) (fun _ => rfl) rfl rfl) (Bors.cons (Bor.own (f := i64) (fun _ => rfl) rfl rfl) Bors.nil))))) (Bors.cons (Bor.agg (Bors.cons (Bor.pure rfl) (Bors.cons (Bor.pure rfl) (Bors.cons (Bor.sl (fun _ => rfl)) (Bors.cons (Bor.sl (fun _ => rfl)) Bors.nil))))) Bors.nil)) rfl rfl (w_eqFactor_ok r11 r12 r13 r14 r21 r22 r23 r24 r25 hf20)) hc21) <|
         (TR.l (r := b false) rfl rfl (LOp.eqb (LOp.not rfl rfl) rfl) <|
         TR.nil))))) rfl (by kernel_rfl) rfl fills_nil rfl ?_
        iterate 5 refine ROps.dropS ?_
        refine ROps.drop0 ?_
        refine zN ?_
        refine RunC.cond_false rfl rfl ?_
        refine RunC.skip ?_
        refine RunC.seq ?_
        refine RunC.seq ?_
        obtain ⟨r26, hf22, h⟩ := obind_some h
        obtain ⟨r27, hf23, h⟩ := obind_some h
        rcases bsel_some h with ⟨hc24, h⟩ | ⟨hc24, h⟩
        ·refine RunC.regionW ?_
         refine zM (r := oref 3 2 0 r15.length) rfl rfl rfl rfl rfl ?_
         refine zM (r := sl a4.length (a4.map f32)) rfl rfl rfl rfl rfl ?_
         refine ROps.d (r := oref 8 1 0 r26.length) (fs := [(8, (r26.map f32))]) (Γ' := [⟨2, some (r13.map f32)⟩, ⟨2, some (r14.map i64)⟩, ⟨2, some [i64 r11, i64 r12, oref 0 2 0 r13.length, oref 1 2 0 r14.length]⟩, ⟨2, some (r15.map f32)⟩, ⟨2, some (r16.map f32)⟩, ⟨1, some (r10.map f32)⟩, ⟨1, some (r17.map f32)⟩, ⟨1, some (r19.map f32)⟩, ⟨1, some (r26.map f32)⟩]) rfl rfl rfl (TOp.callBN (ls := [(r26.map f32)]) [8] (CallAs.func ent7 rfl rfl) (Bors.cons (Bor.sl (fun _ => rfl)) Bors.nil) rfl (w_toFloat32S_ok a4 r26 hf22) (and_all (lts0_map (f := f32) (fun _ => rfl) _) rfl) (and_all (noss_map (f := f32) (fun _ => rfl) _) rfl) rfl (by decide) (ns_of ⟨⟨_, rfl⟩, trivial⟩)) rfl ?_
         refine ROps.d (r := b true) (fs := []) (Γ' := [⟨2, some (r13.map f32)⟩, ⟨2, some (r14.map i64)⟩, ⟨2, some [i64 r11, i64 r12, oref 0 2 0 r13.length, oref 1 2 0 r14.length]⟩, ⟨2, some (r15.map f32)⟩, ⟨2, some (r16.map f32)⟩, ⟨1, some (r10.map f32)⟩, ⟨1, some (r17.map f32)⟩, ⟨1, some (r19.map f32)⟩, ⟨1, some (r26.map f32)⟩]) rfl rfl rfl (TOp.eqb (TOp.callB (CallAs.func ent9 rfl rfl) (Bors.cons (Bor.own (f := f32) (fun _ => rfl) rfl rfl) (Bors.cons (Bor.own (f := f32) (fun _ => rfl) rfl rfl) Bors.nil)) rfl rfl (w_eqFloat32S_ok r15 r26 r27 hf23)) hc24) rfl ?_
         refine zL (r := b false) rfl rfl rfl (LOp.eqb (LOp.not rfl rfl) rfl) ?_
         refine zN ?_
         refine RunC.wl (τ' := [(1, sl a4.length (a4.map f32)), (2, sl a5.length (a5.map f32)), (3, sl a6.length (a6.map f32)), (4, ptr [i64 a0, i64 a1, sl a2.length (a2.map f32), sl a3.length (a3.map i64)]), (10, oref 5 1 0 r10.length), (11, b r9), (12, optr 2 2 0), (13, oref 3 2 0 r15.length), (14, oref 4 2 0 r16.length), (15, oref 6 1 0 r17.length), (16, oref 7 1 0 r19.length), (17, b r18), (83, b false)]) (Γ' := [⟨2, some (r13.map f32)⟩, ⟨2, some (r14.map i64)⟩, ⟨2, some [i64 r11, i64 r12, oref 0 2 0 r13.length, oref 1 2 0 r14.length]⟩, ⟨2, some (r15.map f32)⟩, ⟨2, some (r16.map f32)⟩, ⟨1, some (r10.map f32)⟩, ⟨1, some (r17.map f32)⟩, ⟨1, some (r19.map f32)⟩, ⟨1, none⟩]) ⟨aR, aR, aR, aR, aR, aR, aR, aR, aR, aR, aR, aR, aR, trivial⟩ ⟨⟨rfl, .inr rfl⟩, ⟨rfl, .inr rfl⟩, ⟨rfl, .inr rfl⟩, ⟨rfl, .inr rfl⟩, ⟨rfl, .inr rfl⟩, ⟨rfl, .inr rfl⟩, ⟨rfl, .inr rfl⟩, ⟨rfl, .inr rfl⟩, ⟨rfl, .inl rfl⟩, trivial⟩ ?_
         refine RunC.cond_false rfl rfl ?_
         refine RunC.skip ?_
         refine RunC.seq ?_
         refine RunC.seq ?_
         obtain ⟨r28, hf25, h⟩ := obind_some h
         obtain ⟨r29, hf26, h⟩ := obind_some h
         rcases bsel_some h with ⟨hc27, h⟩ | ⟨hc27, h⟩
         ·refine RunC.regionW ?_
          refine zM (r := oref 4 2 0 r16.length) rfl rfl rfl rfl rfl ?_
          refine zM (r := sl a5.length (a5.map f32)) rfl rfl rfl rfl rfl ?_
          refine ROps.d (r := oref 8 2 0 r28.length) (fs := [(8, (r28.map f32))]) (Γ' := [⟨2, some (r13.map f32)⟩, ⟨2, some (r14.map i64)⟩, ⟨2, some [i64 r11, i64 r12, oref 0 2 0 r13.length, oref 1 2 0 r14.length]⟩, ⟨2, some (r15.map f32)⟩, ⟨2, some (r16.map f32)⟩, ⟨1, some (r10.map f32)⟩, ⟨1, some (r17.map f32)⟩, ⟨1, some (r19.map f32)⟩, ⟨2, some (r28.map f32)⟩]) rfl rfl rfl (TOp.callBN (ls := [(r28.map f32)]) [8] (CallAs.func ent7 rfl rfl) (Bors.cons (Bor.sl (fun _ => rfl)) Bors.nil) rfl (w_toFloat32S_ok a5 r28 hf25) (and_all (lts0_map (f := f32) (fun _ => rfl) _) rfl) (and_all (noss_map (f := f32) (fun _ => rfl) _) rfl) rfl (by decide) (ns_of ⟨⟨_, rfl⟩, trivial⟩)) rfl ?_
          refine ROps.d (r := b true) (fs := []) (Γ' := [⟨2, some (r13.map f32)⟩, ⟨2, some (r14.map i64)⟩, ⟨2, some [i64 r11, i64 r12, oref 0 2 0 r13.length, oref 1 2 0 r14.length]⟩, ⟨2, some (r15.map f32)⟩, ⟨2, some (r16.map f32)⟩, ⟨1, some (r10.map f32)⟩, ⟨1, some (r17.map f32)⟩, ⟨1, some (r19.map f32)⟩, ⟨2, some (r28.map f32)⟩]) rfl rfl rfl (TOp.eqb (TOp.callB (CallAs.func ent9 rfl rfl) (Bors.cons (Bor.own (f := f32) (fun _ => rfl) rfl rfl) (Bors.cons (Bor.own (f := f32) (fun _ => rfl) rfl rfl) Bors.nil)) rfl rfl (w_eqFloat32S_ok r16 r28 r29 hf26)) hc27) rfl ?_
          refine zL (r := b false) rfl rfl rfl (LOp.eqb (LOp.not rfl rfl) rfl) ?_
          refine zN ?_
          refine RunC.wl (τ' := [(1, sl a4.length (a4.map f32)), (2, sl a5.length (a5.map f32)), (3, sl a6.length (a6.map f32)), (4, ptr [i64 a0, i64 a1, sl a2.length (a2.map f32), sl a3.length (a3.map i64)]), (10, oref 5 1 0 r10.length), (11, b r9), (12, optr 2 2 0), (13, oref 3 2 0 r15.length), (14, oref 4 2 0 r16.length), (15, oref 6 1 0 r17.length), (16, oref 7 1 0 r19.length), (17, b r18), (88, b false)]) (Γ' := [⟨2, some (r13.map f32)⟩, ⟨2, some (r14.map i64)⟩, ⟨2, some [i64 r11, i64 r12, oref 0 2 0 r13.length, oref 1 2 0 r14.length]⟩, ⟨2, some (r15.map f32)⟩, ⟨2, some (r16.map f32)⟩, ⟨1, some (r10.map f32)⟩, ⟨1, some (r17.map f32)⟩, ⟨1, some (r19.map f32)⟩, ⟨2, none⟩]) ⟨aR, aR, aR, aR, aR, aR, aR, aR, aR, aR, aR, aR, aR, trivial⟩ ⟨⟨rfl, .inr rfl⟩, ⟨rfl, .inr rfl⟩, ⟨rfl, .inr rfl⟩, ⟨rfl, .inr rfl⟩, ⟨rfl, .inr rfl⟩, ⟨rfl, .inr rfl⟩, ⟨rfl, .inr rfl⟩, ⟨rfl, .inr rfl⟩, ⟨rfl, .inl rfl⟩, trivial⟩ ?_
          refine RunC.cond_false rfl rfl ?_
          refine RunC.skip ?_
          refine RunC.seq ?_
          refine RunC.seq ?_
          obtain ⟨r30, hf28, h⟩ := obind_some h
          obtain ⟨r31, hf29, h⟩ := obind_some h
          rcases bsel_some h with ⟨hc30, h⟩ | ⟨hc30, h⟩
          ·refine RunC.regionW ?_
           refine zM (r := oref 6 1 0 r17.length) rfl rfl rfl rfl rfl ?_
           refine zM (r := sl a6.length (a6.map f32)) rfl rfl rfl rfl rfl ?_
           refine ROps.d (r := oref 8 3 0 r30.length) (fs := [(8, (r30.map f32))]) (Γ' := [⟨2, some (r13.map f32)⟩, ⟨2, some (r14.map i64)⟩, ⟨2, some [i64 r11, i64 r12, oref 0 2 0 r13.length, oref 1 2 0 r14.length]⟩, ⟨2, some (r15.map f32)⟩, ⟨2, some (r16.map f32)⟩, ⟨1, some (r10.map f32)⟩, ⟨1, some (r17.map f32)⟩, ⟨1, some (r19.map f32)⟩, ⟨3, some (r30.map f32)⟩]) rfl rfl rfl (TOp.callBN (ls := [(r30.map f32)]) [8] (CallAs.func ent7 rfl rfl) (Bors.cons (Bor.sl (fun _ => rfl)) Bors.nil) rfl (w_toFloat32S_ok a6 r30 hf28) (and_all (lts0_map (f := f32) (fun _ => rfl) _) rfl) (and_all (noss_map (f := f32) (fun _ => rfl) _) rfl) rfl (by decide) (ns_of ⟨⟨_, rfl⟩, trivial⟩)) rfl ?_
           refine ROps.d (r := b true) (fs := []) (Γ' := [⟨2, some (r13.map f32)⟩, ⟨2, some (r14.map i64)⟩, ⟨2, some [i64 r11, i64 r12, oref 0 2 0 r13.length, oref 1 2 0 r14.length]⟩, ⟨2, some (r15.map f32)⟩, ⟨2, some (r16.map f32)⟩, ⟨1, some (r10.map f32)⟩, ⟨1, some (r17.map f32)⟩, ⟨1, some (r19.map f32)⟩, ⟨3, some (r30.map f32)⟩]) rfl rfl rfl (TOp.eqb (TOp.callB (CallAs.func ent9 rfl rfl) (Bors.cons (Bor.own (f := f32) (fun _ => rfl) rfl rfl) (Bors.cons (Bor.own (f := f32) (fun _ => rfl) rfl rfl) Bors.nil)) rfl rfl (w_eqFloat32S_ok r17 r30 r31 hf29)) hc30) rfl ?_
           refine zL (r := b false) rfl rfl rfl (LOp.eqb (LOp.not rfl rfl) rfl) ?_
           refine zN ?_
           refine RunC.wl (τ' := [(1, sl a4.length (a4.map f32)), (2, sl a5.length (a5.map f32)), (3, sl a6.length (a6.map f32)), (4, ptr [i64 a0, i64 a1, sl a2.length (a2.map f32), sl a3.length (a3.map i64)]), (10, oref 5 1 0 r10.length), (11, b r9), (12, optr 2 2 0), (13, oref 3 2 0 r15.length), (14, oref 4 2 0 r16.length), (15, oref 6 1 0 r17.length), (16, oref 7 1 0 r19.length), (17, b r18), (93, b false)]) (Γ' := [⟨2, some (r13.map f32)⟩, ⟨2, some (r14.map i64)⟩, ⟨2, some [i64 r11, i64 r12, oref 0 2 0 r13.length, oref 1 2 0 r14.length]⟩, ⟨2, some (r15.map f32)⟩, ⟨2, some (r16.map f32)⟩, ⟨1, some (r10.map f32)⟩, ⟨1, some (r17.map f32)⟩, ⟨1, some (r19.map f32)⟩, ⟨3, none⟩]) ⟨aR, aR, aR, aR, aR, aR, aR, aR, aR, aR, aR, aR, aR, trivial⟩ ⟨⟨rfl, .inr rfl⟩, ⟨rfl, .inr rfl⟩, ⟨rfl, .inr rfl⟩, ⟨rfl, .inr rfl⟩, ⟨rfl, .inr rfl⟩, ⟨rfl, .inr rfl⟩, ⟨rfl, .inr rfl⟩, ⟨rfl, .inr rfl⟩, ⟨rfl, .inl rfl⟩, trivial⟩ ?_
           refine RunC.cond_false rfl rfl ?_
           refine RunC.skip ?_
           refine zQ ?_
           refine zA (r := i64 1) rfl rfl rfl rfl rfl ?_
           refine zN ?_
           refine RunC.seq ?_
           obtain ⟨r32, r33, r34, hf31, h⟩ := obind3_some h
           obtain ⟨hn32, h⟩ := need_some h
           obtain ⟨hn33, h⟩ := need_some h
           refine RunC.regionW ?_
           refine ROps.d (r := agg [i64 r11, i64 r12, oref 0 2 0 r13.length, oref 1 2 0 r14.length]) (fs := []) (Γ' := [⟨2, some (r13.map f32)⟩, ⟨2, some (r14.map i64)⟩, ⟨2, some [i64 r11, i64 r12, oref 0 2 0 r13.length, oref 1 2 0 r14.length]⟩, ⟨2, some (r15.map f32)⟩, ⟨2, some (r16.map f32)⟩, ⟨1, some (r10.map f32)⟩, ⟨1, some (r17.map f32)⟩, ⟨1, some (r19.map f32)⟩, ⟨3, none⟩]) rfl rfl rfl (TOp.loadAgg_o rfl agg33 siz33 rfl rfl rfl rfl) rfl ?_
           refine zM (r := i64 1) rfl rfl rfl rfl rfl ?_
           refine ROps.callO (A := [agg [i64 r11, i64 r12, oref 0 2 0 r13.length, oref 1 2 0 r14.length], i64 1]) (args := [agg [i64 r11, i64 r12, oref 0 0 0 r13.length, oref 1 0 0 r14.length], i64 1]) (Γc := [⟨0, some (r13.map f32)⟩, ⟨0, some (r14.map i64)⟩]) (Γc' := [⟨0, some (r33.map f32)⟩, ⟨0, some (r34.map i64)⟩]) (r' := i64 r32) (Γ' := [⟨2, some (r33.map f32)⟩, ⟨2, some (r34.map i64)⟩, ⟨2, some [i64 r11, i64 r12, oref 0 2 0 r13.length, oref 1 2 0 r14.length]⟩, ⟨2, some (r15.map f32)⟩, ⟨2, some (r16.map f32)⟩, ⟨1, some (r10.map f32)⟩, ⟨1, some (r17.map f32)⟩, ⟨1, some (r19.map f32)⟩, ⟨3, none⟩]) [(0, 2), (1, 2)] [] rfl (CallAs.func ent11 rfl rfl) rfl rfl (SelOk.of (show List.Nodup [0, 1] from by decide) (SelL.arr0 (f := f32) (fun _ => rfl) rfl (SelL.arr0 (f := i64) (fun _ => rfl) rfl trivial))) (live_of ⟨⟨_, _, rfl⟩, ⟨_, _, rfl⟩, trivial⟩) (by simp [ren, rens, sigma, rens_f32, rens_f64, rens_i64, rens_ik, rens_str, rens_cp]) rfl (w_markFactor_02o_03o1_ok r11 r12 1 r13 r14 r32 r33 r34 hf31) rfl (news_of trivial) (show List.Nodup [0, 1] from by decide) (by simp [ren, rens, sigma, of_decide_eq_true hn32, of_decide_eq_true hn33]) (by simp [backOb, sigma, ren, rens, rens_f32, rens_f64, rens_i64, rens_ik, rens_str, rens_cp]) ?_
           refine zA (r := i64 r32) rfl rfl rfl rfl rfl ?_
           refine zN ?_
           refine RunC.wl (τ' := [(1, sl a4.length (a4.map f32)), (2, sl a5.length (a5.map f32)), (3, sl a6.length (a6.map f32)), (4, ptr [i64 a0, i64 a1, sl a2.length (a2.map f32), sl a3.length (a3.map i64)]), (10, oref 5 1 0 r10.length), (11, b r9), (13, oref 3 2 0 r15.length), (14, oref 4 2 0 r16.length), (15, oref 6 1 0 r17.length), (16, oref 7 1 0 r19.length), (17, b r18), (18, i64 r32)]) (Γ' := [⟨2, none⟩, ⟨2, none⟩, ⟨2, none⟩, ⟨2, some (r15.map f32)⟩, ⟨2, some (r16.map f32)⟩, ⟨1, some (r10.map f32)⟩, ⟨1, some (r17.map f32)⟩, ⟨1, some (r19.map f32)⟩, ⟨3, none⟩]) ⟨aR, aR, aR, aR, aR, aR, aR, aR, aR, aR, aR, aR, trivial⟩ ⟨⟨rfl, .inl rfl⟩, ⟨rfl, .inl rfl⟩, ⟨rfl, .inl rfl⟩, ⟨rfl, .inr rfl⟩, ⟨rfl, .inr rfl⟩, ⟨rfl, .inr rfl⟩, ⟨rfl, .inr rfl⟩, ⟨rfl, .inr rfl⟩, ⟨rfl, .inl rfl⟩, trivial⟩ ?_
           refine RunC.seq ?_
           obtain ⟨r35, r36, hf34, h⟩ := obind2_some h
           obtain ⟨hn35, h⟩ := need_some h
           refine RunC.regionW ?_
           refine zM (r := oref 3 2 0 r15.length) rfl rfl rfl rfl rfl ?_
           refine zM (r := i64 r32) rfl rfl rfl rfl rfl ?_
           refine ROps.callO (A := [oref 3 2 0 r15.length, i64 r32]) (args := [oref 0 0 0 r15.length, i64 r32]) (Γc := [⟨0, some (r15.map f32)⟩]) (Γc' := [⟨0, some (r36.map f32)⟩]) (r' := i64 r35) (Γ' := [⟨2, none⟩, ⟨2, none⟩, ⟨2, none⟩, ⟨2, some (r36.map f32)⟩, ⟨2, some (r16.map f32)⟩, ⟨1, some (r10.map f32)⟩, ⟨1, some (r17.map f32)⟩, ⟨1, some (r19.map f32)⟩, ⟨3, none⟩]) [(3, 2)] [] rfl (CallAs.func ent12 rfl rfl) rfl rfl (SelOk.of (show List.Nodup [3] from by decide) (SelL.arr0 (f := f32) (fun _ => rfl) rfl trivial)) (live_of ⟨⟨_, _, rfl⟩, trivial⟩) (by simp [ren, rens, sigma, rens_f32, rens_f64, rens_i64, rens_ik, rens_str, rens_cp]) rfl (w_markFloat32S_0o_ok r32 r15 r35 r36 hf34) rfl (news_of trivial) (show List.Nodup [3] from by decide) (by simp [ren, rens, sigma, of_decide_eq_true hn35]) (by simp [backOb, sigma, ren, rens, rens_f32, rens_f64, rens_i64, rens_ik, rens_str, rens_cp]) ?_
           refine zA (r := i64 r35) rfl rfl rfl rfl rfl ?_
           refine zN ?_
           refine RunC.wl (τ' := [(1, sl a4.length (a4.map f32)), (2, sl a5.length (a5.map f32)), (3, sl a6.length (a6.map f32)), (4, ptr [i64 a0, i64 a1, sl a2.length (a2.map f32), sl a3.length (a3.map i64)]), (10, oref 5 1 0 r10.length), (11, b r9), (14, oref 4 2 0 r16.length), (15, oref 6 1 0 r17.length), (16, oref 7 1 0 r19.length), (17, b r18), (18, i64 r35)]) (Γ' := [⟨2, none⟩, ⟨2, none⟩, ⟨2, none⟩, ⟨2, none⟩, ⟨2, some (r16.map f32)⟩, ⟨1, some (r10.map f32)⟩, ⟨1, some (r17.map f32)⟩, ⟨1, some (r19.map f32)⟩, ⟨3, none⟩]) ⟨aR, aR, aR, aR, aR, aR, aR, aR, aR, aR, aR, trivial⟩ ⟨⟨rfl, .inl rfl⟩, ⟨rfl, .inl rfl⟩, ⟨rfl, .inl rfl⟩, ⟨rfl, .inl rfl⟩, ⟨rfl, .inr rfl⟩, ⟨rfl, .inr rfl⟩, ⟨rfl, .inr rfl⟩, ⟨rfl, .inr rfl⟩, ⟨rfl, .inl rfl⟩, trivial⟩ ?_
           refine RunC.seq ?_
           obtain ⟨r37, r38, hf36, h⟩ := obind2_some h
           obtain ⟨hn37, h⟩ := need_some h
           refine RunC.regionW ?_
           refine zM (r := oref 4 2 0 r16.length) rfl rfl rfl rfl rfl ?_
           refine zM (r := i64 r35) rfl rfl rfl rfl rfl ?_
           refine ROps.callO (A := [oref 4 2 0 r16.length, i64 r35]) (args := [oref 0 0 0 r16.length, i64 r35]) (Γc := [⟨0, some (r16.map f32)⟩]) (Γc' := [⟨0, some (r38.map f32)⟩]) (r' := i64 r37) (Γ' := [⟨2, none⟩, ⟨2, none⟩, ⟨2, none⟩, ⟨2, none⟩, ⟨2, some (r38.map f32)⟩, ⟨1, some (r10.map f32)⟩, ⟨1, some (r17.map f32)⟩, ⟨1, some (r19.map f32)⟩, ⟨3, none⟩]) [(4, 2)] [] rfl (CallAs.func ent12 rfl rfl) rfl rfl (SelOk.of (show List.Nodup [4] from by decide) (SelL.arr0 (f := f32) (fun _ => rfl) rfl trivial)) (live_of ⟨⟨_, _, rfl⟩, trivial⟩) (by simp [ren, rens, sigma, rens_f32, rens_f64, rens_i64, rens_ik, rens_str, rens_cp]) rfl (w_markFloat32S_0o_ok r35 r16 r37 r38 hf36) rfl (news_of trivial) (show List.Nodup [4] from by decide) (by simp [ren, rens, sigma, of_decide_eq_true hn37]) (by simp [backOb, sigma, ren, rens, rens_f32, rens_f64, rens_i64, rens_ik, rens_str, rens_cp]) ?_
           refine zA (r := i64 r37) rfl rfl rfl rfl rfl ?_
           refine zN ?_
           refine RunC.wl (τ' := [(1, sl a4.length (a4.map f32)), (2, sl a5.length (a5.map f32)), (3, sl a6.length (a6.map f32)), (4, ptr [i64 a0, i64 a1, sl a2.length (a2.map f32), sl a3.length (a3.map i64)]), (10, oref 5 1 0 r10.length), (11, b r9), (15, oref 6 1 0 r17.length), (16, oref 7 1 0 r19.length), (17, b r18), (18, i64 r37)]) (Γ' := [⟨2, none⟩, ⟨2, none⟩, ⟨2, none⟩, ⟨2, none⟩, ⟨2, none⟩, ⟨1, some (r10.map f32)⟩, ⟨1, some (r17.map f32)⟩, ⟨1, some (r19.map f32)⟩, ⟨3, none⟩]) ⟨aR, aR, aR, aR, aR, aR, aR, aR, aR, aR, trivial⟩ ⟨⟨rfl, .inl rfl⟩, ⟨rfl, .inl rfl⟩, ⟨rfl, .inl rfl⟩, ⟨rfl, .inl rfl⟩, ⟨rfl, .inl rfl⟩, ⟨rfl, .inr rfl⟩, ⟨rfl, .inr rfl⟩, ⟨rfl, .inr rfl⟩, ⟨rfl, .inl rfl⟩, trivial⟩ ?_
           refine RunC.seq ?_
           obtain ⟨r39, r40, hf38, h⟩ := obind2_some h
           obtain ⟨hn39, h⟩ := need_some h
           refine RunC.regionW ?_
           refine zM (r := oref 6 1 0 r17.length) rfl rfl rfl rfl rfl ?_
           refine zM (r := i64 r37) rfl rfl rfl rfl rfl ?_
           refine ROps.callO (A := [oref 6 1 0 r17.length, i64 r37]) (args := [oref 0 0 0 r17.length, i64 r37]) (Γc := [⟨0, some (r17.map f32)⟩]) (Γc' := [⟨0, some (r40.map f32)⟩]) (r' := i64 r39) (Γ' := [⟨2, none⟩, ⟨2, none⟩, ⟨2, none⟩, ⟨2, none⟩, ⟨2, none⟩, ⟨1, some (r10.map f32)⟩, ⟨1, some (r40.map f32)⟩, ⟨1, some (r19.map f32)⟩, ⟨3, none⟩]) [(6, 1)] [] rfl (CallAs.func ent12 rfl rfl) rfl rfl (SelOk.of (show List.Nodup [6] from by decide) (SelL.arr0 (f := f32) (fun _ => rfl) rfl trivial)) (live_of ⟨⟨_, _, rfl⟩, trivial⟩) (by simp [ren, rens, sigma, rens_f32, rens_f64, rens_i64, rens_ik, rens_str, rens_cp]) rfl (w_markFloat32S_0o_ok r37 r17 r39 r40 hf38) rfl (news_of trivial) (show List.Nodup [6] from by decide) (by simp [ren, rens, sigma, of_decide_eq_true hn39]) (by simp [backOb, sigma, ren, rens, rens_f32, rens_f64, rens_i64, rens_ik, rens_str, rens_cp]) ?_
           refine zA (r := i64 r39) rfl rfl rfl rfl rfl ?_
           refine zN ?_
           refine RunC.wl (τ' := [(1, sl a4.length (a4.map f32)), (2, sl a5.length (a5.map f32)), (3, sl a6.length (a6.map f32)), (4, ptr [i64 a0, i64 a1, sl a2.length (a2.map f32), sl a3.length (a3.map i64)]), (10, oref 5 1 0 r10.length), (11, b r9), (16, oref 7 1 0 r19.length), (17, b r18), (18, i64 r39)]) (Γ' := [⟨2, none⟩, ⟨2, none⟩, ⟨2, none⟩, ⟨2, none⟩, ⟨2, none⟩, ⟨1, some (r10.map f32)⟩, ⟨1, none⟩, ⟨1, some (r19.map f32)⟩, ⟨3, none⟩]) ⟨aR, aR, aR, aR, aR, aR, aR, aR, aR, trivial⟩ ⟨⟨rfl, .inl rfl⟩, ⟨rfl, .inl rfl⟩, ⟨rfl, .inl rfl⟩, ⟨rfl, .inl rfl⟩, ⟨rfl, .inl rfl⟩, ⟨rfl, .inr rfl⟩, ⟨rfl, .inl rfl⟩, ⟨rfl, .inr rfl⟩, ⟨rfl, .inl rfl⟩, trivial⟩ ?_
           refine RunC.seq ?_
           refine RunC.seq ?_
           rcases bsel_some h with ⟨hc40, h⟩ | ⟨hc40, h⟩
           ·refine RunC.regionW ?_
            refine zM (r := i64 r39) rfl rfl rfl rfl rfl ?_
            refine zL (r := b true) rfl rfl rfl (LOp.eqb (LOp.lss rfl rfl rfl) hc40) ?_
            refine zM (r := b true) rfl rfl rfl rfl rfl ?_
            refine ROps.s rfl rfl rfl ?_
            refine ROps.s rfl rfl rfl ?_
            refine ROps.s rfl rfl rfl ?_
            refine ROps.s rfl rfl rfl ?_
            refine zL (r := b true) rfl rfl rfl (LOp.pick_true rfl rfl rfl) ?_
            refine zM (r := b true) rfl rfl rfl rfl rfl ?_
            refine ROps.s rfl rfl rfl ?_
            refine ROps.s rfl rfl rfl ?_
            refine ROps.s rfl rfl rfl ?_
            refine zL (r := b true) rfl rfl rfl (LOp.pick_true rfl rfl rfl) ?_
            refine zN ?_
            refine RunC.cond_true rfl rfl ?_
            refine zQ ?_
            refine zA (r := b false) rfl rfl rfl rfl rfl ?_
            refine zN ?_
            refine RunC.ret ?_
            have hq := Option.some.inj h
            subst q0
            exact bodyQ.pure (.inr rfl) rfl (Res.one rfl (RV.tmp rfl))
           ·obtain ⟨r41, hf41, h⟩ := obind_some h
            rcases bsel_some h with ⟨hc42, h⟩ | ⟨hc42, h⟩
            ·refine RunC.regionW ?_
             refine zM (r := i64 r39) rfl rfl rfl rfl rfl ?_
             refine zL (r := b false) rfl rfl rfl (LOp.eqb (LOp.lss rfl rfl rfl) hc40) ?_
             refine zM (r := b false) rfl rfl rfl rfl rfl ?_
             refine zM (r := oref 7 1 0 r19.length) rfl rfl rfl rfl rfl ?_
             refine zM (r := oref 5 1 0 r10.length) rfl rfl rfl rfl rfl ?_
             refine ROps.d (r := b true) (fs := []) (Γ' := [⟨2, none⟩, ⟨2, none⟩, ⟨2, none⟩, ⟨2, none⟩, ⟨2, none⟩, ⟨1, some (r10.map f32)⟩, ⟨1, none⟩, ⟨1, some (r19.map f32)⟩, ⟨3, none⟩]) rfl rfl rfl (TOp.eqb (TOp.callB (CallAs.func ent9 rfl rfl) (Bors.cons (Bor.own (f := f32) (fun _ => rfl) rfl rfl) (Bors.cons (Bor.own (f := f32) (fun _ => rfl) rfl rfl) Bors.nil)) rfl rfl (w_eqFloat32S_ok r19 r10 r41 hf41)) hc42) rfl ?_
             refine zL (r := b false) rfl rfl rfl (LOp.eqb (LOp.not rfl rfl) rfl) ?_
             refine zL (r := b false) rfl rfl rfl (LOp.pick_false rfl rfl rfl) ?_
             refine zM (r := b false) rfl rfl rfl rfl rfl ?_
             refine zM (r := b r18) rfl rfl rfl rfl rfl ?_
             refine zM (r := b r9) rfl rfl rfl rfl rfl ?_
             refine zL (r := b false) rfl rfl rfl (LOp.eqb (LOp.neqb pun4 rfl rfl rfl) hc18) ?_
             refine zL (r := b false) rfl rfl rfl (LOp.pick_false rfl rfl rfl) ?_
             refine zN ?_
             refine RunC.cond_false rfl rfl ?_
             refine RunC.skip ?_
             refine zQ ?_
             refine zA (r := i64 1) rfl rfl rfl rfl rfl ?_
             refine zN ?_
             refine RunC.seq ?_
             obtain ⟨r42, r43, hf43, h⟩ := obind2_some h
             obtain ⟨hn44, h⟩ := need_some h
             refine RunC.regionW ?_
             refine zM (r := oref 7 1 0 r19.length) rfl rfl rfl rfl rfl ?_
             refine zM (r := i64 1) rfl rfl rfl rfl rfl ?_
             refine ROps.callO (A := [oref 7 1 0 r19.length, i64 1]) (args := [oref 0 0 0 r19.length, i64 1]) (Γc := [⟨0, some (r19.map f32)⟩]) (Γc' := [⟨0, some (r43.map f32)⟩]) (r' := i64 r42) (Γ' := [⟨2, none⟩, ⟨2, none⟩, ⟨2, none⟩, ⟨2, none⟩, ⟨2, none⟩, ⟨1, some (r10.map f32)⟩, ⟨1, none⟩, ⟨1, some (r43.map f32)⟩, ⟨3, none⟩]) [(7, 1)] [] rfl (CallAs.func ent12 rfl rfl) rfl rfl (SelOk.of (show List.Nodup [7] from by decide) (SelL.arr0 (f := f32) (fun _ => rfl) rfl trivial)) (live_of ⟨⟨_, _, rfl⟩, trivial⟩) (by simp [ren, rens, sigma, rens_f32, rens_f64, rens_i64, rens_ik, rens_str, rens_cp]) rfl (w_markFloat32S_0o_ok 1 r19 r42 r43 hf43) rfl (news_of trivial) (show List.Nodup [7] from by decide) (by simp [ren, rens, sigma, of_decide_eq_true hn44]) (by simp [backOb, sigma, ren, rens, rens_f32, rens_f64, rens_i64, rens_ik, rens_str, rens_cp]) ?_
             refine zA (r := i64 r42) rfl rfl rfl rfl rfl ?_
             refine zN ?_
             refine RunC.wl (τ' := [(1, sl a4.length (a4.map f32)), (2, sl a5.length (a5.map f32)), (3, sl a6.length (a6.map f32)), (4, ptr [i64 a0, i64 a1, sl a2.length (a2.map f32), sl a3.length (a3.map i64)]), (10, oref 5 1 0 r10.length), (11, b r9), (16, oref 7 1 0 r19.length), (19, i64 r42)]) (Γ' := [⟨2, none⟩, ⟨2, none⟩, ⟨2, none⟩, ⟨2, none⟩, ⟨2, none⟩, ⟨1, some (r10.map f32)⟩, ⟨1, none⟩, ⟨1, some (r43.map f32)⟩, ⟨3, none⟩]) ⟨aR, aR, aR, aR, aR, aR, aR, aR, trivial⟩ ⟨⟨rfl, .inl rfl⟩, ⟨rfl, .inl rfl⟩, ⟨rfl, .inl rfl⟩, ⟨rfl, .inl rfl⟩, ⟨rfl, .inl rfl⟩, ⟨rfl, .inr rfl⟩, ⟨rfl, .inl rfl⟩, ⟨rfl, .inr rfl⟩, ⟨rfl, .inl rfl⟩, trivial⟩ ?_
             refine zQ ?_
             refine zA (r := i64 1) rfl rfl rfl rfl rfl ?_
             refine zN ?_
             refine RunC.seq ?_
             obtain ⟨r44, hf45, h⟩ := obind_some h
             refine RunC.regionW ?_
             refine zM (r := oref 7 1 0 r19.length) rfl rfl rfl rfl rfl ?_
             refine zM (r := i64 1) rfl rfl rfl rfl rfl ?_
             refine ROps.d (r := i64 r44) (fs := []) (Γ' := [⟨2, none⟩, ⟨2, none⟩, ⟨2, none⟩, ⟨2, none⟩, ⟨2, none⟩, ⟨1, some (r10.map f32)⟩, ⟨1, none⟩, ⟨1, some (r43.map f32)⟩, ⟨3, none⟩]) rfl rfl rfl (TOp.callB (CallAs.func ent13 rfl rfl) (Bors.cons (Bor.own (f := f32) (fun _ => rfl) rfl (of_decide_eq_true hn44)) (Bors.cons (Bor.pure rfl) Bors.nil)) rfl rfl (w_heldFloat32S_ok r43 1 r44 hf45)) rfl ?_
             refine zA (r := i64 r44) rfl rfl rfl rfl rfl ?_
             refine zN ?_
             refine RunC.seq ?_
             refine RunC.seq ?_
             rcases bsel_some h with ⟨hc46, h⟩ | ⟨hc46, h⟩
             ·refine RunC.regionW ?_
              refine zM (r := i64 r44) rfl rfl rfl rfl rfl ?_
              refine zL (r := b true) rfl rfl rfl (LOp.eqb (LOp.lss rfl rfl rfl) hc46) ?_
              refine zN ?_
              refine RunC.cond_true rfl rfl ?_
              refine zQ ?_
              refine zA (r := b false) rfl rfl rfl rfl rfl ?_
              refine zN ?_
              refine RunC.ret ?_
              have hq := Option.some.inj h
              subst q0
              exact bodyQ.pure (.inr rfl) rfl (Res.one rfl (RV.tmp rfl))
             ·refine RunC.regionW ?_
              refine zM (r := i64 r44) rfl rfl rfl rfl rfl ?_
              refine zL (r := b false) rfl rfl rfl (LOp.eqb (LOp.lss rfl rfl rfl) hc46) ?_
              refine zN ?_
              refine RunC.cond_false rfl rfl ?_
              refine RunC.skip ?_
              refine RunC.seq ?_
              refine RunC.seq ?_
              rcases bsel_some h with ⟨hc47, h⟩ | ⟨hc47, h⟩
              ·refine RunC.regionW ?_
               refine zM (r := i64 r44) rfl rfl rfl rfl rfl ?_
               refine zM (r := i64 r42) rfl rfl rfl rfl rfl ?_
               refine zL (r := b true) rfl rfl rfl (LOp.eqb (LOp.neq rfl rfl rfl) hc47) ?_
               refine zN ?_
               refine RunC.cond_true rfl rfl ?_
               refine zQ ?_
               refine zA (r := b false) rfl rfl rfl rfl rfl ?_
               refine zN ?_
               refine RunC.ret ?_
               have hq := Option.some.inj h
               subst q0
               exact bodyQ.pure (.inr rfl) rfl (Res.one rfl (RV.tmp rfl))
              ·refine RunC.regionW ?_
               refine zM (r := i64 r44) rfl rfl rfl rfl rfl ?_
               refine zM (r := i64 r42) rfl rfl rfl rfl rfl ?_
               refine zL (r := b false) rfl rfl rfl (LOp.eqb (LOp.neq rfl rfl rfl) hc47) ?_
               refine zN ?_
               refine RunC.cond_false rfl rfl ?_
               refine RunC.skip ?_
               refine RunC.seq ?_
               obtain ⟨r45, r46, r47, r48, hf48, h⟩ := obind4_some h
               obtain ⟨r49, hf49, h⟩ := obind_some h
               obtain ⟨r50, hf50, h⟩ := obind_some h
               obtain ⟨r51, hf51, h⟩ := obind_some h
               obtain ⟨r52, r53, hf52, h⟩ := obind2_some h
               refine RunC.regionW ?_
               refine zL (r := agg [i64 a0, i64 a1, sl a2.length (a2.map f32), sl a3.length (a3.map i64)]) rfl rfl rfl (LOp.loadAgg agg27 siz27 rfl rfl rfl rfl) ?_
               refine ROps.d (r := agg [i64 r45, i64 r46, oref 0 3 0 r47.length, oref 1 3 0 r48.length]) (fs := [(0, (r47.map f32)), (1, (r48.map i64))]) (Γ' := [⟨3, some (r47.map f32)⟩, ⟨3, some (r48.map i64)⟩, ⟨2, none⟩, ⟨2, none⟩, ⟨2, none⟩, ⟨1, some (r10.map f32)⟩, ⟨1, none⟩, ⟨1, some (r43.map f32)⟩, ⟨3, none⟩]) rfl rfl rfl (TOp.callBN (ls := [(r47.map f32), (r48.map i64)]) [0, 1] (CallAs.func ent6 rfl rfl) (Bors.cons (Bor.agg (Bors.cons (Bor.pure rfl) (Bors.cons (Bor.pure rfl) (Bors.cons (Bor.sl (fun _ => rfl)) (Bors.cons (Bor.sl (fun _ => rfl)) Bors.nil))))) Bors.nil) rfl (w_toFactor_ok a0 a1 a2 a3 r45 r46 r47 r48 hf48) (and_all (lts0_map (f := f32) (fun _ => rfl) _) (and_all (lts0_map (f := i64) (fun _ => rfl) _) rfl)) (and_all (noss_map (f := f32) (fun _ => rfl) _) (and_all (noss_map (f := i64) (fun _ => rfl) _) rfl)) rfl (by decide) (ns_of ⟨⟨_, rfl⟩, ⟨_, rfl⟩, trivial⟩)) rfl ?_
               refine zM (r := sl a4.length (a4.map f32)) rfl rfl rfl rfl rfl ?_
               refine ROps.d (r := oref 2 3 0 r49.length) (fs := [(2, (r49.map f32))]) (Γ' := [⟨3, some (r47.map f32)⟩, ⟨3, some (r48.map i64)⟩, ⟨3, some (r49.map f32)⟩, ⟨2, none⟩, ⟨2, none⟩, ⟨1, some (r10.map f32)⟩, ⟨1, none⟩, ⟨1, some (r43.map f32)⟩, ⟨3, none⟩]) rfl rfl rfl (TOp.callBN (ls := [(r49.map f32)]) [2] (CallAs.func ent7 rfl rfl) (Bors.cons (Bor.sl (fun _ => rfl)) Bors.nil) rfl (w_toFloat32S_ok a4 r49 hf49) (and_all (lts0_map (f := f32) (fun _ => rfl) _) rfl) (and_all (noss_map (f := f32) (fun _ => rfl) _) rfl) rfl (by decide) (ns_of ⟨⟨_, rfl⟩, trivial⟩)) rfl ?_
               refine zM (r := sl a5.length (a5.map f32)) rfl rfl rfl rfl rfl ?_
               refine ROps.d (r := oref 3 3 0 r50.length) (fs := [(3, (r50.map f32))]) (Γ' := [⟨3, some (r47.map f32)⟩, ⟨3, some (r48.map i64)⟩, ⟨3, some (r49.map f32)⟩, ⟨3, some (r50.map f32)⟩, ⟨2, none⟩, ⟨1, some (r10.map f32)⟩, ⟨1, none⟩, ⟨1, some (r43.map f32)⟩, ⟨3, none⟩]) rfl rfl rfl (TOp.callBN (ls := [(r50.map f32)]) [3] (CallAs.func ent7 rfl rfl) (Bors.cons (Bor.sl (fun _ => rfl)) Bors.nil) rfl (w_toFloat32S_ok a5 r50 hf50) (and_all (lts0_map (f := f32) (fun _ => rfl) _) rfl) (and_all (noss_map (f := f32) (fun _ => rfl) _) rfl) rfl (by decide) (ns_of ⟨⟨_, rfl⟩, trivial⟩)) rfl ?_
               refine zM (r := sl a6.length (a6.map f32)) rfl rfl rfl rfl rfl ?_
               refine ROps.d (r := oref 4 3 0 r51.length) (fs := [(4, (r51.map f32))]) (Γ' := [⟨3, some (r47.map f32)⟩, ⟨3, some (r48.map i64)⟩, ⟨3, some (r49.map f32)⟩, ⟨3, some (r50.map f32)⟩, ⟨3, some (r51.map f32)⟩, ⟨1, some (r10.map f32)⟩, ⟨1, none⟩, ⟨1, some (r43.map f32)⟩, ⟨3, none⟩]) rfl rfl rfl (TOp.callBN (ls := [(r51.map f32)]) [4] (CallAs.func ent7 rfl rfl) (Bors.cons (Bor.sl (fun _ => rfl)) Bors.nil) rfl (w_toFloat32S_ok a6 r51 hf51) (and_all (lts0_map (f := f32) (fun _ => rfl) _) rfl) (and_all (noss_map (f := f32) (fun _ => rfl) _) rfl) rfl (by decide) (ns_of ⟨⟨_, rfl⟩, trivial⟩)) rfl ?_
               refine ROps.d (r := tup [oref 6 2 0 r53.length, b r52]) (fs := [(6, (r53.map f32))]) (Γ' := [⟨3, some (r47.map f32)⟩, ⟨3, some (r48.map i64)⟩, ⟨3, some (r49.map f32)⟩, ⟨3, some (r50.map f32)⟩, ⟨3, some (r51.map f32)⟩, ⟨1, some (r10.map f32)⟩, ⟨2, some (r53.map f32)⟩, ⟨1, some (r43.map f32)⟩, ⟨3, none⟩]) rfl rfl rfl (TOp.callBN (ls := [(r53.map f32)]) [6] (CallAs.func ent8 rfl rfl) (Bors.cons (Bor.agg (Bors.cons (Bor.pure rfl) (Bors.cons (Bor.pure rfl) (Bors.cons (Bor.own (f := f32) (fun _ => rfl) rfl rfl) (Bors.cons (Bor.own (f := i64) (fun _ => rfl) rfl rfl) Bors.nil))))) (Bors.cons (Bor.own (f := f32) (fun _ => rfl) rfl rfl) (Bors.cons (Bor.own (f := f32) (fun _ => rfl) rfl rfl) (Bors.cons (Bor.own (f := f32) (fun _ => rfl) rfl rfl) Bors.nil)))) rfl (i_UpdatedSolve_ok r45 r46 r47 r48 r49 r50 r51 r52 r53 hf52) (and_all (lts0_map (f := f32) (fun _ => rfl) _) rfl) (and_all (noss_map (f := f32) (fun _ => rfl) _) rfl) rfl (by decide) (ns_of ⟨⟨_, rfl⟩, trivial⟩)) rfl ?_
               refine zM (r := tup [oref 6 2 0 r53.length, b r52]) rfl rfl rfl rfl rfl ?_
               refine zL (r := oref 6 2 0 r53.length) rfl rfl rfl (LOp.extract rfl rfl rfl) ?_
               refine zL (r := b r52) rfl rfl rfl (LOp.extract rfl rfl rfl) ?_
               refine zA (r := oref 6 2 0 r53.length) rfl rfl rfl rfl rfl ?_
               refine zA (r := b r52) rfl rfl rfl rfl rfl ?_
               refine zN ?_
               refine RunC.wl (τ' := [(10, oref 5 1 0 r10.length), (11, b r9), (16, oref 7 1 0 r19.length), (19, i64 r42), (21, oref 6 2 0 r53.length), (22, b r52)]) (Γ' := [⟨3, none⟩, ⟨3, none⟩, ⟨3, none⟩, ⟨3, none⟩, ⟨3, none⟩, ⟨1, some (r10.map f32)⟩, ⟨2, some (r53.map f32)⟩, ⟨1, some (r43.map f32)⟩, ⟨3, none⟩]) ⟨aR, aR, aR, aR, aR, aR, trivial⟩ ⟨⟨rfl, .inl rfl⟩, ⟨rfl, .inl rfl⟩, ⟨rfl, .inl rfl⟩, ⟨rfl, .inl rfl⟩, ⟨rfl, .inl rfl⟩, ⟨rfl, .inr rfl⟩, ⟨rfl, .inr rfl⟩, ⟨rfl, .inr rfl⟩, ⟨rfl, .inl rfl⟩, trivial⟩ ?_
               refine RunC.seq ?_
               refine RunC.seq ?_
               obtain ⟨r54, hf53, h⟩ := obind_some h
               rcases bsel_some h with ⟨hc54, h⟩ | ⟨hc54, h⟩
               ·rcases bsel_some h with ⟨hc55, h⟩ | ⟨hc55, h⟩
                ·refine RunC.regionW ?_
                 refine zM (r := oref 6 2 0 r53.length) rfl rfl rfl rfl rfl ?_
                 refine zM (r := oref 5 1 0 r10.length) rfl rfl rfl rfl rfl ?_
                 refine ROps.d (r := b true) (fs := []) (Γ' := [⟨3, none⟩, ⟨3, none⟩, ⟨3, none⟩, ⟨3, none⟩, ⟨3, none⟩, ⟨1, some (r10.map f32)⟩, ⟨2, some (r53.map f32)⟩, ⟨1, some (r43.map f32)⟩, ⟨3, none⟩]) rfl rfl rfl (TOp.eqb (TOp.callB (CallAs.func ent9 rfl rfl) (Bors.cons (Bor.own (f := f32) (fun _ => rfl) rfl rfl) (Bors.cons (Bor.own (f := f32) (fun _ => rfl) rfl rfl) Bors.nil)) rfl rfl (w_eqFloat32S_ok r53 r10 r54 hf53)) hc54) rfl ?_
                 refine zL (r := b false) rfl rfl rfl (LOp.eqb (LOp.not rfl rfl) rfl) ?_
                 refine zM (r := b false) rfl rfl rfl rfl rfl ?_
                 refine zM (r := b r52) rfl rfl rfl rfl rfl ?_
                 refine zM (r := b r9) rfl rfl rfl rfl rfl ?_
                 refine zL (r := b true) rfl rfl rfl (LOp.eqb (LOp.neqb pun4 rfl rfl rfl) hc55) ?_
                 refine zL (r := b true) rfl rfl rfl (LOp.pick_false rfl rfl rfl) ?_
                 refine zN ?_
                 refine RunC.wl (τ' := [(16, oref 7 1 0 r19.length), (19, i64 r42), (150, b true)]) (Γ' := [⟨3, none⟩, ⟨3, none⟩, ⟨3, none⟩, ⟨3, none⟩, ⟨3, none⟩, ⟨1, none⟩, ⟨2, none⟩, ⟨1, some (r43.map f32)⟩, ⟨3, none⟩]) ⟨aR, aR, aR, trivial⟩ ⟨⟨rfl, .inl rfl⟩, ⟨rfl, .inl rfl⟩, ⟨rfl, .inl rfl⟩, ⟨rfl, .inl rfl⟩, ⟨rfl, .inl rfl⟩, ⟨rfl, .inl rfl⟩, ⟨rfl, .inl rfl⟩, ⟨rfl, .inr rfl⟩, ⟨rfl, .inl rfl⟩, trivial⟩ ?_
                 refine RunC.cond_true rfl rfl ?_
                 refine zQ ?_
                 refine zA (r := b false) rfl rfl rfl rfl rfl ?_
                 refine zN ?_
                 refine RunC.ret ?_
                 have hq := Option.some.inj h
                 subst q0
                 exact bodyQ.pure (.inr rfl) rfl (Res.one rfl (RV.tmp rfl))
                ·refine RunC.regionW ?_
                 refine zM (r := oref 6 2 0 r53.length) rfl rfl rfl rfl rfl ?_
                 refine zM (r := oref 5 1 0 r10.length) rfl rfl rfl rfl rfl ?_
                 refine ROps.d (r := b true) (fs := []) (Γ' := [⟨3, none⟩, ⟨3, none⟩, ⟨3, none⟩, ⟨3, none⟩, ⟨3, none⟩, ⟨1, some (r10.map f32)⟩, ⟨2, some (r53.map f32)⟩, ⟨1, some (r43.map f32)⟩, ⟨3, none⟩]) rfl rfl rfl (TOp.eqb (TOp.callB (CallAs.func ent9 rfl rfl) (Bors.cons (Bor.own (f := f32) (fun _ => rfl) rfl rfl) (Bors.cons (Bor.own (f := f32) (fun _ => rfl) rfl rfl) Bors.nil)) rfl rfl (w_eqFloat32S_ok r53 r10 r54 hf53)) hc54) rfl ?_
                 refine zL (r := b false) rfl rfl rfl (LOp.eqb (LOp.not rfl rfl) rfl) ?_
                 refine zM (r := b false) rfl rfl rfl rfl rfl ?_
                 refine zM (r := b r52) rfl rfl rfl rfl rfl ?_
                 refine zM (r := b r9) rfl rfl rfl rfl rfl ?_
                 refine zL (r := b false) rfl rfl rfl (LOp.eqb (LOp.neqb pun4 rfl rfl rfl) hc55) ?_
                 refine zL (r := b false) rfl rfl rfl (LOp.pick_false rfl rfl rfl) ?_
                 refine zN ?_
                 refine RunC.wl (τ' := [(16, oref 7 1 0 r19.length), (19, i64 r42), (150, b false)]) (Γ' := [⟨3, none⟩, ⟨3, none⟩, ⟨3, none⟩, ⟨3, none⟩, ⟨3, none⟩, ⟨1, none⟩, ⟨2, none⟩, ⟨1, some (r43.map f32)⟩, ⟨3, none⟩]) ⟨aR, aR, aR, trivial⟩ ⟨⟨rfl, .inl rfl⟩, ⟨rfl, .inl rfl⟩, ⟨rfl, .inl rfl⟩, ⟨rfl, .inl rfl⟩, ⟨rfl, .inl rfl⟩, ⟨rfl, .inl rfl⟩, ⟨rfl, .inl rfl⟩, ⟨rfl, .inr rfl⟩, ⟨rfl, .inl rfl⟩, trivial⟩ ?_
                 refine RunC.cond_false rfl rfl ?_
                 refine RunC.skip ?_
                 refine zQ ?_
                 refine zA (r := i64 1) rfl rfl rfl rfl rfl ?_
                 refine zN ?_
                 refine RunC.seq ?_
                 obtain ⟨r55, hf56, h⟩ := obind_some h
                 refine RunC.regionW ?_
                 refine zM (r := oref 7 1 0 r19.length) rfl rfl rfl rfl rfl ?_
                 refine zM (r := i64 1) rfl rfl rfl rfl rfl ?_
                 refine ROps.d (r := i64 r55) (fs := []) (Γ' := [⟨3, none⟩, ⟨3, none⟩, ⟨3, none⟩, ⟨3, none⟩, ⟨3, none⟩, ⟨1, none⟩, ⟨2, none⟩, ⟨1, some (r43.map f32)⟩, ⟨3, none⟩]) rfl rfl rfl (TOp.callB (CallAs.func ent13 rfl rfl) (Bors.cons (Bor.own (f := f32) (fun _ => rfl) rfl (of_decide_eq_true hn44)) (Bors.cons (Bor.pure rfl) Bors.nil)) rfl rfl (w_heldFloat32S_ok r43 1 r55 hf56)) rfl ?_
                 refine zA (r := i64 r55) rfl rfl rfl rfl rfl ?_
                 refine zN ?_
                 refine RunC.wl (τ' := [(19, i64 r42), (20, i64 r55)]) (Γ' := [⟨3, none⟩, ⟨3, none⟩, ⟨3, none⟩, ⟨3, none⟩, ⟨3, none⟩, ⟨1, none⟩, ⟨2, none⟩, ⟨1, none⟩, ⟨3, none⟩]) ⟨aR, aR, trivial⟩ ⟨⟨rfl, .inl rfl⟩, ⟨rfl, .inl rfl⟩, ⟨rfl, .inl rfl⟩, ⟨rfl, .inl rfl⟩, ⟨rfl, .inl rfl⟩, ⟨rfl, .inl rfl⟩, ⟨rfl, .inl rfl⟩, ⟨rfl, .inl rfl⟩, ⟨rfl, .inl rfl⟩, trivial⟩ ?_
                 refine RunC.seq ?_
                 refine RunC.seq ?_
                 rcases bsel_some h with ⟨hc57, h⟩ | ⟨hc57, h⟩
                 ·refine RunC.regionW ?_
                  refine zM (r := i64 r55) rfl rfl rfl rfl rfl ?_
                  refine zL (r := b true) rfl rfl rfl (LOp.eqb (LOp.lss rfl rfl rfl) hc57) ?_
                  refine zN ?_
                  refine RunC.cond_true rfl rfl ?_
                  refine zQ ?_
                  refine zA (r := b false) rfl rfl rfl rfl rfl ?_
                  refine zN ?_
                  refine RunC.ret ?_
                  have hq := Option.some.inj h
                  subst q0
                  exact bodyQ.pure (.inr rfl) rfl (Res.one rfl (RV.tmp rfl))
                 ·refine RunC.regionW ?_
                  refine zM (r := i64 r55) rfl rfl rfl rfl rfl ?_
                  refine zL (r := b false) rfl rfl rfl (LOp.eqb (LOp.lss rfl rfl rfl) hc57) ?_
                  refine zN ?_
                  refine RunC.cond_false rfl rfl ?_
                  refine RunC.skip ?_
                  refine RunC.seq ?_
                  refine RunC.seq ?_
                  rcases bsel_some h with ⟨hc58, h⟩ | ⟨hc58, h⟩
                  ·refine RunC.regionW ?_
                   refine zM (r := i64 r55) rfl rfl rfl rfl rfl ?_
                   refine zM (r := i64 r42) rfl rfl rfl rfl rfl ?_
                   refine zL (r := b true) rfl rfl rfl (LOp.eqb (LOp.neq rfl rfl rfl) hc58) ?_
                   refine zN ?_
                   refine RunC.cond_true rfl rfl ?_
                   refine zQ ?_
                   refine zA (r := b false) rfl rfl rfl rfl rfl ?_
                   refine zN ?_
                   refine RunC.ret ?_
                   have hq := Option.some.inj h
                   subst q0
                   exact bodyQ.pure (.inr rfl) rfl (Res.one rfl (RV.tmp rfl))
                  ·refine RunC.regionW ?_
                   refine zM (r := i64 r55) rfl rfl rfl rfl rfl ?_
                   refine zM (r := i64 r42) rfl rfl rfl rfl rfl ?_
                   refine zL (r := b false) rfl rfl rfl (LOp.eqb (LOp.neq rfl rfl rfl) hc58) ?_
                   refine zN ?_
                   refine RunC.cond_false rfl rfl ?_
                   refine RunC.skip ?_
                   refine zQ ?_
                   refine zA (r := b true) rfl rfl rfl rfl rfl ?_
                   refine zN ?_
                   refine RunC.ret ?_
                   have hq := Option.some.inj h
                   subst q0
                   exact bodyQ.pure (.inr rfl) rfl (Res.one rfl (RV.tmp rfl))
               ·refine RunC.regionW ?_
                refine zM (r := oref 6 2 0 r53.length) rfl rfl rfl rfl rfl ?_
                refine zM (r := oref 5 1 0 r10.length) rfl rfl rfl rfl rfl ?_
                refine ROps.d (r := b false) (fs := []) (Γ' := [⟨3, none⟩, ⟨3, none⟩, ⟨3, none⟩, ⟨3, none⟩, ⟨3, none⟩, ⟨1, some (r10.map f32)⟩, ⟨2, some (r53.map f32)⟩, ⟨1, some (r43.map f32)⟩, ⟨3, none⟩]) rfl rfl rfl (TOp.eqb (TOp.callB (CallAs.func ent9 rfl rfl) (Bors.cons (Bor.own (f := f32) (fun _ => rfl) rfl rfl) (Bors.cons (Bor.own (f := f32) (fun _ => rfl) rfl rfl) Bors.nil)) rfl rfl (w_eqFloat32S_ok r53 r10 r54 hf53)) hc54) rfl ?_
                refine zL (r := b true) rfl rfl rfl (LOp.eqb (LOp.not rfl rfl) rfl) ?_
                refine zM (r := b true) rfl rfl rfl rfl rfl ?_
                refine ROps.s rfl rfl rfl ?_
                refine ROps.s rfl rfl rfl ?_
                refine ROps.s rfl rfl rfl ?_
                refine zL (r := b true) rfl rfl rfl (LOp.pick_true rfl rfl rfl) ?_
                refine zN ?_
                refine RunC.wl (τ' := [(16, oref 7 1 0 r19.length), (19, i64 r42), (150, b true)]) (Γ' := [⟨3, none⟩, ⟨3, none⟩, ⟨3, none⟩, ⟨3, none⟩, ⟨3, none⟩, ⟨1, none⟩, ⟨2, none⟩, ⟨1, some (r43.map f32)⟩, ⟨3, none⟩]) ⟨aR, aR, aR, trivial⟩ ⟨⟨rfl, .inl rfl⟩, ⟨rfl, .inl rfl⟩, ⟨rfl, .inl rfl⟩, ⟨rfl, .inl rfl⟩, ⟨rfl, .inl rfl⟩, ⟨rfl, .inl rfl⟩, ⟨rfl, .inl rfl⟩, ⟨rfl, .inr rfl⟩, ⟨rfl, .inl rfl⟩, trivial⟩ ?_
                refine RunC.cond_true rfl rfl ?_
                refine zQ ?_
                refine zA (r := b false) rfl rfl rfl rfl rfl ?_
                refine zN ?_
                refine RunC.ret ?_
                have hq := Option.some.inj h
                subst q0
                exact bodyQ.pure (.inr rfl) rfl (Res.one rfl (RV.tmp rfl))
            ·refine RunC.regionW ?_
             refine zM (r := i64 r39) rfl rfl rfl rfl rfl ?_
             refine zL (r := b false) rfl rfl rfl (LOp.eqb (LOp.lss rfl rfl rfl) hc40) ?_
             refine zM (r := b false) rfl rfl rfl rfl rfl ?_
             refine zM (r := oref 7 1 0 r19.length) rfl rfl rfl rfl rfl ?_
             refine zM (r := oref 5 1 0 r10.length) rfl rfl rfl rfl rfl ?_
             refine ROps.d (r := b false) (fs := []) (Γ' := [⟨2, none⟩, ⟨2, none⟩, ⟨2, none⟩, ⟨2, none⟩, ⟨2, none⟩, ⟨1, some (r10.map f32)⟩, ⟨1, none⟩, ⟨1, some (r19.map f32)⟩, ⟨3, none⟩]) rfl rfl rfl (TOp.eqb (TOp.callB (CallAs.func ent9 rfl rfl) (Bors.cons (Bor.own (f := f32) (fun _ => rfl) rfl rfl) (Bors.cons (Bor.own (f := f32) (fun _ => rfl) rfl rfl) Bors.nil)) rfl rfl (w_eqFloat32S_ok r19 r10 r41 hf41)) hc42) rfl ?_
             refine zL (r := b true) rfl rfl rfl (LOp.eqb (LOp.not rfl rfl) rfl) ?_
             refine zL (r := b true) rfl rfl rfl (LOp.pick_false rfl rfl rfl) ?_
             refine zM (r := b true) rfl rfl rfl rfl rfl ?_
             refine ROps.s rfl rfl rfl ?_
             refine ROps.s rfl rfl rfl ?_
             refine ROps.s rfl rfl rfl ?_
             refine zL (r := b true) rfl rfl rfl (LOp.pick_true rfl rfl rfl) ?_
             refine zN ?_
             refine RunC.cond_true rfl rfl ?_
             refine zQ ?_
             refine zA (r := b false) rfl rfl rfl rfl rfl ?_
             refine zN ?_
             refine RunC.ret ?_
             have hq := Option.some.inj h
             subst q0
             exact bodyQ.pure (.inr rfl) rfl (Res.one rfl (RV.tmp rfl))
          ·refine RunC.regionW ?_
           refine zM (r := oref 6 1 0 r17.length) rfl rfl rfl rfl rfl ?_
           refine zM (r := sl a6.length (a6.map f32)) rfl rfl rfl rfl rfl ?_
           refine ROps.d (r := oref 8 3 0 r30.length) (fs := [(8, (r30.map f32))]) (Γ' := [⟨2, some (r13.map f32)⟩, ⟨2, some (r14.map i64)⟩, ⟨2, some [i64 r11, i64 r12, oref 0 2 0 r13.length, oref 1 2 0 r14.length]⟩, ⟨2, some (r15.map f32)⟩, ⟨2, some (r16.map f32)⟩, ⟨1, some (r10.map f32)⟩, ⟨1, some (r17.map f32)⟩, ⟨1, some (r19.map f32)⟩, ⟨3, some (r30.map f32)⟩]) rfl rfl rfl (TOp.callBN (ls := [(r30.map f32)]) [8] (CallAs.func ent7 rfl rfl) (Bors.cons (Bor.sl (fun _ => rfl)) Bors.nil) rfl (w_toFloat32S_ok a6 r30 hf28) (and_all (lts0_map (f := f32) (fun _ => rfl) _) rfl) (and_all (noss_map (f := f32) (fun _ => rfl) _) rfl) rfl (by decide) (ns_of ⟨⟨_, rfl⟩, trivial⟩)) rfl ?_
           refine ROps.d (r := b false) (fs := []) (Γ' := [⟨2, some (r13.map f32)⟩, ⟨2, some (r14.map i64)⟩, ⟨2, some [i64 r11, i64 r12, oref 0 2 0 r13.length, oref 1 2 0 r14.length]⟩, ⟨2, some (r15.map f32)⟩, ⟨2, some (r16.map f32)⟩, ⟨1, some (r10.map f32)⟩, ⟨1, some (r17.map f32)⟩, ⟨1, some (r19.map f32)⟩, ⟨3, some (r30.map f32)⟩]) rfl rfl rfl (TOp.eqb (TOp.callB (CallAs.func ent9 rfl rfl) (Bors.cons (Bor.own (f := f32) (fun _ => rfl) rfl rfl) (Bors.cons (Bor.own (f := f32) (fun _ => rfl) rfl rfl) Bors.nil)) rfl rfl (w_eqFloat32S_ok r17 r30 r31 hf29)) hc30) rfl ?_
           refine zL (r := b true) rfl rfl rfl (LOp.eqb (LOp.not rfl rfl) rfl) ?_
           refine zN ?_
           refine RunC.wl (τ' := [(1, sl a4.length (a4.map f32)), (2, sl a5.length (a5.map f32)), (3, sl a6.length (a6.map f32)), (4, ptr [i64 a0, i64 a1, sl a2.length (a2.map f32), sl a3.length (a3.map i64)]), (10, oref 5 1 0 r10.length), (11, b r9), (12, optr 2 2 0), (13, oref 3 2 0 r15.length), (14, oref 4 2 0 r16.length), (15, oref 6 1 0 r17.length), (16, oref 7 1 0 r19.length), (17, b r18), (93, b true)]) (Γ' := [⟨2, some (r13.map f32)⟩, ⟨2, some (r14.map i64)⟩, ⟨2, some [i64 r11, i64 r12, oref 0 2 0 r13.length, oref 1 2 0 r14.length]⟩, ⟨2, some (r15.map f32)⟩, ⟨2, some (r16.map f32)⟩, ⟨1, some (r10.map f32)⟩, ⟨1, some (r17.map f32)⟩, ⟨1, some (r19.map f32)⟩, ⟨3, none⟩]) ⟨aR, aR, aR, aR, aR, aR, aR, aR, aR, aR, aR, aR, aR, trivial⟩ ⟨⟨rfl, .inr rfl⟩, ⟨rfl, .inr rfl⟩, ⟨rfl, .inr rfl⟩, ⟨rfl, .inr rfl⟩, ⟨rfl, .inr rfl⟩, ⟨rfl, .inr rfl⟩, ⟨rfl, .inr rfl⟩, ⟨rfl, .inr rfl⟩, ⟨rfl, .inl rfl⟩, trivial⟩ ?_
           refine RunC.cond_true rfl rfl ?_
           refine zQ ?_
           refine zA (r := b false) rfl rfl rfl rfl rfl ?_
           refine zN ?_
           refine RunC.ret ?_
           have hq := Option.some.inj h
           subst q0
           exact bodyQ.pure (.inr rfl) rfl (Res.one rfl (RV.tmp rfl))
         ·refine RunC.regionW ?_
          refine zM (r := oref 4 2 0 r16.length) rfl rfl rfl rfl rfl ?_
          refine zM (r := sl a5.length (a5.map f32)) rfl rfl rfl rfl rfl ?_
          refine ROps.d (r := oref 8 2 0 r28.length) (fs := [(8, (r28.map f32))]) (Γ' := [⟨2, some (r13.map f32)⟩, ⟨2, some (r14.map i64)⟩, ⟨2, some [i64 r11, i64 r12, oref 0 2 0 r13.length, oref 1 2 0 r14.length]⟩, ⟨2, some (r15.map f32)⟩, ⟨2, some (r16.map f32)⟩, ⟨1, some (r10.map f32)⟩, ⟨1, some (r17.map f32)⟩, ⟨1, some (r19.map f32)⟩, ⟨2, some (r28.map f32)⟩]) rfl rfl rfl (TOp.callBN (ls := [(r28.map f32)]) [8] (CallAs.func ent7 rfl rfl) (Bors.cons (Bor.sl (fun _ => rfl)) Bors.nil) rfl (w_toFloat32S_ok a5 r28 hf25) (and_all (lts0_map (f := f32) (fun _ => rfl) _) rfl) (and_all (noss_map (f := f32) (fun _ => rfl) _) rfl) rfl (by decide) (ns_of ⟨⟨_, rfl⟩, trivial⟩)) rfl ?_
          refine ROps.d (r := b false) (fs := []) (Γ' := [⟨2, some (r13.map f32)⟩, ⟨2, some (r14.map i64)⟩, ⟨2, some [i64 r11, i64 r12, oref 0 2 0 r13.length, oref 1 2 0 r14.length]⟩, ⟨2, some (r15.map f32)⟩, ⟨2, some (r16.map f32)⟩, ⟨1, some (r10.map f32)⟩, ⟨1, some (r17.map f32)⟩, ⟨1, some (r19.map f32)⟩, ⟨2, some (r28.map f32)⟩]) rfl rfl rfl (TOp.eqb (TOp.callB (CallAs.func ent9 rfl rfl) (Bors.cons (Bor.own (f := f32) (fun _ => rfl) rfl rfl) (Bors.cons (Bor.own (f := f32) (fun _ => rfl) rfl rfl) Bors.nil)) rfl rfl (w_eqFloat32S_ok r16 r28 r29 hf26)) hc27) rfl ?_
          refine zL (r := b true) rfl rfl rfl (LOp.eqb (LOp.not rfl rfl) rfl) ?_
          refine zN ?_
          refine RunC.wl (τ' := [(1, sl a4.length (a4.map f32)), (2, sl a5.length (a5.map f32)), (3, sl a6.length (a6.map f32)), (4, ptr [i64 a0, i64 a1, sl a2.length (a2.map f32), sl a3.length (a3.map i64)]), (10, oref 5 1 0 r10.length), (11, b r9), (12, optr 2 2 0), (13, oref 3 2 0 r15.length), (14, oref 4 2 0 r16.length), (15, oref 6 1 0 r17.length), (16, oref 7 1 0 r19.length), (17, b r18), (88, b true)]) (Γ' := [⟨2, some (r13.map f32)⟩, ⟨2, some (r14.map i64)⟩, ⟨2, some [i64 r11, i64 r12, oref 0 2 0 r13.length, oref 1 2 0 r14.length]⟩, ⟨2, some (r15.map f32)⟩, ⟨2, some (r16.map f32)⟩, ⟨1, some (r10.map f32)⟩, ⟨1, some (r17.map f32)⟩, ⟨1, some (r19.map f32)⟩, ⟨2, none⟩]) ⟨aR, aR, aR, aR, aR, aR, aR, aR, aR, aR, aR, aR, aR, trivial⟩ ⟨⟨rfl, .inr rfl⟩, ⟨rfl, .inr rfl⟩, ⟨rfl, .inr rfl⟩, ⟨rfl, .inr rfl⟩, ⟨rfl, .inr rfl⟩, ⟨rfl, .inr rfl⟩, ⟨rfl, .inr rfl⟩, ⟨rfl, .inr rfl⟩, ⟨rfl, .inl rfl⟩, trivial⟩ ?_
          refine RunC.cond_true rfl rfl ?_
          refine zQ ?_
          refine zA (r := b false) rfl rfl rfl rfl rfl ?_
          refine zN ?_
          refine RunC.ret ?_
          have hq := Option.some.inj h
          subst q0
          exact bodyQ.pure (.inr rfl) rfl (Res.one rfl (RV.tmp rfl))
        ·refine RunC.regionW ?_
         refine zM (r := oref 3 2 0 r15.length) rfl rfl rfl rfl rfl ?_
         refine zM (r := sl a4.length (a4.map f32)) rfl rfl rfl rfl rfl ?_
         refine ROps.d (r := oref 8 1 0 r26.length) (fs := [(8, (r26.map f32))]) (Γ' := [⟨2, some (r13.map f32)⟩, ⟨2, some (r14.map i64)⟩, ⟨2, some [i64 r11, i64 r12, oref 0 2 0 r13.length, oref 1 2 0 r14.length]⟩, ⟨2, some (r15.map f32)⟩, ⟨2, some (r16.map f32)⟩, ⟨1, some (r10.map f32)⟩, ⟨1, some (r17.map f32)⟩, ⟨1, some (r19.map f32)⟩, ⟨1, some (r26.map f32)⟩]) rfl rfl rfl (TOp.callBN (ls := [(r26.map f32)]) [8] (CallAs.func ent7 rfl rfl) (Bors.cons (Bor.sl (fun _ => rfl)) Bors.nil) rfl (w_toFloat32S_ok a4 r26 hf22) (and_all (lts0_map (f := f32) (fun _ => rfl) _) rfl) (and_all (noss_map (f := f32) (fun _ => rfl) _) rfl) rfl (by decide) (ns_of ⟨⟨_, rfl⟩, trivial⟩)) rfl ?_
         refine ROps.d (r := b false) (fs := []) (Γ' := [⟨2, some (r13.map f32)⟩, ⟨2, some (r14.map i64)⟩, ⟨2, some [i64 r11, i64 r12, oref 0 2 0 r13.length, oref 1 2 0 r14.length]⟩, ⟨2, some (r15.map f32)⟩, ⟨2, some (r16.map f32)⟩, ⟨1, some (r10.map f32)⟩, ⟨1, some (r17.map f32)⟩, ⟨1, some (r19.map f32)⟩, ⟨1, some (r26.map f32)⟩]) rfl rfl rfl (TOp.eqb (TOp.callB (CallAs.func ent9 rfl rfl) (Bors.cons (Bor.own (f := f32) (fun _ => rfl) rfl rfl) (Bors.cons (Bor.own (f := f32) (fun _ => rfl) rfl rfl) Bors.nil)) rfl rfl (w_eqFloat32S_ok r15 r26 r27 hf23)) hc24) rfl ?_
         refine zL (r := b true) rfl rfl rfl (LOp.eqb (LOp.not rfl rfl) rfl) ?_
         refine zN ?_
         refine RunC.wl (τ' := [(1, sl a4.length (a4.map f32)), (2, sl a5.length (a5.map f32)), (3, sl a6.length (a6.map f32)), (4, ptr [i64 a0, i64 a1, sl a2.length (a2.map f32), sl a3.length (a3.map i64)]), (10, oref 5 1 0 r10.length), (11, b r9), (12, optr 2 2 0), (13, oref 3 2 0 r15.length), (14, oref 4 2 0 r16.length), (15, oref 6 1 0 r17.length), (16, oref 7 1 0 r19.length), (17, b r18), (83, b true)]) (Γ' := [⟨2, some (r13.map f32)⟩, ⟨2, some (r14.map i64)⟩, ⟨2, some [i64 r11, i64 r12, oref 0 2 0 r13.length, oref 1 2 0 r14.length]⟩, ⟨2, some (r15.map f32)⟩, ⟨2, some (r16.map f32)⟩, ⟨1, some (r10.map f32)⟩, ⟨1, some (r17.map f32)⟩, ⟨1, some (r19.map f32)⟩, ⟨1, none⟩]) ⟨aR, aR, aR, aR, aR, aR, aR, aR, aR, aR, aR, aR, aR, trivial⟩ ⟨⟨rfl, .inr rfl⟩, ⟨rfl, .inr rfl⟩, ⟨rfl, .inr rfl⟩, ⟨rfl, .inr rfl⟩, ⟨rfl, .inr rfl⟩, ⟨rfl, .inr rfl⟩, ⟨rfl, .inr rfl⟩, ⟨rfl, .inr rfl⟩, ⟨rfl, .inl rfl⟩, trivial⟩ ?_
         refine RunC.cond_true rfl rfl ?_
         refine zQ ?_
         refine zA (r := b false) rfl rfl rfl rfl rfl ?_
         refine zN ?_
         refine RunC.ret ?_
         have hq := Option.some.inj h
         subst q0
         exact bodyQ.pure (.inr rfl) rfl (Res.one rfl (RV.tmp rfl))
       ·refine RunC.region_draw (Γ' := [⟨2, some (r13.map f32)⟩, ⟨2, some (r14.map i64)⟩, ⟨2, some [i64 r11, i64 r12, oref 0 2 0 r13.length, oref 1 2 0 r14.length]⟩, ⟨2, some (r15.map f32)⟩, ⟨2, some (r16.map f32)⟩, ⟨1, some (r10.map f32)⟩, ⟨1, some (r17.map f32)⟩, ⟨1, some (r19.map f32)⟩, ⟨0, none⟩]) 5 mixed 
         (TR.d (r := agg [i64 r11, i64 r12, oref 0 2 0 r13.length, oref 1 2 0 r14.length]) (fs := []) rfl rfl (TOp.loadAgg_o rfl agg33 siz33 rfl rfl rfl rfl) <|
         (TR.l (r := agg [i64 a0, i64 a1, sl a2.length (a2.map f32), sl a3.length (a3.map i64)]) rfl rfl (LOp.loadAgg agg27 siz27 rfl rfl rfl rfl) <|
         (TR.d (r := agg [i64 r21, i64 r22, sl r23.length (r23.map f32), sl r24.length (r24.map i64)]) (fs := []) rfl rfl (TOp.callS (CallAs.func ent6 rfl rfl) (ALes.cons aR ALes.nil) (lts_cons (lt_agg (lts_cons rfl (lts_cons rfl (lts_cons (lt_sl (fun _ => rfl)) (lts_cons (lt_sl (fun _ => rfl)) lts_nil))))) lts_nil) (lt_agg (lts_cons rfl (lts_cons rfl (lts_cons (lt_sl (fun _ => rfl)) (lts_cons (lt_sl (fun _ => rfl)) lts_nil))))) (w_toFactor_ok a0 a1 a2 a3 r21 r22 r23 r24 hf19) (Bor.agg (Bors.cons (Bor.pure rfl) (Bors.cons (Bor.pure rfl) (Bors.cons (Bor.own (f := f32) (fun _ => rfl) rfl rfl) (Bors.cons (Bor.own (f := i64) (fun _ => rfl) rfl rfl) Bors.nil)))))) <|
         (TR.d (r := b false) (fs := []) rfl rfl (TOp.eqb (TOp.callB (CallAs.func ent10 rfl rfl) (Bors.cons (Bor.agg (Bors.cons (Bor.pure rfl) (Bors.cons (Bor.pure rfl) (Bors.cons (Bor.own (f := f32) (fun _ => rfl) rfl rfl) (Bors.cons (Bor.own (f := i64) (fun _ => rfl) rfl rfl) Bors.nil))))) (Bors.cons (Bor.agg (Bors.cons (Bor.pure rfl) (Bors.cons (Bor.pure rfl) (Bors.cons (Bor.sl (fun _ => rfl)) (Bors.cons (Bor.sl (fun _ => rfl)) Bors.nil))))) Bors.nil)) rfl rfl (w_eqFactor_ok r11 r12 r13 r14 r21 r22 r23 r24 r25 hf20)) hc21) <|
         (TR.l (r := b true) rfl rfl (LOp.eqb (LOp.not rfl rfl) rfl) <|
         TR.nil))))) rfl (by kernel_rfl) rfl fills_nil rfl ?_
        iterate 5 refine ROps.dropS ?_
        refine ROps.drop0 ?_
        refine zN ?_
        refine RunC.cond_true rfl rfl ?_
        refine zQ ?_
        refine zA (r := b false) rfl rfl rfl rfl rfl ?_
        refine zN ?_
        refine RunC.ret ?_
        have hq := Option.some.inj h
        subst q0
        exact bodyQ.pure (.inr rfl) rfl (Res.one rfl (RV.tmp rfl))
     ·refine RunC.regionW ?_
      refine zM (r := oref 7 1 0 r19.length) rfl rfl rfl rfl rfl ?_
      refine zM (r := oref 5 1 0 r10.length) rfl rfl rfl rfl rfl ?_
      refine ROps.d (r := b false) (fs := []) (Γ' := [⟨2, some (r13.map f32)⟩, ⟨2, some (r14.map i64)⟩, ⟨2, some [i64 r11, i64 r12, oref 0 2 0 r13.length, oref 1 2 0 r14.length]⟩, ⟨2, some (r15.map f32)⟩, ⟨2, some (r16.map f32)⟩, ⟨1, some (r10.map f32)⟩, ⟨1, some (r17.map f32)⟩, ⟨1, some (r19.map f32)⟩, ⟨0, none⟩]) rfl rfl rfl (TOp.eqb (TOp.callB (CallAs.func ent9 rfl rfl) (Bors.cons (Bor.own (f := f32) (fun _ => rfl) rfl rfl) (Bors.cons (Bor.own (f := f32) (fun _ => rfl) rfl rfl) Bors.nil)) rfl rfl (w_eqFloat32S_ok r19 r10 r20 hf16)) hc17) rfl ?_
      refine zL (r := b true) rfl rfl rfl (LOp.eqb (LOp.not rfl rfl) rfl) ?_
      refine zM (r := b true) rfl rfl rfl rfl rfl ?_
      refine ROps.s rfl rfl rfl ?_
      refine ROps.s rfl rfl rfl ?_
      refine ROps.s rfl rfl rfl ?_
      refine zL (r := b true) rfl rfl rfl (LOp.pick_true rfl rfl rfl) ?_
      refine zN ?_
      refine RunC.wl (τ' := [(1, sl a4.length (a4.map f32)), (2, sl a5.length (a5.map f32)), (3, sl a6.length (a6.map f32)), (4, ptr [i64 a0, i64 a1, sl a2.length (a2.map f32), sl a3.length (a3.map i64)]), (10, oref 5 1 0 r10.length), (11, b r9), (12, optr 2 2 0), (13, oref 3 2 0 r15.length), (14, oref 4 2 0 r16.length), (15, oref 6 1 0 r17.length), (16, oref 7 1 0 r19.length), (17, b r18), (73, b true)]) (Γ' := [⟨2, some (r13.map f32)⟩, ⟨2, some (r14.map i64)⟩, ⟨2, some [i64 r11, i64 r12, oref 0 2 0 r13.length, oref 1 2 0 r14.length]⟩, ⟨2, some (r15.map f32)⟩, ⟨2, some (r16.map f32)⟩, ⟨1, some (r10.map f32)⟩, ⟨1, some (r17.map f32)⟩, ⟨1, some (r19.map f32)⟩, ⟨0, none⟩]) ⟨aR, aR, aR, aR, aR, aR, aR, aR, aR, aR, aR, aR, aR, trivial⟩ ⟨⟨rfl, .inr rfl⟩, ⟨rfl, .inr rfl⟩, ⟨rfl, .inr rfl⟩, ⟨rfl, .inr rfl⟩, ⟨rfl, .inr rfl⟩, ⟨rfl, .inr rfl⟩, ⟨rfl, .inr rfl⟩, ⟨rfl, .inr rfl⟩, ⟨rfl, .inr rfl⟩, trivial⟩ ?_
      refine RunC.cond_true rfl rfl ?_
      refine zQ ?_
      refine zA (r := b false) rfl rfl rfl rfl rfl ?_
      refine zN ?_
      refine RunC.ret ?_
      have hq := Option.some.inj h
      subst q0
      exact bodyQ.pure (.inr rfl) rfl (Res.one rfl (RV.tmp rfl))
end Go.Proofs.YtjdonddobkpghaaGreat
