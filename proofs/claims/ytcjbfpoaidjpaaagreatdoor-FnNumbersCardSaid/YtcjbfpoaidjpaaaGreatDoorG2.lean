/- Generated. -/
import Derived.Test.YtcjbfpoaidjpaaaGreatDoorG1
namespace Go.Proofs.YtcjbfpoaidjpaaaGreatDoor
open Go Go.AM Go.AM.AV
set_option maxRecDepth 20000
set_option maxHeartbeats 4000000
set_option linter.unusedVariables false
set_option linter.unusedSimpArgs false
noncomputable def w_FnNumbers_b1 (r9 : List F) (y10 : F) (v11 : Int) : Option (LR (F × Int) (F) (Bool)) :=
 bsel (decide (v11 < (r9.length : Int))) (
  obind (at? r9 v11) fun (e12 : F) =>
  olet (fop .add .f32 y10 e12) fun (x13 : F) =>
  olet (IntKind.i64.wrap (v11 + 1)) fun (x14 : Int) =>
  some (LR.next (x13, x14))) (
  some (LR.out y10))
noncomputable def w_FnNumbers_s1 (r9 : List F) : (F × Int) → Option (LR (F × Int) (F) (Bool)) := fun s => w_FnNumbers_b1 r9 s.1 s.2
noncomputable def w_FnNumbers_k3  : Option (Bool) :=
 some false
noncomputable def w_FnNumbers_b6 (r9 : List F) (r21 : List F) (v27 : Int) : Option (LR (Int) (Unit) (Bool)) :=
 bsel (decide (v27 < (r9.length : Int))) (
  obind (at? r21 v27) fun (e28 : F) =>
  obind (at? r9 v27) fun (e29 : F) =>
  obind (s_SameNumber e28 e29) fun (r30 : Bool) =>
  bsel r30 (
   olet (IntKind.i64.wrap (v27 + 1)) fun (x31 : Int) =>
   some (LR.next x31)) (
   some (LR.ret false))) (
  some (LR.out ()))
noncomputable def w_FnNumbers_s6 (r9 : List F) (r21 : List F) : (Int) → Option (LR (Int) (Unit) (Bool)) := fun s => w_FnNumbers_b6 r9 r21 s
noncomputable def w_FnNumbers_k8  : Option (Bool) :=
 some false
noncomputable def w_FnNumbers_k10 (w39 : Bool) : Option (Bool) :=
 some w39
noncomputable def w_FnNumbers_k6 (r2 : F) (r3 : F) : Option (Bool) :=
 obind (i_AngleTurns r3 r2) fun (r32 : F) =>
 obind (i_AngleOf r2 r3) fun (r33 : F) =>
 obind (s_SameNumber r32 r33) fun (r34 : Bool) =>
 bsel r34 (
  olet (fwiden r2) fun (x35 : F) =>
  obind (i_NarrowNumber x35) fun (r36 : F) =>
  obind (s_SameNumber r36 r2) fun (r37 : Bool) =>
  bsel r37 (
   obind (i_SineTurns (some 1048576000)) fun (r38 : F) =>
   w_FnNumbers_k10 (feq .f32 r38 (some 1065353216))) (
   w_FnNumbers_k8)) (
  w_FnNumbers_k8)
noncomputable def w_FnNumbers_k5 (r2 : F) (r3 : F) (r9 : List F) (r21 : List F) : Option (Bool) :=
 obind (loopM (w_FnNumbers_s6 r9 r21) 0) fun z => osum z (fun e => w_FnNumbers_k6 r2 r3) (fun r => some r)
noncomputable def w_FnNumbers_k1 (r2 : F) (r3 : F) (r5 : F) (r6 : Bool) (r7 : F) (r9 : List F) (y15 : F) : Option (Bool) :=
 obind2 (i_SumNumbers r9) fun (r16 : F) (r17 : Bool) =>
 obind2 (i_NumbersText r9) fun (r18 : ByteArray) (r19 : Bool) =>
 obind2 (i_ReadNumbers r18) fun (r20 : Bool) (r21 : List F) =>
 bsel r6 (
  bsel r17 (
   bsel r19 (
    bsel r20 (
     obind (s_SameNumber r5 r2) fun (r22 : Bool) =>
     bsel r22 (
      obind (i_IsSubnormal r7) fun (r23 : Bool) =>
      bsel r23 (
       w_FnNumbers_k3) (
       obind (i_IsSubnormal r2) fun (r24 : Bool) =>
       obind (s_SameNumber r2 r7) fun (r25 : Bool) =>
       bsel (r24 == r25) (
        w_FnNumbers_k3) (
        obind (s_SameNumber r16 y15) fun (r26 : Bool) =>
        bsel r26 (
         bsel (!decide ((r21.length : Int) = (r9.length : Int))) (
          w_FnNumbers_k3) (
          w_FnNumbers_k5 r2 r3 r9 r21)) (
         w_FnNumbers_k3)))) (
      w_FnNumbers_k3)) (
     w_FnNumbers_k3)) (
    w_FnNumbers_k3)) (
   w_FnNumbers_k3)) (
  w_FnNumbers_k3)
noncomputable def w_FnNumbers (a0 : List Int) (a1 : List Int) : Option (Bool) :=
 obind (w_b10Long a0 a1) fun (r1 : Bool) =>
 bsel r1 (
  some true) (
  obind (s_B10Number a0) fun (r2 : F) =>
  obind (s_B10Number a1) fun (r3 : F) =>
  obind (i_BitsOf r2) fun (r4 : Int) =>
  obind2 (i_FromBits r4) fun (r5 : F) (r6 : Bool) =>
  obind (i_FlushNumber r2) fun (r7 : F) =>
  obind (w_b10At a0 0 12) fun (r8 : Int) =>
  obind (s_B10Numbers a1 r8) fun (r9 : List F) =>
  obind (loopM (w_FnNumbers_s1 r9) (some 0, 0)) fun z => osum z (fun e => w_FnNumbers_k1 r2 r3 r5 r6 r7 r9 e) (fun r => some r))
theorem w_FnNumbers_ok (a0 : List Int) (a1 : List Int) (q0 : Bool) (h : w_FnNumbers a0 a1 = some q0) : Ev Tryz.prog 4 [sl a0.length (a0.map (ik .u8)), sl a1.length (a1.map (ik .u8))] [] (b q0) [] := by
 refine Ev.start Tryz.func4 rfl rfl 0 (τ := [(0, sl a0.length (a0.map (ik .u8))), (1, sl a1.length (a1.map (ik .u8)))]) rfl (Γ' := []) rfl (n := 293) rfl (g := 0) rfl (fun _ => rfl) ?_
 unfold w_FnNumbers at h
 refine zQ ?_
 refine za (r := b false) ?_
 refine zN ?_
 iterate 2 (refine RunC.seq ?_)
 obtain ⟨r1, hf1, h⟩ := obind_some h
 rcases bsel_some h with ⟨hc2, h⟩ | ⟨hc2, h⟩
 ·refine RunC.regionW ?_
  refine zm (r := sl a0.length (a0.map (ik .u8))) ?_
  refine zm (r := sl a1.length (a1.map (ik .u8))) ?_
  refine ROps.d (r := b true) (fs := []) (Γ' := []) rfl rfl rfl (TOp.eqb (TOp.callB (CallAs.func ent5 rfl rfl) (Bors.cons (Bor.sl (fun _ => rfl)) (Bors.cons (Bor.sl (fun _ => rfl)) Bors.nil)) rfl rfl (w_b10Long_ok a0 a1 r1 hf1)) hc2) rfl ?_
  refine zN ?_
  refine RunC.cond_true rfl rfl ?_
  refine zQ ?_
  refine za (r := b true) ?_
  refine zN ?_
  refine RunC.ret ?_
  have hq := Option.some.inj h
  subst q0
  exact bodyQ.pure (.inr rfl) rfl (Res.one rfl (RV.tmp rfl))
 ·refine RunC.regionW ?_
  refine zm (r := sl a0.length (a0.map (ik .u8))) ?_
  refine zm (r := sl a1.length (a1.map (ik .u8))) ?_
  refine ROps.d (r := b false) (fs := []) (Γ' := []) rfl rfl rfl (TOp.eqb (TOp.callB (CallAs.func ent5 rfl rfl) (Bors.cons (Bor.sl (fun _ => rfl)) (Bors.cons (Bor.sl (fun _ => rfl)) Bors.nil)) rfl rfl (w_b10Long_ok a0 a1 r1 hf1)) hc2) rfl ?_
  refine zN ?_
  refine RunC.cond_false rfl rfl ?_
  refine RunC.skip ?_
  refine RunC.seq ?_
  obtain ⟨r2, hf3, h⟩ := obind_some h
  refine RunC.regionW ?_
  refine zm (r := sl a0.length (a0.map (ik .u8))) ?_
  refine ROps.d (r := f32 r2) (fs := []) (Γ' := []) rfl rfl rfl (TOp.callB (CallAs.func ent19 rfl rfl) (Bors.cons (Bor.sl (fun _ => rfl)) Bors.nil) rfl rfl (s_B10Number_ok a0 r2 hf3)) rfl ?_
  refine za (r := f32 r2) ?_
  refine zN ?_
  refine RunC.seq ?_
  obtain ⟨r3, hf4, h⟩ := obind_some h
  refine RunC.regionW ?_
  refine zm (r := sl a1.length (a1.map (ik .u8))) ?_
  refine ROps.d (r := f32 r3) (fs := []) (Γ' := []) rfl rfl rfl (TOp.callB (CallAs.func ent19 rfl rfl) (Bors.cons (Bor.sl (fun _ => rfl)) Bors.nil) rfl rfl (s_B10Number_ok a1 r3 hf4)) rfl ?_
  refine za (r := f32 r3) ?_
  refine zN ?_
  refine RunC.seq ?_
  obtain ⟨r4, hf5, h⟩ := obind_some h
  obtain ⟨r5, r6, hf6, h⟩ := obind2_some h
  refine RunC.regionW ?_
  refine zm (r := f32 r2) ?_
  refine ROps.d (r := i64 r4) (fs := []) (Γ' := []) rfl rfl rfl (TOp.callB (CallAs.func ent21 rfl rfl) (Bors.cons (Bor.pure rfl) Bors.nil) rfl rfl (i_BitsOf_ok r2 r4 hf5)) rfl ?_
  refine ROps.d (r := tup [f32 r5, b r6]) (fs := []) (Γ' := []) rfl rfl rfl (TOp.callB (CallAs.func ent20 rfl rfl) (Bors.cons (Bor.pure rfl) Bors.nil) rfl rfl (i_FromBits_ok r4 r5 r6 hf6)) rfl ?_
  refine zm (r := tup [f32 r5, b r6]) ?_
  refine zl (r := f32 r5) (LOp.extract rfl rfl rfl) ?_
  refine zl (r := b r6) (LOp.extract rfl rfl rfl) ?_
  refine za (r := f32 r5) ?_
  refine za (r := b r6) ?_
  refine zN ?_
  refine RunC.seq ?_
  obtain ⟨r7, hf7, h⟩ := obind_some h
  refine RunC.regionW ?_
  refine zm (r := f32 r2) ?_
  refine ROps.d (r := f32 r7) (fs := []) (Γ' := []) rfl rfl rfl (TOp.callB (CallAs.func ent28 rfl rfl) (Bors.cons (Bor.pure rfl) Bors.nil) rfl rfl (i_FlushNumber_ok r2 r7 hf7)) rfl ?_
  refine za (r := f32 r7) ?_
  refine zN ?_
  refine RunC.seq ?_
  obtain ⟨r8, hf8, h⟩ := obind_some h
  obtain ⟨r9, hf9, h⟩ := obind_some h
  refine RunC.regionW ?_
  refine zm (r := sl a1.length (a1.map (ik .u8))) ?_
  refine zm (r := sl a0.length (a0.map (ik .u8))) ?_
  refine ROps.d (r := i64 r8) (fs := []) (Γ' := []) rfl rfl rfl (TOp.callB (CallAs.func ent16 rfl rfl) (Bors.cons (Bor.sl (fun _ => rfl)) (Bors.cons (Bor.pure rfl) (Bors.cons (Bor.pure rfl) Bors.nil))) rfl rfl (w_b10At_ok a0 0 12 r8 hf8)) rfl ?_
  refine ROps.d (r := (sFc r9)) (fs := []) (Γ' := []) rfl rfl rfl (TOp.callS (CallAs.func ent29 rfl rfl) (ALes.cons aR (ALes.cons aR ALes.nil)) (lts_cons (lt_sl (fun _ => rfl)) (lts_cons rfl lts_nil)) (lt_sl (fun _ => rfl)) (s_B10Numbers_ok a1 r8 r9 hf9) (Bor.own (f := f32) (fun _ => rfl) rfl rfl)) rfl ?_
  refine za (r := (sFc r9)) ?_
  refine zN ?_
  refine zQ ?_
  refine zl (r := f32 (some 0)) (LOp.le (LOp.assign rfl rfl) (ALe.fl (by kernel_rfl) (by kernel_rfl))) ?_
  refine zN ?_
  refine RunC.seq ?_
  refine zQ ?_
  refine zm (r := (sFc r9)) ?_
  refine zl (r := i64 (r9.length : Int)) (LOp.len_sl und52 rfl rfl) ?_
  refine zm (r := i64 0) ?_
  refine zN ?_
  obtain ⟨z11, hz_11, h⟩ := obind_some h
  refine RunC.cutN (fun τ Γ => ∃ (y15 : F), Le 293 τ Γ [(5, f32 r2), (6, f32 r3), (7, f32 r5), (8, b r6), (9, f32 r7), (10, (sFc r9)), (11, f32 y15)] [] ∧ z11 = .inl y15) ?_ ?_
  ·refine RunC.block (RunC.loop (RunL.loopM (x := z11) (w_FnNumbers_s1 r9) (fun (s : F × Int) τ Γ => Le 293 τ Γ [(5, f32 r2), (6, f32 r3), (7, f32 r5), (8, b r6), (9, f32 r7), (10, (sFc r9)), (11, f32 s.1), (40, i64 (r9.length : Int)), (41, i64 s.2)] []) ?_ _ _ _ hz_11 (Le.of ⟨aR, aR, aR, aR, aR, aR, aR, aR, aR, trivial⟩ trivial)))
   rintro ⟨y10, v11⟩ τ11 Γ11 y11_ hw11 h11_ ho11 hr11
   refine RunC.le (τ' := [(5, f32 r2), (6, f32 r3), (7, f32 r5), (8, b r6), (9, f32 r7), (10, (sFc r9)), (11, f32 y10), (40, i64 (r9.length : Int)), (41, i64 v11)]) (Γ' := []) hw11 ?_
   replace h11_ : w_FnNumbers_b1 r9 y10 v11 = some y11_ := h11_
   unfold w_FnNumbers_b1 at h11_
   refine RunC.seq ?_
   rcases bsel_some h11_ with ⟨hc10, h11_⟩ | ⟨hc10, h11_⟩
   ·refine RunC.regionW ?_
    refine zl (r := b true) (LOp.eqb (LOp.lss rfl rfl rfl) hc10) ?_
    refine zN ?_
    refine RunC.seq ?_
    refine RunC.cond_true rfl rfl ?_
    refine RunC.skip ?_
    refine RunC.seq ?_
    refine RunC.block ?_
    refine zQ ?_
    refine zm (r := i64 v11) ?_
    refine za (r := i64 v11) ?_
    refine zN ?_
    obtain ⟨e12, he11, h11_⟩ := obind_some h11_
    obtain ⟨x13, hx12, h11_⟩ := olet_some h11_
    refine RunC.regionW ?_
    refine zm (r := f32 y10) ?_
    refine zm (r := (sFc r9)) ?_
    refine zm (r := i64 v11) ?_
    refine zl (r := ptr [f32 e12]) (LOp.le (LOp.ix (f := f32) und52 siz28 rfl rfl rfl rfl he11) ALe.ptr) ?_
    refine zl (r := f32 e12) (LOp.load1 agg28 rfl rfl) ?_
    refine ROps.d (r := f32 x13) (fs := []) (Γ' := []) rfl rfl rfl (TOp.eqr (TOp.fop (.inl rfl) rfl (OpF.tmp rfl) (OpF.tmp rfl)) (congrArg (f .f32) hx12)) rfl ?_
    refine za (r := f32 x13) ?_
    refine zN ?_
    obtain ⟨x14, hx13, h11_⟩ := olet_some h11_
    refine RunC.regionW ?_
    refine zl (r := i64 x14) (LOp.eqr (LOp.add rfl rfl rfl) (congrArg (ik .i64) hx13)) ?_
    refine zm (r := i64 x14) ?_
    refine zN ?_
    cases Option.some.inj h11_
    exact ⟨_, rfl, (Le.of ⟨aR, aR, aR, aR, aR, aR, aR, aR, aR, trivial⟩ trivial)⟩
   ·refine RunC.regionW ?_
    refine zl (r := b false) (LOp.eqb (LOp.lss rfl rfl rfl) hc10) ?_
    refine zN ?_
    refine RunC.seq ?_
    refine RunC.cond_false rfl rfl ?_
    refine RunC.exit ?_
    cases Option.some.inj h11_
    have hx := ho11 _ rfl
    exact ⟨y10, (Le.of ⟨aR, aR, aR, aR, aR, aR, aR, trivial⟩ trivial), hx⟩
  ·rintro τ12 Γ12 ⟨y15, hw12, rfl⟩
   refine RunC.le hw12 ?_
   replace h : w_FnNumbers_k1 r2 r3 r5 r6 r7 r9 y15 = some q0 := h
   unfold w_FnNumbers_k1 at h
   refine RunC.seq ?_
   obtain ⟨r16, r17, hf14, h⟩ := obind2_some h
   refine RunC.regionW ?_
   refine zm (r := (sFc r9)) ?_
   refine ROps.d (r := tup [f32 r16, b r17]) (fs := []) (Γ' := []) rfl rfl rfl (TOp.callB (CallAs.func ent30 rfl rfl) (Bors.cons (Bor.sl (fun _ => rfl)) Bors.nil) rfl rfl (i_SumNumbers_ok r9 r16 r17 hf14)) rfl ?_
   refine zm (r := tup [f32 r16, b r17]) ?_
   refine zl (r := f32 r16) (LOp.extract rfl rfl rfl) ?_
   refine zl (r := b r17) (LOp.extract rfl rfl rfl) ?_
   refine za (r := f32 r16) ?_
   refine za (r := b r17) ?_
   refine zN ?_
   refine RunC.seq ?_
   obtain ⟨r18, r19, hf15, h⟩ := obind2_some h
   refine RunC.regionW ?_
   refine zm (r := (sFc r9)) ?_
   refine ROps.d (r := tup [str r18, b r19]) (fs := []) (Γ' := []) rfl rfl rfl (TOp.callB (CallAs.func ent31 rfl rfl) (Bors.cons (Bor.sl (fun _ => rfl)) Bors.nil) rfl rfl (i_NumbersText_ok r9 r18 r19 hf15)) rfl ?_
   refine zm (r := tup [str r18, b r19]) ?_
   refine zl (r := str r18) (LOp.extract rfl rfl rfl) ?_
   refine zl (r := b r19) (LOp.extract rfl rfl rfl) ?_
   refine za (r := str r18) ?_
   refine za (r := b r19) ?_
   refine zN ?_
   refine RunC.seq ?_
   obtain ⟨r20, r21, hf16, h⟩ := obind2_some h
   refine RunC.regionW ?_
   refine zm (r := str r18) ?_
   refine ROps.d (r := tup [(sFc r21), b r20]) (fs := []) (Γ' := []) rfl rfl rfl (TOp.callS (CallAs.func ent32 rfl rfl) (ALes.cons aR ALes.nil) (lts_cons rfl lts_nil) (lt_tup (lts_cons (lt_sl (fun _ => rfl)) (lts_cons rfl lts_nil))) (i_ReadNumbers_ok r18 r20 r21 hf16) (Bor.tup (Bors.cons (Bor.own (f := f32) (fun _ => rfl) rfl rfl) (Bors.cons (Bor.pure rfl) Bors.nil)))) rfl ?_
   refine zm (r := tup [(sFc r21), b r20]) ?_
   refine zl (r := (sFc r21)) (LOp.extract rfl rfl rfl) ?_
   refine zl (r := b r20) (LOp.extract rfl rfl rfl) ?_
   refine za (r := (sFc r21)) ?_
   refine za (r := b r20) ?_
   refine zN ?_
   iterate 2 (refine RunC.seq ?_)
   refine RunC.cutN (fun τ Γ => ( Le 293 τ Γ [(5, f32 r2), (6, f32 r3), (10, (sFc r9)), (17, (sFc r21)), (110, b true)] [] ∧ w_FnNumbers_k3 = some q0) ∨ ( Le 293 τ Γ [(5, f32 r2), (6, f32 r3), (10, (sFc r9)), (17, (sFc r21)), (110, b false)] [] ∧ w_FnNumbers_k5 r2 r3 r9 r21 = some q0)) ?_ ?_
   ·rcases bsel_some h with ⟨hc17, h⟩ | ⟨hc17, h⟩
    ·rcases bsel_some h with ⟨hc18, h⟩ | ⟨hc18, h⟩
     ·rcases bsel_some h with ⟨hc19, h⟩ | ⟨hc19, h⟩
      ·rcases bsel_some h with ⟨hc20, h⟩ | ⟨hc20, h⟩
       ·obtain ⟨r22, hf21, h⟩ := obind_some h
        rcases bsel_some h with ⟨hc22, h⟩ | ⟨hc22, h⟩
        ·obtain ⟨r23, hf23, h⟩ := obind_some h
         rcases bsel_some h with ⟨hc24, h⟩ | ⟨hc24, h⟩
         ·refine RunC.regionW ?_
          refine zl (r := b true) (LOp.eqb (LOp.move rfl rfl) hc17) ?_
          refine zl (r := b false) (LOp.eqb (LOp.not rfl rfl) rfl) ?_
          refine zm (r := b false) ?_
          refine zl (r := b true) (LOp.eqb (LOp.move rfl rfl) hc18) ?_
          refine zl (r := b false) (LOp.eqb (LOp.not rfl rfl) rfl) ?_
          refine zl (r := b false) (LOp.pick_false rfl rfl rfl) ?_
          refine zm (r := b false) ?_
          refine zl (r := b true) (LOp.eqb (LOp.move rfl rfl) hc19) ?_
          refine zl (r := b false) (LOp.eqb (LOp.not rfl rfl) rfl) ?_
          refine zl (r := b false) (LOp.pick_false rfl rfl rfl) ?_
          refine zm (r := b false) ?_
          refine zl (r := b true) (LOp.eqb (LOp.move rfl rfl) hc20) ?_
          refine zl (r := b false) (LOp.eqb (LOp.not rfl rfl) rfl) ?_
          refine zl (r := b false) (LOp.pick_false rfl rfl rfl) ?_
          refine zm (r := b false) ?_
          refine zm (r := f32 r5) ?_
          refine zm (r := f32 r2) ?_
          refine ROps.d (r := b true) (fs := []) (Γ' := []) rfl rfl rfl (TOp.eqb (TOp.callB (CallAs.func ent10 rfl rfl) (Bors.cons (Bor.pure rfl) (Bors.cons (Bor.pure rfl) Bors.nil)) rfl rfl (s_SameNumber_ok r5 r2 r22 hf21)) hc22) rfl ?_
          refine zl (r := b false) (LOp.eqb (LOp.not rfl rfl) rfl) ?_
          refine zl (r := b false) (LOp.pick_false rfl rfl rfl) ?_
          refine zm (r := b false) ?_
          refine zm (r := f32 r7) ?_
          refine ROps.d (r := b true) (fs := []) (Γ' := []) rfl rfl rfl (TOp.eqb (TOp.callB (CallAs.func ent33 rfl rfl) (Bors.cons (Bor.pure rfl) Bors.nil) rfl rfl (i_IsSubnormal_ok r7 r23 hf23)) hc24) rfl ?_
          refine zl (r := b true) (LOp.pick_false rfl rfl rfl) ?_
          refine zm (r := b true) ?_
          iterate 6 (refine ROps.s rfl rfl rfl ?_)
          iterate 2 (refine zl (r := b true) (LOp.pick_true rfl rfl rfl) ?_; refine zm (r := b true) ?_; refine ROps.s rfl rfl rfl ?_; refine ROps.s rfl rfl rfl ?_; refine ROps.s rfl rfl rfl ?_; refine ROps.s rfl rfl rfl ?_)
          refine ROps.s rfl rfl rfl ?_
          refine zl (r := b true) (LOp.pick_true rfl rfl rfl) ?_
          refine zN ?_
          exact .inl ⟨(Le.of ⟨aR, aR, aR, aR, aR, trivial⟩ trivial), h⟩
         ·obtain ⟨r24, hf25, h⟩ := obind_some h
          obtain ⟨r25, hf26, h⟩ := obind_some h
          rcases bsel_some h with ⟨hc27, h⟩ | ⟨hc27, h⟩
          ·refine RunC.regionW ?_
           refine zl (r := b true) (LOp.eqb (LOp.move rfl rfl) hc17) ?_
           refine zl (r := b false) (LOp.eqb (LOp.not rfl rfl) rfl) ?_
           refine zm (r := b false) ?_
           refine zl (r := b true) (LOp.eqb (LOp.move rfl rfl) hc18) ?_
           refine zl (r := b false) (LOp.eqb (LOp.not rfl rfl) rfl) ?_
           refine zl (r := b false) (LOp.pick_false rfl rfl rfl) ?_
           refine zm (r := b false) ?_
           refine zl (r := b true) (LOp.eqb (LOp.move rfl rfl) hc19) ?_
           refine zl (r := b false) (LOp.eqb (LOp.not rfl rfl) rfl) ?_
           refine zl (r := b false) (LOp.pick_false rfl rfl rfl) ?_
           refine zm (r := b false) ?_
           refine zl (r := b true) (LOp.eqb (LOp.move rfl rfl) hc20) ?_
           refine zl (r := b false) (LOp.eqb (LOp.not rfl rfl) rfl) ?_
           refine zl (r := b false) (LOp.pick_false rfl rfl rfl) ?_
           refine zm (r := b false) ?_
           refine zm (r := f32 r5) ?_
           refine zm (r := f32 r2) ?_
           refine ROps.d (r := b true) (fs := []) (Γ' := []) rfl rfl rfl (TOp.eqb (TOp.callB (CallAs.func ent10 rfl rfl) (Bors.cons (Bor.pure rfl) (Bors.cons (Bor.pure rfl) Bors.nil)) rfl rfl (s_SameNumber_ok r5 r2 r22 hf21)) hc22) rfl ?_
           refine zl (r := b false) (LOp.eqb (LOp.not rfl rfl) rfl) ?_
           refine zl (r := b false) (LOp.pick_false rfl rfl rfl) ?_
           refine zm (r := b false) ?_
           refine zm (r := f32 r7) ?_
           refine ROps.d (r := b false) (fs := []) (Γ' := []) rfl rfl rfl (TOp.eqb (TOp.callB (CallAs.func ent33 rfl rfl) (Bors.cons (Bor.pure rfl) Bors.nil) rfl rfl (i_IsSubnormal_ok r7 r23 hf23)) hc24) rfl ?_
           refine zl (r := b false) (LOp.pick_false rfl rfl rfl) ?_
           refine zm (r := b false) ?_
           refine zm (r := f32 r2) ?_
           refine ROps.d (r := b r24) (fs := []) (Γ' := []) rfl rfl rfl (TOp.callB (CallAs.func ent33 rfl rfl) (Bors.cons (Bor.pure rfl) Bors.nil) rfl rfl (i_IsSubnormal_ok r2 r24 hf25)) rfl ?_
           refine zm (r := f32 r2) ?_
           refine zm (r := f32 r7) ?_
           refine ROps.d (r := b r25) (fs := []) (Γ' := []) rfl rfl rfl (TOp.callB (CallAs.func ent10 rfl rfl) (Bors.cons (Bor.pure rfl) (Bors.cons (Bor.pure rfl) Bors.nil)) rfl rfl (s_SameNumber_ok r2 r7 r25 hf26)) rfl ?_
           refine zl (r := b true) (LOp.eqb (LOp.eqlb pun4 rfl rfl rfl) hc27) ?_
           refine zl (r := b true) (LOp.pick_false rfl rfl rfl) ?_
           refine zm (r := b true) ?_
           iterate 4 (refine ROps.s rfl rfl rfl ?_)
           refine zl (r := b true) (LOp.pick_true rfl rfl rfl) ?_
           refine zm (r := b true) ?_
           iterate 5 (refine ROps.s rfl rfl rfl ?_)
           refine zl (r := b true) (LOp.pick_true rfl rfl rfl) ?_
           refine zN ?_
           exact .inl ⟨(Le.of ⟨aR, aR, aR, aR, aR, trivial⟩ trivial), h⟩
          ·obtain ⟨r26, hf28, h⟩ := obind_some h
           rcases bsel_some h with ⟨hc29, h⟩ | ⟨hc29, h⟩
           ·rcases bsel_some h with ⟨hc30, h⟩ | ⟨hc30, h⟩
            ·refine RunC.regionW ?_
             refine zl (r := b true) (LOp.eqb (LOp.move rfl rfl) hc17) ?_
             refine zl (r := b false) (LOp.eqb (LOp.not rfl rfl) rfl) ?_
             refine zm (r := b false) ?_
             refine zl (r := b true) (LOp.eqb (LOp.move rfl rfl) hc18) ?_
             refine zl (r := b false) (LOp.eqb (LOp.not rfl rfl) rfl) ?_
             refine zl (r := b false) (LOp.pick_false rfl rfl rfl) ?_
             refine zm (r := b false) ?_
             refine zl (r := b true) (LOp.eqb (LOp.move rfl rfl) hc19) ?_
             refine zl (r := b false) (LOp.eqb (LOp.not rfl rfl) rfl) ?_
             refine zl (r := b false) (LOp.pick_false rfl rfl rfl) ?_
             refine zm (r := b false) ?_
             refine zl (r := b true) (LOp.eqb (LOp.move rfl rfl) hc20) ?_
             refine zl (r := b false) (LOp.eqb (LOp.not rfl rfl) rfl) ?_
             refine zl (r := b false) (LOp.pick_false rfl rfl rfl) ?_
             refine zm (r := b false) ?_
             refine zm (r := f32 r5) ?_
             refine zm (r := f32 r2) ?_
             refine ROps.d (r := b true) (fs := []) (Γ' := []) rfl rfl rfl (TOp.eqb (TOp.callB (CallAs.func ent10 rfl rfl) (Bors.cons (Bor.pure rfl) (Bors.cons (Bor.pure rfl) Bors.nil)) rfl rfl (s_SameNumber_ok r5 r2 r22 hf21)) hc22) rfl ?_
             refine zl (r := b false) (LOp.eqb (LOp.not rfl rfl) rfl) ?_
             refine zl (r := b false) (LOp.pick_false rfl rfl rfl) ?_
             refine zm (r := b false) ?_
             refine zm (r := f32 r7) ?_
             refine ROps.d (r := b false) (fs := []) (Γ' := []) rfl rfl rfl (TOp.eqb (TOp.callB (CallAs.func ent33 rfl rfl) (Bors.cons (Bor.pure rfl) Bors.nil) rfl rfl (i_IsSubnormal_ok r7 r23 hf23)) hc24) rfl ?_
             refine zl (r := b false) (LOp.pick_false rfl rfl rfl) ?_
             refine zm (r := b false) ?_
             refine zm (r := f32 r2) ?_
             refine ROps.d (r := b r24) (fs := []) (Γ' := []) rfl rfl rfl (TOp.callB (CallAs.func ent33 rfl rfl) (Bors.cons (Bor.pure rfl) Bors.nil) rfl rfl (i_IsSubnormal_ok r2 r24 hf25)) rfl ?_
             refine zm (r := f32 r2) ?_
             refine zm (r := f32 r7) ?_
             refine ROps.d (r := b r25) (fs := []) (Γ' := []) rfl rfl rfl (TOp.callB (CallAs.func ent10 rfl rfl) (Bors.cons (Bor.pure rfl) (Bors.cons (Bor.pure rfl) Bors.nil)) rfl rfl (s_SameNumber_ok r2 r7 r25 hf26)) rfl ?_
             refine zl (r := b false) (LOp.eqb (LOp.eqlb pun4 rfl rfl rfl) hc27) ?_
             refine zl (r := b false) (LOp.pick_false rfl rfl rfl) ?_
             refine zm (r := b false) ?_
             refine zm (r := f32 r16) ?_
             refine zm (r := f32 y15) ?_
             refine ROps.d (r := b true) (fs := []) (Γ' := []) rfl rfl rfl (TOp.eqb (TOp.callB (CallAs.func ent10 rfl rfl) (Bors.cons (Bor.pure rfl) (Bors.cons (Bor.pure rfl) Bors.nil)) rfl rfl (s_SameNumber_ok r16 y15 r26 hf28)) hc29) rfl ?_
             refine zl (r := b false) (LOp.eqb (LOp.not rfl rfl) rfl) ?_
             refine zl (r := b false) (LOp.pick_false rfl rfl rfl) ?_
             refine zm (r := b false) ?_
             refine zm (r := (sFc r21)) ?_
             refine zl (r := i64 (r21.length : Int)) (LOp.len_sl und52 rfl rfl) ?_
             refine zm (r := (sFc r9)) ?_
             refine zl (r := i64 (r9.length : Int)) (LOp.len_sl und52 rfl rfl) ?_
             refine zl (r := b true) (LOp.eqb (LOp.neq rfl rfl rfl) hc30) ?_
             refine zl (r := b true) (LOp.pick_false rfl rfl rfl) ?_
             refine zN ?_
             exact .inl ⟨(Le.of ⟨aR, aR, aR, aR, aR, trivial⟩ trivial), h⟩
            ·refine RunC.regionW ?_
             refine zl (r := b true) (LOp.eqb (LOp.move rfl rfl) hc17) ?_
             refine zl (r := b false) (LOp.eqb (LOp.not rfl rfl) rfl) ?_
             refine zm (r := b false) ?_
             refine zl (r := b true) (LOp.eqb (LOp.move rfl rfl) hc18) ?_
             refine zl (r := b false) (LOp.eqb (LOp.not rfl rfl) rfl) ?_
             refine zl (r := b false) (LOp.pick_false rfl rfl rfl) ?_
             refine zm (r := b false) ?_
             refine zl (r := b true) (LOp.eqb (LOp.move rfl rfl) hc19) ?_
             refine zl (r := b false) (LOp.eqb (LOp.not rfl rfl) rfl) ?_
             refine zl (r := b false) (LOp.pick_false rfl rfl rfl) ?_
             refine zm (r := b false) ?_
             refine zl (r := b true) (LOp.eqb (LOp.move rfl rfl) hc20) ?_
             refine zl (r := b false) (LOp.eqb (LOp.not rfl rfl) rfl) ?_
             refine zl (r := b false) (LOp.pick_false rfl rfl rfl) ?_
             refine zm (r := b false) ?_
             refine zm (r := f32 r5) ?_
             refine zm (r := f32 r2) ?_
             refine ROps.d (r := b true) (fs := []) (Γ' := []) rfl rfl rfl (TOp.eqb (TOp.callB (CallAs.func ent10 rfl rfl) (Bors.cons (Bor.pure rfl) (Bors.cons (Bor.pure rfl) Bors.nil)) rfl rfl (s_SameNumber_ok r5 r2 r22 hf21)) hc22) rfl ?_
             refine zl (r := b false) (LOp.eqb (LOp.not rfl rfl) rfl) ?_
             refine zl (r := b false) (LOp.pick_false rfl rfl rfl) ?_
             refine zm (r := b false) ?_
             refine zm (r := f32 r7) ?_
             refine ROps.d (r := b false) (fs := []) (Γ' := []) rfl rfl rfl (TOp.eqb (TOp.callB (CallAs.func ent33 rfl rfl) (Bors.cons (Bor.pure rfl) Bors.nil) rfl rfl (i_IsSubnormal_ok r7 r23 hf23)) hc24) rfl ?_
             refine zl (r := b false) (LOp.pick_false rfl rfl rfl) ?_
             refine zm (r := b false) ?_
             refine zm (r := f32 r2) ?_
             refine ROps.d (r := b r24) (fs := []) (Γ' := []) rfl rfl rfl (TOp.callB (CallAs.func ent33 rfl rfl) (Bors.cons (Bor.pure rfl) Bors.nil) rfl rfl (i_IsSubnormal_ok r2 r24 hf25)) rfl ?_
             refine zm (r := f32 r2) ?_
             refine zm (r := f32 r7) ?_
             refine ROps.d (r := b r25) (fs := []) (Γ' := []) rfl rfl rfl (TOp.callB (CallAs.func ent10 rfl rfl) (Bors.cons (Bor.pure rfl) (Bors.cons (Bor.pure rfl) Bors.nil)) rfl rfl (s_SameNumber_ok r2 r7 r25 hf26)) rfl ?_
             refine zl (r := b false) (LOp.eqb (LOp.eqlb pun4 rfl rfl rfl) hc27) ?_
             refine zl (r := b false) (LOp.pick_false rfl rfl rfl) ?_
             refine zm (r := b false) ?_
             refine zm (r := f32 r16) ?_
             refine zm (r := f32 y15) ?_
             refine ROps.d (r := b true) (fs := []) (Γ' := []) rfl rfl rfl (TOp.eqb (TOp.callB (CallAs.func ent10 rfl rfl) (Bors.cons (Bor.pure rfl) (Bors.cons (Bor.pure rfl) Bors.nil)) rfl rfl (s_SameNumber_ok r16 y15 r26 hf28)) hc29) rfl ?_
             refine zl (r := b false) (LOp.eqb (LOp.not rfl rfl) rfl) ?_
             refine zl (r := b false) (LOp.pick_false rfl rfl rfl) ?_
             refine zm (r := b false) ?_
             refine zm (r := (sFc r21)) ?_
             refine zl (r := i64 (r21.length : Int)) (LOp.len_sl und52 rfl rfl) ?_
             refine zm (r := (sFc r9)) ?_
             refine zl (r := i64 (r9.length : Int)) (LOp.len_sl und52 rfl rfl) ?_
             refine zl (r := b false) (LOp.eqb (LOp.neq rfl rfl rfl) hc30) ?_
             refine zl (r := b false) (LOp.pick_false rfl rfl rfl) ?_
             refine zN ?_
             exact .inr (⟨(Le.of ⟨aR, aR, aR, aR, aR, trivial⟩ trivial), h⟩)
           ·refine RunC.regionW ?_
            refine zl (r := b true) (LOp.eqb (LOp.move rfl rfl) hc17) ?_
            refine zl (r := b false) (LOp.eqb (LOp.not rfl rfl) rfl) ?_
            refine zm (r := b false) ?_
            refine zl (r := b true) (LOp.eqb (LOp.move rfl rfl) hc18) ?_
            refine zl (r := b false) (LOp.eqb (LOp.not rfl rfl) rfl) ?_
            refine zl (r := b false) (LOp.pick_false rfl rfl rfl) ?_
            refine zm (r := b false) ?_
            refine zl (r := b true) (LOp.eqb (LOp.move rfl rfl) hc19) ?_
            refine zl (r := b false) (LOp.eqb (LOp.not rfl rfl) rfl) ?_
            refine zl (r := b false) (LOp.pick_false rfl rfl rfl) ?_
            refine zm (r := b false) ?_
            refine zl (r := b true) (LOp.eqb (LOp.move rfl rfl) hc20) ?_
            refine zl (r := b false) (LOp.eqb (LOp.not rfl rfl) rfl) ?_
            refine zl (r := b false) (LOp.pick_false rfl rfl rfl) ?_
            refine zm (r := b false) ?_
            refine zm (r := f32 r5) ?_
            refine zm (r := f32 r2) ?_
            refine ROps.d (r := b true) (fs := []) (Γ' := []) rfl rfl rfl (TOp.eqb (TOp.callB (CallAs.func ent10 rfl rfl) (Bors.cons (Bor.pure rfl) (Bors.cons (Bor.pure rfl) Bors.nil)) rfl rfl (s_SameNumber_ok r5 r2 r22 hf21)) hc22) rfl ?_
            refine zl (r := b false) (LOp.eqb (LOp.not rfl rfl) rfl) ?_
            refine zl (r := b false) (LOp.pick_false rfl rfl rfl) ?_
            refine zm (r := b false) ?_
            refine zm (r := f32 r7) ?_
            refine ROps.d (r := b false) (fs := []) (Γ' := []) rfl rfl rfl (TOp.eqb (TOp.callB (CallAs.func ent33 rfl rfl) (Bors.cons (Bor.pure rfl) Bors.nil) rfl rfl (i_IsSubnormal_ok r7 r23 hf23)) hc24) rfl ?_
            refine zl (r := b false) (LOp.pick_false rfl rfl rfl) ?_
            refine zm (r := b false) ?_
            refine zm (r := f32 r2) ?_
            refine ROps.d (r := b r24) (fs := []) (Γ' := []) rfl rfl rfl (TOp.callB (CallAs.func ent33 rfl rfl) (Bors.cons (Bor.pure rfl) Bors.nil) rfl rfl (i_IsSubnormal_ok r2 r24 hf25)) rfl ?_
            refine zm (r := f32 r2) ?_
            refine zm (r := f32 r7) ?_
            refine ROps.d (r := b r25) (fs := []) (Γ' := []) rfl rfl rfl (TOp.callB (CallAs.func ent10 rfl rfl) (Bors.cons (Bor.pure rfl) (Bors.cons (Bor.pure rfl) Bors.nil)) rfl rfl (s_SameNumber_ok r2 r7 r25 hf26)) rfl ?_
            refine zl (r := b false) (LOp.eqb (LOp.eqlb pun4 rfl rfl rfl) hc27) ?_
            refine zl (r := b false) (LOp.pick_false rfl rfl rfl) ?_
            refine zm (r := b false) ?_
            refine zm (r := f32 r16) ?_
            refine zm (r := f32 y15) ?_
            refine ROps.d (r := b false) (fs := []) (Γ' := []) rfl rfl rfl (TOp.eqb (TOp.callB (CallAs.func ent10 rfl rfl) (Bors.cons (Bor.pure rfl) (Bors.cons (Bor.pure rfl) Bors.nil)) rfl rfl (s_SameNumber_ok r16 y15 r26 hf28)) hc29) rfl ?_
            refine zl (r := b true) (LOp.eqb (LOp.not rfl rfl) rfl) ?_
            refine zl (r := b true) (LOp.pick_false rfl rfl rfl) ?_
            refine zm (r := b true) ?_
            iterate 5 (refine ROps.s rfl rfl rfl ?_)
            refine zl (r := b true) (LOp.pick_true rfl rfl rfl) ?_
            refine zN ?_
            exact .inl ⟨(Le.of ⟨aR, aR, aR, aR, aR, trivial⟩ trivial), h⟩
        ·refine RunC.regionW ?_
         refine zl (r := b true) (LOp.eqb (LOp.move rfl rfl) hc17) ?_
         refine zl (r := b false) (LOp.eqb (LOp.not rfl rfl) rfl) ?_
         refine zm (r := b false) ?_
         refine zl (r := b true) (LOp.eqb (LOp.move rfl rfl) hc18) ?_
         refine zl (r := b false) (LOp.eqb (LOp.not rfl rfl) rfl) ?_
         refine zl (r := b false) (LOp.pick_false rfl rfl rfl) ?_
         refine zm (r := b false) ?_
         refine zl (r := b true) (LOp.eqb (LOp.move rfl rfl) hc19) ?_
         refine zl (r := b false) (LOp.eqb (LOp.not rfl rfl) rfl) ?_
         refine zl (r := b false) (LOp.pick_false rfl rfl rfl) ?_
         refine zm (r := b false) ?_
         refine zl (r := b true) (LOp.eqb (LOp.move rfl rfl) hc20) ?_
         refine zl (r := b false) (LOp.eqb (LOp.not rfl rfl) rfl) ?_
         refine zl (r := b false) (LOp.pick_false rfl rfl rfl) ?_
         refine zm (r := b false) ?_
         refine zm (r := f32 r5) ?_
         refine zm (r := f32 r2) ?_
         refine ROps.d (r := b false) (fs := []) (Γ' := []) rfl rfl rfl (TOp.eqb (TOp.callB (CallAs.func ent10 rfl rfl) (Bors.cons (Bor.pure rfl) (Bors.cons (Bor.pure rfl) Bors.nil)) rfl rfl (s_SameNumber_ok r5 r2 r22 hf21)) hc22) rfl ?_
         refine zl (r := b true) (LOp.eqb (LOp.not rfl rfl) rfl) ?_
         refine zl (r := b true) (LOp.pick_false rfl rfl rfl) ?_
         refine zm (r := b true) ?_
         iterate 2 (refine ROps.s rfl rfl rfl ?_; refine ROps.s rfl rfl rfl ?_; refine zl (r := b true) (LOp.pick_true rfl rfl rfl) ?_; refine zm (r := b true) ?_; refine ROps.s rfl rfl rfl ?_; refine ROps.s rfl rfl rfl ?_; refine ROps.s rfl rfl rfl ?_; refine ROps.s rfl rfl rfl ?_)
         refine zl (r := b true) (LOp.pick_true rfl rfl rfl) ?_
         refine zm (r := b true) ?_
         iterate 5 (refine ROps.s rfl rfl rfl ?_)
         refine zl (r := b true) (LOp.pick_true rfl rfl rfl) ?_
         refine zN ?_
         exact .inl ⟨(Le.of ⟨aR, aR, aR, aR, aR, trivial⟩ trivial), h⟩
       ·refine RunC.regionW ?_
        refine zl (r := b true) (LOp.eqb (LOp.move rfl rfl) hc17) ?_
        refine zl (r := b false) (LOp.eqb (LOp.not rfl rfl) rfl) ?_
        refine zm (r := b false) ?_
        refine zl (r := b true) (LOp.eqb (LOp.move rfl rfl) hc18) ?_
        refine zl (r := b false) (LOp.eqb (LOp.not rfl rfl) rfl) ?_
        refine zl (r := b false) (LOp.pick_false rfl rfl rfl) ?_
        refine zm (r := b false) ?_
        refine zl (r := b true) (LOp.eqb (LOp.move rfl rfl) hc19) ?_
        refine zl (r := b false) (LOp.eqb (LOp.not rfl rfl) rfl) ?_
        refine zl (r := b false) (LOp.pick_false rfl rfl rfl) ?_
        refine zm (r := b false) ?_
        refine zl (r := b false) (LOp.eqb (LOp.move rfl rfl) hc20) ?_
        refine zl (r := b true) (LOp.eqb (LOp.not rfl rfl) rfl) ?_
        refine zl (r := b true) (LOp.pick_false rfl rfl rfl) ?_
        refine zm (r := b true) ?_
        iterate 4 (refine ROps.s rfl rfl rfl ?_)
        iterate 2 (refine zl (r := b true) (LOp.pick_true rfl rfl rfl) ?_; refine zm (r := b true) ?_; refine ROps.s rfl rfl rfl ?_; refine ROps.s rfl rfl rfl ?_)
        iterate 2 (refine ROps.s rfl rfl rfl ?_; refine ROps.s rfl rfl rfl ?_; refine ROps.s rfl rfl rfl ?_; refine ROps.s rfl rfl rfl ?_; refine zl (r := b true) (LOp.pick_true rfl rfl rfl) ?_; refine zm (r := b true) ?_)
        iterate 5 (refine ROps.s rfl rfl rfl ?_)
        refine zl (r := b true) (LOp.pick_true rfl rfl rfl) ?_
        refine zN ?_
        exact .inl ⟨(Le.of ⟨aR, aR, aR, aR, aR, trivial⟩ trivial), h⟩
      ·refine RunC.regionW ?_
       refine zl (r := b true) (LOp.eqb (LOp.move rfl rfl) hc17) ?_
       refine zl (r := b false) (LOp.eqb (LOp.not rfl rfl) rfl) ?_
       refine zm (r := b false) ?_
       refine zl (r := b true) (LOp.eqb (LOp.move rfl rfl) hc18) ?_
       refine zl (r := b false) (LOp.eqb (LOp.not rfl rfl) rfl) ?_
       refine zl (r := b false) (LOp.pick_false rfl rfl rfl) ?_
       refine zm (r := b false) ?_
       refine zl (r := b false) (LOp.eqb (LOp.move rfl rfl) hc19) ?_
       refine zl (r := b true) (LOp.eqb (LOp.not rfl rfl) rfl) ?_
       refine zl (r := b true) (LOp.pick_false rfl rfl rfl) ?_
       refine zm (r := b true) ?_
       iterate 2 (refine ROps.s rfl rfl rfl ?_; refine ROps.s rfl rfl rfl ?_; refine zl (r := b true) (LOp.pick_true rfl rfl rfl) ?_; refine zm (r := b true) ?_; refine ROps.s rfl rfl rfl ?_; refine ROps.s rfl rfl rfl ?_)
       refine zl (r := b true) (LOp.pick_true rfl rfl rfl) ?_
       refine zm (r := b true) ?_
       iterate 6 (refine ROps.s rfl rfl rfl ?_)
       iterate 2 (refine zl (r := b true) (LOp.pick_true rfl rfl rfl) ?_; refine zm (r := b true) ?_; refine ROps.s rfl rfl rfl ?_; refine ROps.s rfl rfl rfl ?_; refine ROps.s rfl rfl rfl ?_; refine ROps.s rfl rfl rfl ?_)
       refine ROps.s rfl rfl rfl ?_
       refine zl (r := b true) (LOp.pick_true rfl rfl rfl) ?_
       refine zN ?_
       exact .inl ⟨(Le.of ⟨aR, aR, aR, aR, aR, trivial⟩ trivial), h⟩
     ·refine RunC.regionW ?_
      refine zl (r := b true) (LOp.eqb (LOp.move rfl rfl) hc17) ?_
      refine zl (r := b false) (LOp.eqb (LOp.not rfl rfl) rfl) ?_
      refine zm (r := b false) ?_
      refine zl (r := b false) (LOp.eqb (LOp.move rfl rfl) hc18) ?_
      refine zl (r := b true) (LOp.eqb (LOp.not rfl rfl) rfl) ?_
      refine zl (r := b true) (LOp.pick_false rfl rfl rfl) ?_
      iterate 2 (refine zm (r := b true) ?_; refine ROps.s rfl rfl rfl ?_; refine ROps.s rfl rfl rfl ?_; refine zl (r := b true) (LOp.pick_true rfl rfl rfl) ?_)
      refine zm (r := b true) ?_
      iterate 4 (refine ROps.s rfl rfl rfl ?_)
      iterate 2 (refine zl (r := b true) (LOp.pick_true rfl rfl rfl) ?_; refine zm (r := b true) ?_; refine ROps.s rfl rfl rfl ?_; refine ROps.s rfl rfl rfl ?_)
      iterate 2 (refine ROps.s rfl rfl rfl ?_; refine ROps.s rfl rfl rfl ?_; refine ROps.s rfl rfl rfl ?_; refine ROps.s rfl rfl rfl ?_; refine zl (r := b true) (LOp.pick_true rfl rfl rfl) ?_; refine zm (r := b true) ?_)
      iterate 5 (refine ROps.s rfl rfl rfl ?_)
      refine zl (r := b true) (LOp.pick_true rfl rfl rfl) ?_
      refine zN ?_
      exact .inl ⟨(Le.of ⟨aR, aR, aR, aR, aR, trivial⟩ trivial), h⟩
    ·refine RunC.regionW ?_
     refine zl (r := b false) (LOp.eqb (LOp.move rfl rfl) hc17) ?_
     refine zl (r := b true) (LOp.eqb (LOp.not rfl rfl) rfl) ?_
     iterate 3 (refine zm (r := b true) ?_; refine ROps.s rfl rfl rfl ?_; refine ROps.s rfl rfl rfl ?_; refine zl (r := b true) (LOp.pick_true rfl rfl rfl) ?_)
     refine zm (r := b true) ?_
     iterate 4 (refine ROps.s rfl rfl rfl ?_)
     iterate 2 (refine zl (r := b true) (LOp.pick_true rfl rfl rfl) ?_; refine zm (r := b true) ?_; refine ROps.s rfl rfl rfl ?_; refine ROps.s rfl rfl rfl ?_)
     iterate 2 (refine ROps.s rfl rfl rfl ?_; refine ROps.s rfl rfl rfl ?_; refine ROps.s rfl rfl rfl ?_; refine ROps.s rfl rfl rfl ?_; refine zl (r := b true) (LOp.pick_true rfl rfl rfl) ?_; refine zm (r := b true) ?_)
     iterate 5 (refine ROps.s rfl rfl rfl ?_)
     refine zl (r := b true) (LOp.pick_true rfl rfl rfl) ?_
     refine zN ?_
     exact .inl ⟨(Le.of ⟨aR, aR, aR, aR, aR, trivial⟩ trivial), h⟩
   ·rintro τ13 Γ13 (⟨hw13, h⟩ | ⟨hw13, h⟩)
    ·refine RunC.le (τ' := [(5, f32 r2), (6, f32 r3), (10, (sFc r9)), (17, (sFc r21)), (110, b true)]) (Γ' := []) hw13 ?_
     unfold w_FnNumbers_k3 at h
     refine RunC.cond_true rfl rfl ?_
     refine zQ ?_
     refine za (r := b false) ?_
     refine zN ?_
     refine RunC.ret ?_
     have hq := Option.some.inj h
     subst q0
     exact bodyQ.pure (.inr rfl) rfl (Res.one rfl (RV.tmp rfl))
    ·refine RunC.le (τ' := [(5, f32 r2), (6, f32 r3), (10, (sFc r9)), (17, (sFc r21)), (110, b false)]) (Γ' := []) hw13 ?_
     unfold w_FnNumbers_k5 at h
     refine RunC.cond_false rfl rfl ?_
     refine RunC.skip ?_
     refine RunC.seq ?_
     refine zQ ?_
     refine zm (r := (sFc r9)) ?_
     refine zl (r := i64 (r9.length : Int)) (LOp.len_sl und52 rfl rfl) ?_
     refine zm (r := i64 0) ?_
     refine zN ?_
     obtain ⟨z14, hz_14, h⟩ := obind_some h
     refine RunC.cutN (fun τ Γ => Le 293 τ Γ [(5, f32 r2), (6, f32 r3)] [] ∧ z14 = .inl ()) ?_ ?_
     ·refine RunC.block (RunC.loop (RunL.loopM (x := z14) (w_FnNumbers_s6 r9 r21) (fun (s : Int) τ Γ => Le 293 τ Γ [(5, f32 r2), (6, f32 r3), (10, (sFc r9)), (17, (sFc r21)), (112, i64 (r9.length : Int)), (113, i64 s)] []) ?_ _ _ _ hz_14 (Le.of ⟨aR, aR, aR, aR, aR, aR, trivial⟩ trivial)))
      rintro v27 τ14 Γ14 y14_ hw14 h14_ ho14 hr14
      refine RunC.le (τ' := [(5, f32 r2), (6, f32 r3), (10, (sFc r9)), (17, (sFc r21)), (112, i64 (r9.length : Int)), (113, i64 v27)]) (Γ' := []) hw14 ?_
      replace h14_ : w_FnNumbers_b6 r9 r21 v27 = some y14_ := h14_
      unfold w_FnNumbers_b6 at h14_
      refine RunC.seq ?_
      rcases bsel_some h14_ with ⟨hc31, h14_⟩ | ⟨hc31, h14_⟩
      ·refine RunC.regionW ?_
       refine zl (r := b true) (LOp.eqb (LOp.lss rfl rfl rfl) hc31) ?_
       refine zN ?_
       refine RunC.seq ?_
       refine RunC.cond_true rfl rfl ?_
       refine RunC.skip ?_
       refine RunC.seq ?_
       refine RunC.block ?_
       refine zQ ?_
       refine zm (r := i64 v27) ?_
       refine za (r := i64 v27) ?_
       refine zN ?_
       refine RunC.seq ?_
       obtain ⟨e28, he32, h14_⟩ := obind_some h14_
       obtain ⟨e29, he33, h14_⟩ := obind_some h14_
       obtain ⟨r30, hf34, h14_⟩ := obind_some h14_
       rcases bsel_some h14_ with ⟨hc35, h14_⟩ | ⟨hc35, h14_⟩
       ·refine RunC.region_draw (Γ' := []) 10 mixed 
         (TR.l (r := (sFc r21)) rfl rfl (LOp.move rfl rfl) <|
         (TR.l (r := i64 v27) rfl rfl (LOp.move rfl rfl) <|
         (TR.l (r := ptr [f32 e28]) rfl rfl (LOp.le (LOp.ix (f := f32) und52 siz28 rfl rfl rfl rfl he32) ALe.ptr) <|
         (TR.l (r := f32 e28) rfl rfl (LOp.load1 agg28 rfl rfl) <|
         (TR.l (r := (sFc r9)) rfl rfl (LOp.move rfl rfl) <|
         (TR.l (r := i64 v27) rfl rfl (LOp.move rfl rfl) <|
         (TR.l (r := ptr [f32 e29]) rfl rfl (LOp.le (LOp.ix (f := f32) und52 siz28 rfl rfl rfl rfl he33) ALe.ptr) <|
         (TR.l (r := f32 e29) rfl rfl (LOp.load1 agg28 rfl rfl) <|
         (TR.d (r := b true) (fs := []) rfl rfl (TOp.eqb (TOp.callB (CallAs.func ent10 rfl rfl) (Bors.cons (Bor.pure rfl) (Bors.cons (Bor.pure rfl) Bors.nil)) rfl rfl (s_SameNumber_ok e28 e29 r30 hf34)) hc35) <|
         (TR.l (r := b false) rfl rfl (LOp.eqb (LOp.not rfl rfl) rfl) <|
         TR.nil)))))))))) rfl (by kernel_rfl) rfl fills_nil rfl ?_
        iterate 10 refine ROps.dropS ?_
        refine ROps.drop0 ?_
        refine zN ?_
        refine RunC.cond_false rfl rfl ?_
        refine RunC.skip ?_
        obtain ⟨x31, hx36, h14_⟩ := olet_some h14_
        refine RunC.regionW ?_
        refine zl (r := i64 x31) (LOp.eqr (LOp.add rfl rfl rfl) (congrArg (ik .i64) hx36)) ?_
        refine zm (r := i64 x31) ?_
        refine zN ?_
        cases Option.some.inj h14_
        exact ⟨_, rfl, (Le.of ⟨aR, aR, aR, aR, aR, aR, trivial⟩ trivial)⟩
       ·refine RunC.region_draw (Γ' := []) 10 mixed 
         (TR.l (r := (sFc r21)) rfl rfl (LOp.move rfl rfl) <|
         (TR.l (r := i64 v27) rfl rfl (LOp.move rfl rfl) <|
         (TR.l (r := ptr [f32 e28]) rfl rfl (LOp.le (LOp.ix (f := f32) und52 siz28 rfl rfl rfl rfl he32) ALe.ptr) <|
         (TR.l (r := f32 e28) rfl rfl (LOp.load1 agg28 rfl rfl) <|
         (TR.l (r := (sFc r9)) rfl rfl (LOp.move rfl rfl) <|
         (TR.l (r := i64 v27) rfl rfl (LOp.move rfl rfl) <|
         (TR.l (r := ptr [f32 e29]) rfl rfl (LOp.le (LOp.ix (f := f32) und52 siz28 rfl rfl rfl rfl he33) ALe.ptr) <|
         (TR.l (r := f32 e29) rfl rfl (LOp.load1 agg28 rfl rfl) <|
         (TR.d (r := b false) (fs := []) rfl rfl (TOp.eqb (TOp.callB (CallAs.func ent10 rfl rfl) (Bors.cons (Bor.pure rfl) (Bors.cons (Bor.pure rfl) Bors.nil)) rfl rfl (s_SameNumber_ok e28 e29 r30 hf34)) hc35) <|
         (TR.l (r := b true) rfl rfl (LOp.eqb (LOp.not rfl rfl) rfl) <|
         TR.nil)))))))))) rfl (by kernel_rfl) rfl fills_nil rfl ?_
        iterate 10 refine ROps.dropS ?_
        refine ROps.drop0 ?_
        refine zN ?_
        refine RunC.cond_true rfl rfl ?_
        refine zQ ?_
        refine za (r := b false) ?_
        refine zN ?_
        refine RunC.ret ?_
        cases Option.some.inj h14_
        have hx15_ := hr14 _ rfl
        subst hx15_
        have hq := Option.some.inj h
        subst q0
        exact bodyQ.pure (.inr rfl) rfl (Res.one rfl (RV.tmp rfl))
      ·refine RunC.regionW ?_
       refine zl (r := b false) (LOp.eqb (LOp.lss rfl rfl rfl) hc31) ?_
       refine zN ?_
       refine RunC.seq ?_
       refine RunC.cond_false rfl rfl ?_
       refine RunC.exit ?_
       cases Option.some.inj h14_
       have hx := ho14 _ rfl
       exact ⟨(Le.of ⟨aR, aR, trivial⟩ trivial), hx⟩
     ·rintro τ16 Γ16 ⟨hw16, rfl⟩
      refine RunC.le hw16 ?_
      replace h : w_FnNumbers_k6 r2 r3 = some q0 := h
      unfold w_FnNumbers_k6 at h
      refine RunC.seq ?_
      refine RunC.cutN (fun τ Γ => ( Le 293 τ Γ [(4, b false)] [] ∧ w_FnNumbers_k8 = some q0) ∨ (∃ (w39 : Bool), Le 293 τ Γ [(4, b w39)] [] ∧ w_FnNumbers_k10 w39 = some q0)) ?_ ?_
      ·obtain ⟨r32, hf37, h⟩ := obind_some h
       obtain ⟨r33, hf38, h⟩ := obind_some h
       obtain ⟨r34, hf39, h⟩ := obind_some h
       rcases bsel_some h with ⟨hc40, h⟩ | ⟨hc40, h⟩
       ·obtain ⟨x35, hx41, h⟩ := olet_some h
        obtain ⟨r36, hf42, h⟩ := obind_some h
        obtain ⟨r37, hf43, h⟩ := obind_some h
        rcases bsel_some h with ⟨hc44, h⟩ | ⟨hc44, h⟩
        ·obtain ⟨r38, hf45, h⟩ := obind_some h
         refine RunC.regionW ?_
         refine zm (r := f32 r3) ?_
         refine zm (r := f32 r2) ?_
         refine ROps.d (r := f32 r32) (fs := []) (Γ' := []) rfl rfl rfl (TOp.callB (CallAs.func ent34 rfl rfl) (Bors.cons (Bor.pure rfl) (Bors.cons (Bor.pure rfl) Bors.nil)) rfl rfl (i_AngleTurns_ok r3 r2 r32 hf37)) rfl ?_
         refine zm (r := f32 r2) ?_
         refine zm (r := f32 r3) ?_
         refine zl (r := cx .f32 r2 r3) (LOp.complex rfl (OpF.tmp rfl) (OpF.tmp rfl)) ?_
         refine ROps.d (r := f32 r33) (fs := []) (Γ' := []) rfl rfl rfl (TOp.callB (CallAs.func ent35 rfl rfl) (Bors.cons (Bor.pure rfl) Bors.nil) rfl rfl (i_AngleOf_ok r2 r3 r33 hf38)) rfl ?_
         refine ROps.d (r := b true) (fs := []) (Γ' := []) rfl rfl rfl (TOp.eqb (TOp.callB (CallAs.func ent10 rfl rfl) (Bors.cons (Bor.pure rfl) (Bors.cons (Bor.pure rfl) Bors.nil)) rfl rfl (s_SameNumber_ok r32 r33 r34 hf39)) hc40) rfl ?_
         refine zm (r := b true) ?_
         refine zm (r := f32 r2) ?_
         refine ROps.d (r := f64 x35) (fs := []) (Γ' := []) rfl rfl rfl (TOp.eqr (TOp.widen (src := 28) (dst := 46) ⟨_, pun28⟩ pun46 rfl (OpF.tmp rfl)) (congrArg (f .f64) hx41)) rfl ?_
         refine ROps.d (r := f32 r36) (fs := []) (Γ' := []) rfl rfl rfl (TOp.callB (CallAs.func ent36 rfl rfl) (Bors.cons (Bor.pure rfl) Bors.nil) rfl rfl (i_NarrowNumber_ok x35 r36 hf42)) rfl ?_
         refine zm (r := f32 r2) ?_
         refine ROps.d (r := b true) (fs := []) (Γ' := []) rfl rfl rfl (TOp.eqb (TOp.callB (CallAs.func ent10 rfl rfl) (Bors.cons (Bor.pure rfl) (Bors.cons (Bor.pure rfl) Bors.nil)) rfl rfl (s_SameNumber_ok r36 r2 r37 hf43)) hc44) rfl ?_
         refine zl (r := b true) (LOp.pick_true rfl rfl rfl) ?_
         refine zm (r := b true) ?_
         refine ROps.d (r := f32 r38) (fs := []) (Γ' := []) rfl rfl rfl (TOp.callB (CallAs.func ent37 rfl rfl) (Bors.cons (Bor.le (ALe.fl (by kernel_rfl) (by kernel_rfl)) (Bor.pure rfl)) Bors.nil) rfl rfl (i_SineTurns_ok (some 1048576000) r38 hf45)) rfl ?_
         refine zl (r := b (feq .f32 r38 (some 1065353216))) (LOp.feq rfl (OpF.tmp rfl) (OpF.const rfl (by kernel_rfl) (by kernel_rfl))) ?_
         refine zl (r := b (feq .f32 r38 (some 1065353216))) (LOp.pick_true rfl rfl rfl) ?_
         refine za (r := b (feq .f32 r38 (some 1065353216))) ?_
         refine zN ?_
         exact .inr (⟨(feq .f32 r38 (some 1065353216)), (Le.of ⟨aR, trivial⟩ trivial), h⟩)
        ·refine RunC.regionW ?_
         refine zm (r := f32 r3) ?_
         refine zm (r := f32 r2) ?_
         refine ROps.d (r := f32 r32) (fs := []) (Γ' := []) rfl rfl rfl (TOp.callB (CallAs.func ent34 rfl rfl) (Bors.cons (Bor.pure rfl) (Bors.cons (Bor.pure rfl) Bors.nil)) rfl rfl (i_AngleTurns_ok r3 r2 r32 hf37)) rfl ?_
         refine zm (r := f32 r2) ?_
         refine zm (r := f32 r3) ?_
         refine zl (r := cx .f32 r2 r3) (LOp.complex rfl (OpF.tmp rfl) (OpF.tmp rfl)) ?_
         refine ROps.d (r := f32 r33) (fs := []) (Γ' := []) rfl rfl rfl (TOp.callB (CallAs.func ent35 rfl rfl) (Bors.cons (Bor.pure rfl) Bors.nil) rfl rfl (i_AngleOf_ok r2 r3 r33 hf38)) rfl ?_
         refine ROps.d (r := b true) (fs := []) (Γ' := []) rfl rfl rfl (TOp.eqb (TOp.callB (CallAs.func ent10 rfl rfl) (Bors.cons (Bor.pure rfl) (Bors.cons (Bor.pure rfl) Bors.nil)) rfl rfl (s_SameNumber_ok r32 r33 r34 hf39)) hc40) rfl ?_
         refine zm (r := b true) ?_
         refine zm (r := f32 r2) ?_
         refine ROps.d (r := f64 x35) (fs := []) (Γ' := []) rfl rfl rfl (TOp.eqr (TOp.widen (src := 28) (dst := 46) ⟨_, pun28⟩ pun46 rfl (OpF.tmp rfl)) (congrArg (f .f64) hx41)) rfl ?_
         refine ROps.d (r := f32 r36) (fs := []) (Γ' := []) rfl rfl rfl (TOp.callB (CallAs.func ent36 rfl rfl) (Bors.cons (Bor.pure rfl) Bors.nil) rfl rfl (i_NarrowNumber_ok x35 r36 hf42)) rfl ?_
         refine zm (r := f32 r2) ?_
         refine ROps.d (r := b false) (fs := []) (Γ' := []) rfl rfl rfl (TOp.eqb (TOp.callB (CallAs.func ent10 rfl rfl) (Bors.cons (Bor.pure rfl) (Bors.cons (Bor.pure rfl) Bors.nil)) rfl rfl (s_SameNumber_ok r36 r2 r37 hf43)) hc44) rfl ?_
         refine zl (r := b false) (LOp.pick_true rfl rfl rfl) ?_
         refine zm (r := b false) ?_
         iterate 2 (refine ROps.s rfl rfl rfl ?_)
         refine zl (r := b false) (LOp.pick_false rfl rfl rfl) ?_
         refine za (r := b false) ?_
         refine zN ?_
         exact .inl ⟨(Le.of ⟨aR, trivial⟩ trivial), h⟩
       ·refine RunC.regionW ?_
        refine zm (r := f32 r3) ?_
        refine zm (r := f32 r2) ?_
        refine ROps.d (r := f32 r32) (fs := []) (Γ' := []) rfl rfl rfl (TOp.callB (CallAs.func ent34 rfl rfl) (Bors.cons (Bor.pure rfl) (Bors.cons (Bor.pure rfl) Bors.nil)) rfl rfl (i_AngleTurns_ok r3 r2 r32 hf37)) rfl ?_
        refine zm (r := f32 r2) ?_
        refine zm (r := f32 r3) ?_
        refine zl (r := cx .f32 r2 r3) (LOp.complex rfl (OpF.tmp rfl) (OpF.tmp rfl)) ?_
        refine ROps.d (r := f32 r33) (fs := []) (Γ' := []) rfl rfl rfl (TOp.callB (CallAs.func ent35 rfl rfl) (Bors.cons (Bor.pure rfl) Bors.nil) rfl rfl (i_AngleOf_ok r2 r3 r33 hf38)) rfl ?_
        refine ROps.d (r := b false) (fs := []) (Γ' := []) rfl rfl rfl (TOp.eqb (TOp.callB (CallAs.func ent10 rfl rfl) (Bors.cons (Bor.pure rfl) (Bors.cons (Bor.pure rfl) Bors.nil)) rfl rfl (s_SameNumber_ok r32 r33 r34 hf39)) hc40) rfl ?_
        refine zm (r := b false) ?_
        iterate 5 (refine ROps.s rfl rfl rfl ?_)
        refine zl (r := b false) (LOp.pick_false rfl rfl rfl) ?_
        refine zm (r := b false) ?_
        iterate 2 (refine ROps.s rfl rfl rfl ?_)
        refine zl (r := b false) (LOp.pick_false rfl rfl rfl) ?_
        refine za (r := b false) ?_
        refine zN ?_
        exact .inl ⟨(Le.of ⟨aR, trivial⟩ trivial), h⟩
      ·rintro τ17 Γ17 (⟨hw17, h⟩ | ⟨w39, hw17, h⟩)
       ·refine RunC.le (τ' := [(4, b false)]) (Γ' := []) hw17 ?_
        unfold w_FnNumbers_k8 at h
        refine RunC.ret ?_
        have hq := Option.some.inj h
        subst q0
        exact bodyQ.pure (.inr rfl) rfl (Res.one rfl (RV.tmp rfl))
       ·refine RunC.le (τ' := [(4, b w39)]) (Γ' := []) hw17 ?_
        unfold w_FnNumbers_k10 at h
        refine RunC.ret ?_
        have hq := Option.some.inj h
        subst q0
        exact bodyQ.pure (.inr rfl) rfl (Res.one rfl (RV.tmp rfl))
end Go.Proofs.YtcjbfpoaidjpaaaGreatDoor
