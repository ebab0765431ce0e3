/- Generated. -/
import Derived.Test.YtkdociaoknmgbaaG1
namespace Go.Proofs.Ytkdociaoknmgbaa
open Go Go.AM Go.AM.AV
set_option maxRecDepth 20000
set_option maxHeartbeats 4000000
set_option linter.unusedVariables false
set_option linter.unusedSimpArgs false
noncomputable def w_FnRoots_k2  : Option (Bool) :=
 some false
noncomputable def w_FnRoots_k6  : Option (Bool) :=
 some false
noncomputable def w_FnRoots_k10  : Option (Bool) :=
 some false
noncomputable def w_FnRoots_b17 (x3 : Int) (r35 : List F) (r36 : List F) (v42 : Int) (v45 : Int) (L46 : List F) (v48 : Int) : Option (LR ((List F) × Int) ((List F)) (Bool)) :=
 bsel (decide (v48 < x3)) (
  olet (IntKind.i64.wrap (v42 * x3)) fun (x49 : Int) =>
  olet (IntKind.i64.wrap (x49 + v45)) fun (x50 : Int) =>
  obind (at? L46 x50) fun (e51 : F) =>
  olet (IntKind.i64.wrap (v42 * x3)) fun (x52 : Int) =>
  olet (IntKind.i64.wrap (x52 + v48)) fun (x53 : Int) =>
  obind (at? r35 x53) fun (e54 : F) =>
  olet (fwiden e54) fun (x55 : F) =>
  obind (at? r36 v48) fun (e56 : F) =>
  olet (fwiden e56) fun (x57 : F) =>
  olet (fop .mul .f64 x55 x57) fun (x58 : F) =>
  olet (IntKind.i64.wrap (v45 * x3)) fun (x59 : Int) =>
  olet (IntKind.i64.wrap (x59 + v48)) fun (x60 : Int) =>
  obind (at? r35 x60) fun (e61 : F) =>
  olet (fwiden e61) fun (x62 : F) =>
  olet (fop .mul .f64 x58 x62) fun (x63 : F) =>
  olet (fop .add .f64 e51 x63) fun (x64 : F) =>
  obind (setAt? L46 x50 x64) fun (L65 : List F) =>
  olet (IntKind.i64.wrap (v48 + 1)) fun (x66 : Int) =>
  some (LR.next (L65, x66))) (
  some (LR.out L46))
noncomputable def w_FnRoots_s17 (x3 : Int) (r35 : List F) (r36 : List F) (v42 : Int) (v45 : Int) : ((List F) × Int) → Option (LR ((List F) × Int) ((List F)) (Bool)) := fun s => w_FnRoots_b17 x3 r35 r36 v42 v45 s.1 s.2
noncomputable def w_FnRoots_k17 (x3 : Int) (r6 : List F) (v42 : Int) (v45 : Int) (L67 : List F) : Option (LR ((List F) × Int) ((List F)) (Bool)) :=
 olet (IntKind.i64.wrap (v42 * x3)) fun (x69 : Int) =>
 olet (IntKind.i64.wrap (x69 + v45)) fun (x70 : Int) =>
 obind (at? L67 x70) fun (e71 : F) =>
 olet (IntKind.i64.wrap (v42 * x3)) fun (x72 : Int) =>
 olet (IntKind.i64.wrap (x72 + v45)) fun (x73 : Int) =>
 obind (at? r6 x73) fun (e74 : F) =>
 olet (fwiden e74) fun (x75 : F) =>
 obind (w_b10Gap e71 x75) fun (r76 : F) =>
 bsel (flt .f64 (some 4562254508917369340) r76) (
  some (LR.ret false)) (
  olet (IntKind.i64.wrap (v45 + 1)) fun (x77 : Int) =>
  some (LR.next (L67, x77)))
noncomputable def w_FnRoots_b18 (x3 : Int) (r6 : List F) (r35 : List F) (r36 : List F) (v42 : Int) (L43 : List F) (v45 : Int) : Option (LR ((List F) × Int) ((List F)) (Bool)) :=
 bsel (decide (v45 < x3)) (
  obind (loopM (w_FnRoots_s17 x3 r35 r36 v42 v45) (L43, 0)) fun z => osum z (fun e => w_FnRoots_k17 x3 r6 v42 v45 e) (fun r => some (LR.ret r))) (
  some (LR.out L43))
noncomputable def w_FnRoots_s18 (x3 : Int) (r6 : List F) (r35 : List F) (r36 : List F) (v42 : Int) : ((List F) × Int) → Option (LR ((List F) × Int) ((List F)) (Bool)) := fun s => w_FnRoots_b18 x3 r6 r35 r36 v42 s.1 s.2
noncomputable def w_FnRoots_k18 (v42 : Int) (L78 : List F) : Option (LR ((List F) × Int) (Unit) (Bool)) :=
 olet (IntKind.i64.wrap (v42 + 1)) fun (x80 : Int) =>
 some (LR.next (L78, x80))
noncomputable def w_FnRoots_b19 (x3 : Int) (r6 : List F) (r35 : List F) (r36 : List F) (L40 : List F) (v42 : Int) : Option (LR ((List F) × Int) (Unit) (Bool)) :=
 bsel (decide (v42 < x3)) (
  obind (loopM (w_FnRoots_s18 x3 r6 r35 r36 v42) (L40, 0)) fun z => osum z (fun e => w_FnRoots_k18 v42 e) (fun r => some (LR.ret r))) (
  some (LR.out ()))
noncomputable def w_FnRoots_s19 (x3 : Int) (r6 : List F) (r35 : List F) (r36 : List F) : ((List F) × Int) → Option (LR ((List F) × Int) (Unit) (Bool)) := fun s => w_FnRoots_b19 x3 r6 r35 r36 s.1 s.2
noncomputable def w_FnRoots_k21  : Option (Bool) :=
 some false
noncomputable def w_FnRoots_k23 (r88 : F) : Option (Bool) :=
 some (fle .f32 (some 1077936128) r88)
noncomputable def w_FnRoots_k19 (r4 : Int) (r5 : Int) (r6 : List F) : Option (Bool) :=
 need (apok 4 0 r6.length) <|
 obind (setAt? (([] : List F) ++ r6) 0 (some 3225419776)) fun (L81 : List F) =>
 obind4 (i_RootOfSquare r4 r5 L81) fun (r82 : Int) (r83 : Int) (r84 : Bool) (r85 : List F) =>
 obind5 (i_RootShifted r4 r5 L81 (some 1056964608)) fun (r86 : Int) (r87 : Int) (r88 : F) (r89 : Bool) (r90 : List F) =>
 bsel r84 (
  w_FnRoots_k21) (
  bsel r89 (
   w_FnRoots_k23 r88) (
   w_FnRoots_k21))
noncomputable def w_FnRoots_k12 (x3 : Int) (r4 : Int) (r5 : Int) (r6 : List F) (r35 : List F) (r36 : List F) : Option (Bool) :=
 olet (IntKind.i64.wrap (x3 * x3)) fun (x39 : Int) =>
 need (mkok 8 x39) <|
 obind (loopM (w_FnRoots_s19 x3 r6 r35 r36) ((List.replicate x39.toNat (some 0)), 0)) fun z => osum z (fun e => w_FnRoots_k19 r4 r5 r6) (fun r => some r)
noncomputable def w_FnRoots_k8 (x3 : Int) (r4 : Int) (r5 : Int) (r6 : List F) (r7 : List F) (r28 : List F) : Option (Bool) :=
 obind2 (s_TimesVector r4 r5 r6 r28) fun (r30 : Bool) (r31 : List F) =>
 obind5 (i_MiddleFactor r4 r5 r6) fun (r32 : Int) (r33 : Int) (r34 : Bool) (r35 : List F) (r36 : List F) =>
 bsel r30 (
  bsel r34 (
   obind (w_b10Far r31 r7 (some 4562254508917369340)) fun (r37 : Bool) =>
   bsel r37 (
    w_FnRoots_k10) (
    bsel (!decide ((r36.length : Int) = x3)) (
     w_FnRoots_k10) (
     obind (s_ValidMatrix r32 r33 r35) fun (r38 : Bool) =>
     bsel r38 (
      bsel (!decide (r32 = x3)) (
       w_FnRoots_k10) (
       bsel (!decide (r33 = x3)) (
        w_FnRoots_k10) (
        w_FnRoots_k12 x3 r4 r5 r6 r35 r36))) (
      w_FnRoots_k10)))) (
   w_FnRoots_k10)) (
  w_FnRoots_k10)
noncomputable def w_FnRoots_k4 (x3 : Int) (r4 : Int) (r5 : Int) (r6 : List F) (r7 : List F) (r8 : Int) (r9 : Int) (r11 : List F) : Option (Bool) :=
 obind4 (s_FlipMatrix r8 r9 r11) fun (r19 : Int) (r20 : Int) (r21 : Bool) (r22 : List F) =>
 obind4 (s_MulMatrices r8 r9 r11 r19 r20 r22) fun (r23 : Int) (r24 : Int) (r25 : Bool) (r26 : List F) =>
 obind2 (i_RootSolve r8 r9 r11 r7) fun (r27 : Bool) (r28 : List F) =>
 bsel r21 (
  bsel r25 (
   bsel r27 (
    obind (w_b10FarMatrix r23 r24 r26 r4 r5 r6 (some 4562254508917369340)) fun (r29 : Bool) =>
    bsel r29 (
     w_FnRoots_k6) (
     w_FnRoots_k8 x3 r4 r5 r6 r7 r28)) (
    w_FnRoots_k6)) (
   w_FnRoots_k6)) (
  w_FnRoots_k6)
noncomputable def w_FnRoots (a0 : List Int) (a1 : List Int) : Option (Bool) :=
 obind (w_b10Long a0 a1) fun (r1 : Bool) =>
 bsel r1 (
  some true) (
  obind (w_b10At a1 0 5) fun (r2 : Int) =>
  olet (IntKind.i64.wrap (1 + r2)) fun (x3 : Int) =>
  obind3 (s_B10Even a0 x3) fun (r4 : Int) (r5 : Int) (r6 : List F) =>
  obind (s_B10Vector a1 x3) fun (r7 : List F) =>
  obind4 (i_RootOfSquare r4 r5 r6) fun (r8 : Int) (r9 : Int) (r10 : Bool) (r11 : List F) =>
  obind5 (i_RootShifted r4 r5 r6 (some 1056964608)) fun (r12 : Int) (r13 : Int) (r14 : F) (r15 : Bool) (r16 : List F) =>
  bsel r10 (
   bsel r15 (
    bsel (!feq .f32 r14 (some 0)) (
     w_FnRoots_k2) (
     obind (s_SameMatrix r12 r13 r16 r8 r9 r11) fun (r17 : Bool) =>
     bsel r17 (
      obind (s_ValidMatrix r8 r9 r11) fun (r18 : Bool) =>
      bsel r18 (
       bsel (!decide (r8 = x3)) (
        w_FnRoots_k2) (
        bsel (!decide (r9 = x3)) (
         w_FnRoots_k2) (
         w_FnRoots_k4 x3 r4 r5 r6 r7 r8 r9 r11))) (
       w_FnRoots_k2)) (
      w_FnRoots_k2))) (
    w_FnRoots_k2)) (
   w_FnRoots_k2))
theorem w_FnRoots_ok (a0 : List Int) (a1 : List Int) (q0 : Bool) (h : w_FnRoots a0 a1 = some q0) : Ev Try.prog 6 [sl a0.length (a0.map (ik .u8)), sl a1.length (a1.map (ik .u8))] [] (b q0) [] := by
 refine Ev.start Try.func6 rfl rfl 4 (τ := [(0, sl a0.length (a0.map (ik .u8))), (1, sl a1.length (a1.map (ik .u8)))]) rfl (Γ' := [⟨0, none⟩, ⟨0, none⟩, ⟨0, none⟩, ⟨0, none⟩]) rfl (n := 547) rfl (g := 0) rfl (fun _ => rfl) ?_
 unfold w_FnRoots at h
 refine zQ ?_
 refine za (r := b false) ?_
 refine zN ?_
 iterate 2 (refine RunC.seq ?_)
 obtain ⟨r1, hf1, h⟩ := obind_some h
 rcases bsel_some h with ⟨hc2, h⟩ | ⟨hc2, h⟩
 ·refine RunC.regionW ?_
  refine zm (r := sl a0.length (a0.map (ik .u8))) ?_
  refine zm (r := sl a1.length (a1.map (ik .u8))) ?_
  refine ROps.d (r := b true) (fs := []) (Γ' := [⟨0, none⟩, ⟨0, none⟩, ⟨0, none⟩, ⟨0, none⟩]) rfl rfl rfl (TOp.eqb (TOp.callB (CallAs.func ent7 rfl rfl) (Bors.cons (Bor.sl (fun _ => rfl)) (Bors.cons (Bor.sl (fun _ => rfl)) Bors.nil)) rfl rfl (w_b10Long_ok a0 a1 r1 hf1)) hc2) rfl ?_
  refine zN ?_
  refine RunC.cond_true rfl rfl ?_
  refine zQ ?_
  refine za (r := b true) ?_
  refine zN ?_
  refine RunC.ret ?_
  have hq := Option.some.inj h
  subst q0
  exact bodyQ.pure (.inr rfl) rfl (Res.one rfl (RV.tmp rfl))
 ·refine RunC.regionW ?_
  refine zm (r := sl a0.length (a0.map (ik .u8))) ?_
  refine zm (r := sl a1.length (a1.map (ik .u8))) ?_
  refine ROps.d (r := b false) (fs := []) (Γ' := [⟨0, none⟩, ⟨0, none⟩, ⟨0, none⟩, ⟨0, none⟩]) rfl rfl rfl (TOp.eqb (TOp.callB (CallAs.func ent7 rfl rfl) (Bors.cons (Bor.sl (fun _ => rfl)) (Bors.cons (Bor.sl (fun _ => rfl)) Bors.nil)) rfl rfl (w_b10Long_ok a0 a1 r1 hf1)) hc2) rfl ?_
  refine zN ?_
  refine RunC.cond_false rfl rfl ?_
  refine RunC.skip ?_
  refine RunC.seq ?_
  obtain ⟨r2, hf3, h⟩ := obind_some h
  obtain ⟨x3, hx4, h⟩ := olet_some h
  refine RunC.regionW ?_
  refine zm (r := sl a1.length (a1.map (ik .u8))) ?_
  refine ROps.d (r := i64 r2) (fs := []) (Γ' := [⟨0, none⟩, ⟨0, none⟩, ⟨0, none⟩, ⟨0, none⟩]) rfl rfl rfl (TOp.callB (CallAs.func ent8 rfl rfl) (Bors.cons (Bor.sl (fun _ => rfl)) (Bors.cons (Bor.pure rfl) (Bors.cons (Bor.pure rfl) Bors.nil))) rfl rfl (w_b10At_ok a1 0 5 r2 hf3)) rfl ?_
  refine zl (r := i64 x3) (LOp.eqr (LOp.add rfl rfl rfl) (congrArg (ik .i64) hx4)) ?_
  refine za (r := i64 x3) ?_
  refine zN ?_
  refine RunC.seq ?_
  obtain ⟨r4, r5, r6, hf5, h⟩ := obind3_some h
  refine RunC.regionW ?_
  refine zm (r := sl a0.length (a0.map (ik .u8))) ?_
  refine zm (r := i64 x3) ?_
  refine ROps.d (r := agg (mXc r4 r5 r6)) (fs := []) (Γ' := [⟨0, none⟩, ⟨0, none⟩, ⟨0, none⟩, ⟨0, none⟩]) rfl rfl rfl (TOp.callS (CallAs.func ent43 rfl rfl) (ALes.cons aR (ALes.cons aR ALes.nil)) (lts_cons (lt_sl (fun _ => rfl)) (lts_cons rfl lts_nil)) (lt_agg (lts_cons rfl (lts_cons rfl (lts_cons (lt_sl (fun _ => rfl)) lts_nil)))) (s_B10Even_ok a0 x3 r4 r5 r6 hf5) (Bor.agg (Bors.cons (Bor.pure rfl) (Bors.cons (Bor.pure rfl) (Bors.cons (Bor.own (f := f32) (fun _ => rfl) rfl rfl) Bors.nil))))) rfl ?_
  refine ROps.d (r := optr 0 1 0) (fs := [(0, zMx)]) (Γ' := [⟨1, some zMx⟩, ⟨0, none⟩, ⟨0, none⟩, ⟨0, none⟩]) rfl rfl rfl (TOp.alloc_o (g := ⟨0, none⟩) 0 rfl zer33 zok33 rfl) rfl ?_
  refine ROps.store_le (r := agg (mXc r4 r5 r6)) (l' := (mXc r4 r5 r6)) (Γ' := [⟨1, some (mXc r4 r5 r6)⟩, ⟨0, none⟩, ⟨0, none⟩, ⟨0, none⟩]) rfl siz33 rfl rfl rfl aR rfl rfl rfl rfl (Nat.le_of_ble_eq_true rfl) rfl rfl ?_
  refine zN ?_
  refine RunC.seq ?_
  obtain ⟨r7, hf6, h⟩ := obind_some h
  refine RunC.regionW ?_
  refine zm (r := sl a1.length (a1.map (ik .u8))) ?_
  refine zm (r := i64 x3) ?_
  refine ROps.d (r := (sFc r7)) (fs := []) (Γ' := [⟨1, some (mXc r4 r5 r6)⟩, ⟨0, none⟩, ⟨0, none⟩, ⟨0, none⟩]) rfl rfl rfl (TOp.callS (CallAs.func ent18 rfl rfl) (ALes.cons aR (ALes.cons aR ALes.nil)) (lts_cons (lt_sl (fun _ => rfl)) (lts_cons rfl lts_nil)) (lt_sl (fun _ => rfl)) (s_B10Vector_ok a1 x3 r7 hf6) (Bor.own (f := f32) (fun _ => rfl) rfl rfl)) rfl ?_
  refine za (r := (sFc r7)) ?_
  refine zN ?_
  refine RunC.seq ?_
  obtain ⟨r8, r9, r10, r11, hf7, h⟩ := obind4_some h
  refine RunC.regionW ?_
  refine ROps.d (r := agg (mXc r4 r5 r6)) (fs := []) (Γ' := [⟨1, some (mXc r4 r5 r6)⟩, ⟨0, none⟩, ⟨0, none⟩, ⟨0, none⟩]) rfl rfl rfl (TOp.loadAgg_o rfl agg33 siz33 rfl rfl rfl rfl) rfl ?_
  refine ROps.d (r := tup [agg (mXc r8 r9 r11), b r10]) (fs := []) (Γ' := [⟨1, some (mXc r4 r5 r6)⟩, ⟨0, none⟩, ⟨0, none⟩, ⟨0, none⟩]) rfl rfl rfl (TOp.callS (CallAs.func ent44 rfl rfl) (ALes.cons aR ALes.nil) (lts_cons (lt_agg (lts_cons rfl (lts_cons rfl (lts_cons (lt_sl (fun _ => rfl)) lts_nil)))) lts_nil) (lt_tup (lts_cons (lt_agg (lts_cons rfl (lts_cons rfl (lts_cons (lt_sl (fun _ => rfl)) lts_nil)))) (lts_cons rfl lts_nil))) (i_RootOfSquare_ok r4 r5 r6 r8 r9 r10 r11 hf7) (Bor.tup (Bors.cons (Bor.agg (Bors.cons (Bor.pure rfl) (Bors.cons (Bor.pure rfl) (Bors.cons (Bor.own (f := f32) (fun _ => rfl) rfl rfl) Bors.nil)))) (Bors.cons (Bor.pure rfl) Bors.nil)))) rfl ?_
  refine zm (r := tup [agg (mXc r8 r9 r11), b r10]) ?_
  refine zl (r := agg (mXc r8 r9 r11)) (LOp.extract rfl rfl rfl) ?_
  refine zl (r := b r10) (LOp.extract rfl rfl rfl) ?_
  refine ROps.d (r := optr 1 1 0) (fs := [(1, zMx)]) (Γ' := [⟨1, some (mXc r4 r5 r6)⟩, ⟨1, some zMx⟩, ⟨0, none⟩, ⟨0, none⟩]) rfl rfl rfl (TOp.alloc_o (g := ⟨0, none⟩) 1 rfl zer33 zok33 rfl) rfl ?_
  refine ROps.store_le (r := agg (mXc r8 r9 r11)) (l' := (mXc r8 r9 r11)) (Γ' := [⟨1, some (mXc r4 r5 r6)⟩, ⟨1, some (mXc r8 r9 r11)⟩, ⟨0, none⟩, ⟨0, none⟩]) rfl siz33 rfl rfl rfl aR rfl rfl rfl rfl (Nat.le_of_ble_eq_true rfl) rfl rfl ?_
  refine za (r := b r10) ?_
  refine zN ?_
  refine RunC.seq ?_
  obtain ⟨r12, r13, r14, r15, r16, hf8, h⟩ := obind5_some h
  refine RunC.regionW ?_
  refine ROps.d (r := agg (mXc r4 r5 r6)) (fs := []) (Γ' := [⟨1, some (mXc r4 r5 r6)⟩, ⟨1, some (mXc r8 r9 r11)⟩, ⟨0, none⟩, ⟨0, none⟩]) rfl rfl rfl (TOp.loadAgg_o rfl agg33 siz33 rfl rfl rfl rfl) rfl ?_
  refine ROps.d (r := tup [agg (mXc r12 r13 r16), f32 r14, b r15]) (fs := []) (Γ' := [⟨1, some (mXc r4 r5 r6)⟩, ⟨1, some (mXc r8 r9 r11)⟩, ⟨0, none⟩, ⟨0, none⟩]) rfl rfl rfl (TOp.callS (CallAs.func ent45 rfl rfl) (ALes.cons aR (ALes.cons (ALe.fl (by kernel_rfl) (by kernel_rfl)) ALes.nil)) (lts_cons (lt_agg (lts_cons rfl (lts_cons rfl (lts_cons (lt_sl (fun _ => rfl)) lts_nil)))) (lts_cons rfl lts_nil)) (lt_tup (lts_cons (lt_agg (lts_cons rfl (lts_cons rfl (lts_cons (lt_sl (fun _ => rfl)) lts_nil)))) (lts_cons rfl (lts_cons rfl lts_nil)))) (i_RootShifted_ok r4 r5 r6 (some 1056964608) r12 r13 r14 r15 r16 hf8) (Bor.tup (Bors.cons (Bor.agg (Bors.cons (Bor.pure rfl) (Bors.cons (Bor.pure rfl) (Bors.cons (Bor.own (f := f32) (fun _ => rfl) rfl rfl) Bors.nil)))) (Bors.cons (Bor.pure rfl) (Bors.cons (Bor.pure rfl) Bors.nil))))) rfl ?_
  refine zm (r := tup [agg (mXc r12 r13 r16), f32 r14, b r15]) ?_
  refine zl (r := agg (mXc r12 r13 r16)) (LOp.extract rfl rfl rfl) ?_
  refine zl (r := f32 r14) (LOp.extract rfl rfl rfl) ?_
  refine zl (r := b r15) (LOp.extract rfl rfl rfl) ?_
  refine ROps.d (r := optr 2 1 0) (fs := [(2, zMx)]) (Γ' := [⟨1, some (mXc r4 r5 r6)⟩, ⟨1, some (mXc r8 r9 r11)⟩, ⟨1, some zMx⟩, ⟨0, none⟩]) rfl rfl rfl (TOp.alloc_o (g := ⟨0, none⟩) 2 rfl zer33 zok33 rfl) rfl ?_
  refine ROps.store_le (r := agg (mXc r12 r13 r16)) (l' := (mXc r12 r13 r16)) (Γ' := [⟨1, some (mXc r4 r5 r6)⟩, ⟨1, some (mXc r8 r9 r11)⟩, ⟨1, some (mXc r12 r13 r16)⟩, ⟨0, none⟩]) rfl siz33 rfl rfl rfl aR rfl rfl rfl rfl (Nat.le_of_ble_eq_true rfl) rfl rfl ?_
  refine za (r := f32 r14) ?_
  refine za (r := b r15) ?_
  refine zN ?_
  iterate 2 (refine RunC.seq ?_)
  refine RunC.cutN (fun τ Γ => ( Le 547 τ Γ [(5, i64 x3), (6, optr 0 1 0), (7, (sFc r7)), (8, optr 1 1 0), (89, b true)] [⟨1, some (mXc r4 r5 r6)⟩, ⟨1, some (mXc r8 r9 r11)⟩, ⟨1, none⟩, ⟨0, none⟩] ∧ w_FnRoots_k2 = some q0) ∨ ( Le 547 τ Γ [(5, i64 x3), (6, optr 0 1 0), (7, (sFc r7)), (8, optr 1 1 0), (89, b false)] [⟨1, some (mXc r4 r5 r6)⟩, ⟨1, some (mXc r8 r9 r11)⟩, ⟨1, none⟩, ⟨0, none⟩] ∧ w_FnRoots_k4 x3 r4 r5 r6 r7 r8 r9 r11 = some q0)) ?_ ?_
  ·rcases bsel_some h with ⟨hc9, h⟩ | ⟨hc9, h⟩
   ·rcases bsel_some h with ⟨hc10, h⟩ | ⟨hc10, h⟩
    ·rcases bsel_some h with ⟨hc11, h⟩ | ⟨hc11, h⟩
     ·refine RunC.regionW ?_
      refine zl (r := b true) (LOp.eqb (LOp.move rfl rfl) hc9) ?_
      refine zl (r := b false) (LOp.eqb (LOp.not rfl rfl) rfl) ?_
      refine zm (r := b false) ?_
      refine zl (r := b true) (LOp.eqb (LOp.move rfl rfl) hc10) ?_
      refine zl (r := b false) (LOp.eqb (LOp.not rfl rfl) rfl) ?_
      refine zl (r := b false) (LOp.pick_false rfl rfl rfl) ?_
      refine zm (r := b false) ?_
      refine zm (r := f32 r14) ?_
      refine zl (r := b true) (LOp.eqb (LOp.fne rfl (OpF.tmp rfl) (OpF.const rfl (by kernel_rfl) (by kernel_rfl))) hc11) ?_
      refine zl (r := b true) (LOp.pick_false rfl rfl rfl) ?_
      refine zm (r := b true) ?_
      iterate 4 (refine ROps.s rfl rfl rfl ?_)
      iterate 2 (refine zl (r := b true) (LOp.pick_true rfl rfl rfl) ?_; refine zm (r := b true) ?_; refine ROps.s rfl rfl rfl ?_; refine ROps.s rfl rfl rfl ?_; refine ROps.s rfl rfl rfl ?_)
      refine ROps.s rfl rfl rfl ?_
      refine zl (r := b true) (LOp.pick_true rfl rfl rfl) ?_
      refine zm (r := b true) ?_
      iterate 4 (refine ROps.s rfl rfl rfl ?_)
      refine zl (r := b true) (LOp.pick_true rfl rfl rfl) ?_
      refine zN ?_
      exact .inl ⟨(Le.of ⟨aR, aR, aR, aR, aR, trivial⟩ ⟨⟨rfl, .inr rfl⟩, ⟨rfl, .inr rfl⟩, ⟨rfl, .inl rfl⟩, ⟨rfl, .inr rfl⟩, trivial⟩), h⟩
     ·obtain ⟨r17, hf12, h⟩ := obind_some h
      rcases bsel_some h with ⟨hc13, h⟩ | ⟨hc13, h⟩
      ·obtain ⟨r18, hf14, h⟩ := obind_some h
       rcases bsel_some h with ⟨hc15, h⟩ | ⟨hc15, h⟩
       ·rcases bsel_some h with ⟨hc16, h⟩ | ⟨hc16, h⟩
        ·refine RunC.regionW ?_
         refine zl (r := b true) (LOp.eqb (LOp.move rfl rfl) hc9) ?_
         refine zl (r := b false) (LOp.eqb (LOp.not rfl rfl) rfl) ?_
         refine zm (r := b false) ?_
         refine zl (r := b true) (LOp.eqb (LOp.move rfl rfl) hc10) ?_
         refine zl (r := b false) (LOp.eqb (LOp.not rfl rfl) rfl) ?_
         refine zl (r := b false) (LOp.pick_false rfl rfl rfl) ?_
         refine zm (r := b false) ?_
         refine zm (r := f32 r14) ?_
         refine zl (r := b false) (LOp.eqb (LOp.fne rfl (OpF.tmp rfl) (OpF.const rfl (by kernel_rfl) (by kernel_rfl))) hc11) ?_
         refine zl (r := b false) (LOp.pick_false rfl rfl rfl) ?_
         refine zm (r := b false) ?_
         refine ROps.d (r := agg (mXc r12 r13 r16)) (fs := []) (Γ' := [⟨1, some (mXc r4 r5 r6)⟩, ⟨1, some (mXc r8 r9 r11)⟩, ⟨1, some (mXc r12 r13 r16)⟩, ⟨0, none⟩]) rfl rfl rfl (TOp.loadAgg_o rfl agg33 siz33 rfl rfl rfl rfl) rfl ?_
         refine ROps.d (r := agg (mXc r8 r9 r11)) (fs := []) (Γ' := [⟨1, some (mXc r4 r5 r6)⟩, ⟨1, some (mXc r8 r9 r11)⟩, ⟨1, some (mXc r12 r13 r16)⟩, ⟨0, none⟩]) rfl rfl rfl (TOp.loadAgg_o rfl agg33 siz33 rfl rfl rfl rfl) rfl ?_
         refine ROps.d (r := b true) (fs := []) (Γ' := [⟨1, some (mXc r4 r5 r6)⟩, ⟨1, some (mXc r8 r9 r11)⟩, ⟨1, some (mXc r12 r13 r16)⟩, ⟨0, none⟩]) rfl rfl rfl (TOp.eqb (TOp.callB (CallAs.func ent46 rfl rfl) (Bors.cons (Bor.agg (Bors.cons (Bor.pure rfl) (Bors.cons (Bor.pure rfl) (Bors.cons (Bor.sl (fun _ => rfl)) Bors.nil)))) (Bors.cons (Bor.agg (Bors.cons (Bor.pure rfl) (Bors.cons (Bor.pure rfl) (Bors.cons (Bor.sl (fun _ => rfl)) Bors.nil)))) Bors.nil)) rfl rfl (s_SameMatrix_ok r12 r13 r16 r8 r9 r11 r17 hf12)) hc13) rfl ?_
         refine zl (r := b false) (LOp.eqb (LOp.not rfl rfl) rfl) ?_
         refine zl (r := b false) (LOp.pick_false rfl rfl rfl) ?_
         refine zm (r := b false) ?_
         refine ROps.d (r := agg (mXc r8 r9 r11)) (fs := []) (Γ' := [⟨1, some (mXc r4 r5 r6)⟩, ⟨1, some (mXc r8 r9 r11)⟩, ⟨1, some (mXc r12 r13 r16)⟩, ⟨0, none⟩]) rfl rfl rfl (TOp.loadAgg_o rfl agg33 siz33 rfl rfl rfl rfl) rfl ?_
         refine ROps.d (r := b true) (fs := []) (Γ' := [⟨1, some (mXc r4 r5 r6)⟩, ⟨1, some (mXc r8 r9 r11)⟩, ⟨1, some (mXc r12 r13 r16)⟩, ⟨0, none⟩]) rfl rfl rfl (TOp.eqb (TOp.callB (CallAs.func ent47 rfl rfl) (Bors.cons (Bor.agg (Bors.cons (Bor.pure rfl) (Bors.cons (Bor.pure rfl) (Bors.cons (Bor.sl (fun _ => rfl)) Bors.nil)))) Bors.nil) rfl rfl (s_ValidMatrix_ok r8 r9 r11 r18 hf14)) hc15) rfl ?_
         refine zl (r := b false) (LOp.eqb (LOp.not rfl rfl) rfl) ?_
         refine zl (r := b false) (LOp.pick_false rfl rfl rfl) ?_
         refine zm (r := b false) ?_
         refine zl (r := optr 1 1 0) (LOp.fao und33 rfl siz2 rfl rfl rfl) ?_
         refine ROps.d (r := i64 r8) (fs := []) (Γ' := [⟨1, some (mXc r4 r5 r6)⟩, ⟨1, some (mXc r8 r9 r11)⟩, ⟨1, some (mXc r12 r13 r16)⟩, ⟨0, none⟩]) rfl rfl rfl (TOp.load1_o rfl rfl agg2 rfl rfl) rfl ?_
         refine zm (r := i64 x3) ?_
         refine zl (r := b true) (LOp.eqb (LOp.neq rfl rfl rfl) hc16) ?_
         refine zl (r := b true) (LOp.pick_false rfl rfl rfl) ?_
         refine zm (r := b true) ?_
         iterate 4 (refine ROps.s rfl rfl rfl ?_)
         refine zl (r := b true) (LOp.pick_true rfl rfl rfl) ?_
         refine zN ?_
         exact .inl ⟨(Le.of ⟨aR, aR, aR, aR, aR, trivial⟩ ⟨⟨rfl, .inr rfl⟩, ⟨rfl, .inr rfl⟩, ⟨rfl, .inl rfl⟩, ⟨rfl, .inr rfl⟩, trivial⟩), h⟩
        ·rcases bsel_some h with ⟨hc17, h⟩ | ⟨hc17, h⟩
         ·refine RunC.regionW ?_
          refine zl (r := b true) (LOp.eqb (LOp.move rfl rfl) hc9) ?_
          refine zl (r := b false) (LOp.eqb (LOp.not rfl rfl) rfl) ?_
          refine zm (r := b false) ?_
          refine zl (r := b true) (LOp.eqb (LOp.move rfl rfl) hc10) ?_
          refine zl (r := b false) (LOp.eqb (LOp.not rfl rfl) rfl) ?_
          refine zl (r := b false) (LOp.pick_false rfl rfl rfl) ?_
          refine zm (r := b false) ?_
          refine zm (r := f32 r14) ?_
          refine zl (r := b false) (LOp.eqb (LOp.fne rfl (OpF.tmp rfl) (OpF.const rfl (by kernel_rfl) (by kernel_rfl))) hc11) ?_
          refine zl (r := b false) (LOp.pick_false rfl rfl rfl) ?_
          refine zm (r := b false) ?_
          refine ROps.d (r := agg (mXc r12 r13 r16)) (fs := []) (Γ' := [⟨1, some (mXc r4 r5 r6)⟩, ⟨1, some (mXc r8 r9 r11)⟩, ⟨1, some (mXc r12 r13 r16)⟩, ⟨0, none⟩]) rfl rfl rfl (TOp.loadAgg_o rfl agg33 siz33 rfl rfl rfl rfl) rfl ?_
          refine ROps.d (r := agg (mXc r8 r9 r11)) (fs := []) (Γ' := [⟨1, some (mXc r4 r5 r6)⟩, ⟨1, some (mXc r8 r9 r11)⟩, ⟨1, some (mXc r12 r13 r16)⟩, ⟨0, none⟩]) rfl rfl rfl (TOp.loadAgg_o rfl agg33 siz33 rfl rfl rfl rfl) rfl ?_
          refine ROps.d (r := b true) (fs := []) (Γ' := [⟨1, some (mXc r4 r5 r6)⟩, ⟨1, some (mXc r8 r9 r11)⟩, ⟨1, some (mXc r12 r13 r16)⟩, ⟨0, none⟩]) rfl rfl rfl (TOp.eqb (TOp.callB (CallAs.func ent46 rfl rfl) (Bors.cons (Bor.agg (Bors.cons (Bor.pure rfl) (Bors.cons (Bor.pure rfl) (Bors.cons (Bor.sl (fun _ => rfl)) Bors.nil)))) (Bors.cons (Bor.agg (Bors.cons (Bor.pure rfl) (Bors.cons (Bor.pure rfl) (Bors.cons (Bor.sl (fun _ => rfl)) Bors.nil)))) Bors.nil)) rfl rfl (s_SameMatrix_ok r12 r13 r16 r8 r9 r11 r17 hf12)) hc13) rfl ?_
          refine zl (r := b false) (LOp.eqb (LOp.not rfl rfl) rfl) ?_
          refine zl (r := b false) (LOp.pick_false rfl rfl rfl) ?_
          refine zm (r := b false) ?_
          refine ROps.d (r := agg (mXc r8 r9 r11)) (fs := []) (Γ' := [⟨1, some (mXc r4 r5 r6)⟩, ⟨1, some (mXc r8 r9 r11)⟩, ⟨1, some (mXc r12 r13 r16)⟩, ⟨0, none⟩]) rfl rfl rfl (TOp.loadAgg_o rfl agg33 siz33 rfl rfl rfl rfl) rfl ?_
          refine ROps.d (r := b true) (fs := []) (Γ' := [⟨1, some (mXc r4 r5 r6)⟩, ⟨1, some (mXc r8 r9 r11)⟩, ⟨1, some (mXc r12 r13 r16)⟩, ⟨0, none⟩]) rfl rfl rfl (TOp.eqb (TOp.callB (CallAs.func ent47 rfl rfl) (Bors.cons (Bor.agg (Bors.cons (Bor.pure rfl) (Bors.cons (Bor.pure rfl) (Bors.cons (Bor.sl (fun _ => rfl)) Bors.nil)))) Bors.nil) rfl rfl (s_ValidMatrix_ok r8 r9 r11 r18 hf14)) hc15) rfl ?_
          refine zl (r := b false) (LOp.eqb (LOp.not rfl rfl) rfl) ?_
          refine zl (r := b false) (LOp.pick_false rfl rfl rfl) ?_
          refine zm (r := b false) ?_
          refine zl (r := optr 1 1 0) (LOp.fao und33 rfl siz2 rfl rfl rfl) ?_
          refine ROps.d (r := i64 r8) (fs := []) (Γ' := [⟨1, some (mXc r4 r5 r6)⟩, ⟨1, some (mXc r8 r9 r11)⟩, ⟨1, some (mXc r12 r13 r16)⟩, ⟨0, none⟩]) rfl rfl rfl (TOp.load1_o rfl rfl agg2 rfl rfl) rfl ?_
          refine zm (r := i64 x3) ?_
          refine zl (r := b false) (LOp.eqb (LOp.neq rfl rfl rfl) hc16) ?_
          refine zl (r := b false) (LOp.pick_false rfl rfl rfl) ?_
          refine zm (r := b false) ?_
          refine zl (r := optr 1 1 1) (LOp.fao und33 rfl siz2 rfl rfl rfl) ?_
          refine ROps.d (r := i64 r9) (fs := []) (Γ' := [⟨1, some (mXc r4 r5 r6)⟩, ⟨1, some (mXc r8 r9 r11)⟩, ⟨1, some (mXc r12 r13 r16)⟩, ⟨0, none⟩]) rfl rfl rfl (TOp.load1_o rfl rfl agg2 rfl rfl) rfl ?_
          refine zm (r := i64 x3) ?_
          refine zl (r := b true) (LOp.eqb (LOp.neq rfl rfl rfl) hc17) ?_
          refine zl (r := b true) (LOp.pick_false rfl rfl rfl) ?_
          refine zN ?_
          exact .inl ⟨(Le.of ⟨aR, aR, aR, aR, aR, trivial⟩ ⟨⟨rfl, .inr rfl⟩, ⟨rfl, .inr rfl⟩, ⟨rfl, .inl rfl⟩, ⟨rfl, .inr rfl⟩, trivial⟩), h⟩
         ·refine RunC.regionW ?_
          refine zl (r := b true) (LOp.eqb (LOp.move rfl rfl) hc9) ?_
          refine zl (r := b false) (LOp.eqb (LOp.not rfl rfl) rfl) ?_
          refine zm (r := b false) ?_
          refine zl (r := b true) (LOp.eqb (LOp.move rfl rfl) hc10) ?_
          refine zl (r := b false) (LOp.eqb (LOp.not rfl rfl) rfl) ?_
          refine zl (r := b false) (LOp.pick_false rfl rfl rfl) ?_
          refine zm (r := b false) ?_
          refine zm (r := f32 r14) ?_
          refine zl (r := b false) (LOp.eqb (LOp.fne rfl (OpF.tmp rfl) (OpF.const rfl (by kernel_rfl) (by kernel_rfl))) hc11) ?_
          refine zl (r := b false) (LOp.pick_false rfl rfl rfl) ?_
          refine zm (r := b false) ?_
          refine ROps.d (r := agg (mXc r12 r13 r16)) (fs := []) (Γ' := [⟨1, some (mXc r4 r5 r6)⟩, ⟨1, some (mXc r8 r9 r11)⟩, ⟨1, some (mXc r12 r13 r16)⟩, ⟨0, none⟩]) rfl rfl rfl (TOp.loadAgg_o rfl agg33 siz33 rfl rfl rfl rfl) rfl ?_
          refine ROps.d (r := agg (mXc r8 r9 r11)) (fs := []) (Γ' := [⟨1, some (mXc r4 r5 r6)⟩, ⟨1, some (mXc r8 r9 r11)⟩, ⟨1, some (mXc r12 r13 r16)⟩, ⟨0, none⟩]) rfl rfl rfl (TOp.loadAgg_o rfl agg33 siz33 rfl rfl rfl rfl) rfl ?_
          refine ROps.d (r := b true) (fs := []) (Γ' := [⟨1, some (mXc r4 r5 r6)⟩, ⟨1, some (mXc r8 r9 r11)⟩, ⟨1, some (mXc r12 r13 r16)⟩, ⟨0, none⟩]) rfl rfl rfl (TOp.eqb (TOp.callB (CallAs.func ent46 rfl rfl) (Bors.cons (Bor.agg (Bors.cons (Bor.pure rfl) (Bors.cons (Bor.pure rfl) (Bors.cons (Bor.sl (fun _ => rfl)) Bors.nil)))) (Bors.cons (Bor.agg (Bors.cons (Bor.pure rfl) (Bors.cons (Bor.pure rfl) (Bors.cons (Bor.sl (fun _ => rfl)) Bors.nil)))) Bors.nil)) rfl rfl (s_SameMatrix_ok r12 r13 r16 r8 r9 r11 r17 hf12)) hc13) rfl ?_
          refine zl (r := b false) (LOp.eqb (LOp.not rfl rfl) rfl) ?_
          refine zl (r := b false) (LOp.pick_false rfl rfl rfl) ?_
          refine zm (r := b false) ?_
          refine ROps.d (r := agg (mXc r8 r9 r11)) (fs := []) (Γ' := [⟨1, some (mXc r4 r5 r6)⟩, ⟨1, some (mXc r8 r9 r11)⟩, ⟨1, some (mXc r12 r13 r16)⟩, ⟨0, none⟩]) rfl rfl rfl (TOp.loadAgg_o rfl agg33 siz33 rfl rfl rfl rfl) rfl ?_
          refine ROps.d (r := b true) (fs := []) (Γ' := [⟨1, some (mXc r4 r5 r6)⟩, ⟨1, some (mXc r8 r9 r11)⟩, ⟨1, some (mXc r12 r13 r16)⟩, ⟨0, none⟩]) rfl rfl rfl (TOp.eqb (TOp.callB (CallAs.func ent47 rfl rfl) (Bors.cons (Bor.agg (Bors.cons (Bor.pure rfl) (Bors.cons (Bor.pure rfl) (Bors.cons (Bor.sl (fun _ => rfl)) Bors.nil)))) Bors.nil) rfl rfl (s_ValidMatrix_ok r8 r9 r11 r18 hf14)) hc15) rfl ?_
          refine zl (r := b false) (LOp.eqb (LOp.not rfl rfl) rfl) ?_
          refine zl (r := b false) (LOp.pick_false rfl rfl rfl) ?_
          refine zm (r := b false) ?_
          refine zl (r := optr 1 1 0) (LOp.fao und33 rfl siz2 rfl rfl rfl) ?_
          refine ROps.d (r := i64 r8) (fs := []) (Γ' := [⟨1, some (mXc r4 r5 r6)⟩, ⟨1, some (mXc r8 r9 r11)⟩, ⟨1, some (mXc r12 r13 r16)⟩, ⟨0, none⟩]) rfl rfl rfl (TOp.load1_o rfl rfl agg2 rfl rfl) rfl ?_
          refine zm (r := i64 x3) ?_
          refine zl (r := b false) (LOp.eqb (LOp.neq rfl rfl rfl) hc16) ?_
          refine zl (r := b false) (LOp.pick_false rfl rfl rfl) ?_
          refine zm (r := b false) ?_
          refine zl (r := optr 1 1 1) (LOp.fao und33 rfl siz2 rfl rfl rfl) ?_
          refine ROps.d (r := i64 r9) (fs := []) (Γ' := [⟨1, some (mXc r4 r5 r6)⟩, ⟨1, some (mXc r8 r9 r11)⟩, ⟨1, some (mXc r12 r13 r16)⟩, ⟨0, none⟩]) rfl rfl rfl (TOp.load1_o rfl rfl agg2 rfl rfl) rfl ?_
          refine zm (r := i64 x3) ?_
          refine zl (r := b false) (LOp.eqb (LOp.neq rfl rfl rfl) hc17) ?_
          refine zl (r := b false) (LOp.pick_false rfl rfl rfl) ?_
          refine zN ?_
          exact .inr (⟨(Le.of ⟨aR, aR, aR, aR, aR, trivial⟩ ⟨⟨rfl, .inr rfl⟩, ⟨rfl, .inr rfl⟩, ⟨rfl, .inl rfl⟩, ⟨rfl, .inr rfl⟩, trivial⟩), h⟩)
       ·refine RunC.regionW ?_
        refine zl (r := b true) (LOp.eqb (LOp.move rfl rfl) hc9) ?_
        refine zl (r := b false) (LOp.eqb (LOp.not rfl rfl) rfl) ?_
        refine zm (r := b false) ?_
        refine zl (r := b true) (LOp.eqb (LOp.move rfl rfl) hc10) ?_
        refine zl (r := b false) (LOp.eqb (LOp.not rfl rfl) rfl) ?_
        refine zl (r := b false) (LOp.pick_false rfl rfl rfl) ?_
        refine zm (r := b false) ?_
        refine zm (r := f32 r14) ?_
        refine zl (r := b false) (LOp.eqb (LOp.fne rfl (OpF.tmp rfl) (OpF.const rfl (by kernel_rfl) (by kernel_rfl))) hc11) ?_
        refine zl (r := b false) (LOp.pick_false rfl rfl rfl) ?_
        refine zm (r := b false) ?_
        refine ROps.d (r := agg (mXc r12 r13 r16)) (fs := []) (Γ' := [⟨1, some (mXc r4 r5 r6)⟩, ⟨1, some (mXc r8 r9 r11)⟩, ⟨1, some (mXc r12 r13 r16)⟩, ⟨0, none⟩]) rfl rfl rfl (TOp.loadAgg_o rfl agg33 siz33 rfl rfl rfl rfl) rfl ?_
        refine ROps.d (r := agg (mXc r8 r9 r11)) (fs := []) (Γ' := [⟨1, some (mXc r4 r5 r6)⟩, ⟨1, some (mXc r8 r9 r11)⟩, ⟨1, some (mXc r12 r13 r16)⟩, ⟨0, none⟩]) rfl rfl rfl (TOp.loadAgg_o rfl agg33 siz33 rfl rfl rfl rfl) rfl ?_
        refine ROps.d (r := b true) (fs := []) (Γ' := [⟨1, some (mXc r4 r5 r6)⟩, ⟨1, some (mXc r8 r9 r11)⟩, ⟨1, some (mXc r12 r13 r16)⟩, ⟨0, none⟩]) rfl rfl rfl (TOp.eqb (TOp.callB (CallAs.func ent46 rfl rfl) (Bors.cons (Bor.agg (Bors.cons (Bor.pure rfl) (Bors.cons (Bor.pure rfl) (Bors.cons (Bor.sl (fun _ => rfl)) Bors.nil)))) (Bors.cons (Bor.agg (Bors.cons (Bor.pure rfl) (Bors.cons (Bor.pure rfl) (Bors.cons (Bor.sl (fun _ => rfl)) Bors.nil)))) Bors.nil)) rfl rfl (s_SameMatrix_ok r12 r13 r16 r8 r9 r11 r17 hf12)) hc13) rfl ?_
        refine zl (r := b false) (LOp.eqb (LOp.not rfl rfl) rfl) ?_
        refine zl (r := b false) (LOp.pick_false rfl rfl rfl) ?_
        refine zm (r := b false) ?_
        refine ROps.d (r := agg (mXc r8 r9 r11)) (fs := []) (Γ' := [⟨1, some (mXc r4 r5 r6)⟩, ⟨1, some (mXc r8 r9 r11)⟩, ⟨1, some (mXc r12 r13 r16)⟩, ⟨0, none⟩]) rfl rfl rfl (TOp.loadAgg_o rfl agg33 siz33 rfl rfl rfl rfl) rfl ?_
        refine ROps.d (r := b false) (fs := []) (Γ' := [⟨1, some (mXc r4 r5 r6)⟩, ⟨1, some (mXc r8 r9 r11)⟩, ⟨1, some (mXc r12 r13 r16)⟩, ⟨0, none⟩]) rfl rfl rfl (TOp.eqb (TOp.callB (CallAs.func ent47 rfl rfl) (Bors.cons (Bor.agg (Bors.cons (Bor.pure rfl) (Bors.cons (Bor.pure rfl) (Bors.cons (Bor.sl (fun _ => rfl)) Bors.nil)))) Bors.nil) rfl rfl (s_ValidMatrix_ok r8 r9 r11 r18 hf14)) hc15) rfl ?_
        refine zl (r := b true) (LOp.eqb (LOp.not rfl rfl) rfl) ?_
        refine zl (r := b true) (LOp.pick_false rfl rfl rfl) ?_
        iterate 2 (refine zm (r := b true) ?_; refine ROps.s rfl rfl rfl ?_; refine ROps.s rfl rfl rfl ?_; refine ROps.s rfl rfl rfl ?_; refine ROps.s rfl rfl rfl ?_; refine zl (r := b true) (LOp.pick_true rfl rfl rfl) ?_)
        refine zN ?_
        exact .inl ⟨(Le.of ⟨aR, aR, aR, aR, aR, trivial⟩ ⟨⟨rfl, .inr rfl⟩, ⟨rfl, .inr rfl⟩, ⟨rfl, .inl rfl⟩, ⟨rfl, .inr rfl⟩, trivial⟩), h⟩
      ·refine RunC.regionW ?_
       refine zl (r := b true) (LOp.eqb (LOp.move rfl rfl) hc9) ?_
       refine zl (r := b false) (LOp.eqb (LOp.not rfl rfl) rfl) ?_
       refine zm (r := b false) ?_
       refine zl (r := b true) (LOp.eqb (LOp.move rfl rfl) hc10) ?_
       refine zl (r := b false) (LOp.eqb (LOp.not rfl rfl) rfl) ?_
       refine zl (r := b false) (LOp.pick_false rfl rfl rfl) ?_
       refine zm (r := b false) ?_
       refine zm (r := f32 r14) ?_
       refine zl (r := b false) (LOp.eqb (LOp.fne rfl (OpF.tmp rfl) (OpF.const rfl (by kernel_rfl) (by kernel_rfl))) hc11) ?_
       refine zl (r := b false) (LOp.pick_false rfl rfl rfl) ?_
       refine zm (r := b false) ?_
       refine ROps.d (r := agg (mXc r12 r13 r16)) (fs := []) (Γ' := [⟨1, some (mXc r4 r5 r6)⟩, ⟨1, some (mXc r8 r9 r11)⟩, ⟨1, some (mXc r12 r13 r16)⟩, ⟨0, none⟩]) rfl rfl rfl (TOp.loadAgg_o rfl agg33 siz33 rfl rfl rfl rfl) rfl ?_
       refine ROps.d (r := agg (mXc r8 r9 r11)) (fs := []) (Γ' := [⟨1, some (mXc r4 r5 r6)⟩, ⟨1, some (mXc r8 r9 r11)⟩, ⟨1, some (mXc r12 r13 r16)⟩, ⟨0, none⟩]) rfl rfl rfl (TOp.loadAgg_o rfl agg33 siz33 rfl rfl rfl rfl) rfl ?_
       refine ROps.d (r := b false) (fs := []) (Γ' := [⟨1, some (mXc r4 r5 r6)⟩, ⟨1, some (mXc r8 r9 r11)⟩, ⟨1, some (mXc r12 r13 r16)⟩, ⟨0, none⟩]) rfl rfl rfl (TOp.eqb (TOp.callB (CallAs.func ent46 rfl rfl) (Bors.cons (Bor.agg (Bors.cons (Bor.pure rfl) (Bors.cons (Bor.pure rfl) (Bors.cons (Bor.sl (fun _ => rfl)) Bors.nil)))) (Bors.cons (Bor.agg (Bors.cons (Bor.pure rfl) (Bors.cons (Bor.pure rfl) (Bors.cons (Bor.sl (fun _ => rfl)) Bors.nil)))) Bors.nil)) rfl rfl (s_SameMatrix_ok r12 r13 r16 r8 r9 r11 r17 hf12)) hc13) rfl ?_
       refine zl (r := b true) (LOp.eqb (LOp.not rfl rfl) rfl) ?_
       refine zl (r := b true) (LOp.pick_false rfl rfl rfl) ?_
       refine zm (r := b true) ?_
       iterate 2 (refine ROps.s rfl rfl rfl ?_; refine ROps.s rfl rfl rfl ?_; refine ROps.s rfl rfl rfl ?_; refine zl (r := b true) (LOp.pick_true rfl rfl rfl) ?_; refine zm (r := b true) ?_; refine ROps.s rfl rfl rfl ?_)
       iterate 3 (refine ROps.s rfl rfl rfl ?_)
       refine zl (r := b true) (LOp.pick_true rfl rfl rfl) ?_
       refine zN ?_
       exact .inl ⟨(Le.of ⟨aR, aR, aR, aR, aR, trivial⟩ ⟨⟨rfl, .inr rfl⟩, ⟨rfl, .inr rfl⟩, ⟨rfl, .inl rfl⟩, ⟨rfl, .inr rfl⟩, trivial⟩), h⟩
    ·refine RunC.regionW ?_
     refine zl (r := b true) (LOp.eqb (LOp.move rfl rfl) hc9) ?_
     refine zl (r := b false) (LOp.eqb (LOp.not rfl rfl) rfl) ?_
     refine zm (r := b false) ?_
     refine zl (r := b false) (LOp.eqb (LOp.move rfl rfl) hc10) ?_
     refine zl (r := b true) (LOp.eqb (LOp.not rfl rfl) rfl) ?_
     refine zl (r := b true) (LOp.pick_false rfl rfl rfl) ?_
     refine zm (r := b true) ?_
     iterate 2 (refine ROps.s rfl rfl rfl ?_; refine ROps.s rfl rfl rfl ?_; refine zl (r := b true) (LOp.pick_true rfl rfl rfl) ?_; refine zm (r := b true) ?_; refine ROps.s rfl rfl rfl ?_; refine ROps.s rfl rfl rfl ?_)
     iterate 2 (refine ROps.s rfl rfl rfl ?_; refine zl (r := b true) (LOp.pick_true rfl rfl rfl) ?_; refine zm (r := b true) ?_; refine ROps.s rfl rfl rfl ?_; refine ROps.s rfl rfl rfl ?_; refine ROps.s rfl rfl rfl ?_)
     refine ROps.s rfl rfl rfl ?_
     refine zl (r := b true) (LOp.pick_true rfl rfl rfl) ?_
     refine zN ?_
     exact .inl ⟨(Le.of ⟨aR, aR, aR, aR, aR, trivial⟩ ⟨⟨rfl, .inr rfl⟩, ⟨rfl, .inr rfl⟩, ⟨rfl, .inl rfl⟩, ⟨rfl, .inr rfl⟩, trivial⟩), h⟩
   ·refine RunC.regionW ?_
    refine zl (r := b false) (LOp.eqb (LOp.move rfl rfl) hc9) ?_
    refine zl (r := b true) (LOp.eqb (LOp.not rfl rfl) rfl) ?_
    iterate 2 (refine zm (r := b true) ?_; refine ROps.s rfl rfl rfl ?_; refine ROps.s rfl rfl rfl ?_; refine zl (r := b true) (LOp.pick_true rfl rfl rfl) ?_)
    refine zm (r := b true) ?_
    iterate 4 (refine ROps.s rfl rfl rfl ?_)
    iterate 2 (refine zl (r := b true) (LOp.pick_true rfl rfl rfl) ?_; refine zm (r := b true) ?_; refine ROps.s rfl rfl rfl ?_; refine ROps.s rfl rfl rfl ?_; refine ROps.s rfl rfl rfl ?_)
    refine ROps.s rfl rfl rfl ?_
    refine zl (r := b true) (LOp.pick_true rfl rfl rfl) ?_
    refine zm (r := b true) ?_
    iterate 4 (refine ROps.s rfl rfl rfl ?_)
    refine zl (r := b true) (LOp.pick_true rfl rfl rfl) ?_
    refine zN ?_
    exact .inl ⟨(Le.of ⟨aR, aR, aR, aR, aR, trivial⟩ ⟨⟨rfl, .inr rfl⟩, ⟨rfl, .inr rfl⟩, ⟨rfl, .inl rfl⟩, ⟨rfl, .inr rfl⟩, trivial⟩), h⟩
  ·rintro τ24 Γ24 (⟨hw24, h⟩ | ⟨hw24, h⟩)
   ·refine RunC.le (τ' := [(5, i64 x3), (6, optr 0 1 0), (7, (sFc r7)), (8, optr 1 1 0), (89, b true)]) (Γ' := [⟨1, some (mXc r4 r5 r6)⟩, ⟨1, some (mXc r8 r9 r11)⟩, ⟨1, none⟩, ⟨0, none⟩]) hw24 ?_
    unfold w_FnRoots_k2 at h
    refine RunC.cond_true rfl rfl ?_
    refine zQ ?_
    refine za (r := b false) ?_
    refine zN ?_
    refine RunC.ret ?_
    have hq := Option.some.inj h
    subst q0
    exact bodyQ.pure (.inr rfl) rfl (Res.one rfl (RV.tmp rfl))
   ·refine RunC.le (τ' := [(5, i64 x3), (6, optr 0 1 0), (7, (sFc r7)), (8, optr 1 1 0), (89, b false)]) (Γ' := [⟨1, some (mXc r4 r5 r6)⟩, ⟨1, some (mXc r8 r9 r11)⟩, ⟨1, none⟩, ⟨0, none⟩]) hw24 ?_
    unfold w_FnRoots_k4 at h
    refine RunC.cond_false rfl rfl ?_
    refine RunC.skip ?_
    refine RunC.seq ?_
    obtain ⟨r19, r20, r21, r22, hf18, h⟩ := obind4_some h
    refine RunC.regionW ?_
    refine ROps.d (r := agg (mXc r8 r9 r11)) (fs := []) (Γ' := [⟨1, some (mXc r4 r5 r6)⟩, ⟨1, some (mXc r8 r9 r11)⟩, ⟨1, none⟩, ⟨0, none⟩]) rfl rfl rfl (TOp.loadAgg_o rfl agg33 siz33 rfl rfl rfl rfl) rfl ?_
    refine ROps.d (r := tup [agg (mXc r19 r20 r22), b r21]) (fs := []) (Γ' := [⟨1, some (mXc r4 r5 r6)⟩, ⟨1, some (mXc r8 r9 r11)⟩, ⟨1, none⟩, ⟨0, none⟩]) rfl rfl rfl (TOp.callS (CallAs.func ent48 rfl rfl) (ALes.cons aR ALes.nil) (lts_cons (lt_agg (lts_cons rfl (lts_cons rfl (lts_cons (lt_sl (fun _ => rfl)) lts_nil)))) lts_nil) (lt_tup (lts_cons (lt_agg (lts_cons rfl (lts_cons rfl (lts_cons (lt_sl (fun _ => rfl)) lts_nil)))) (lts_cons rfl lts_nil))) (s_FlipMatrix_ok r8 r9 r11 r19 r20 r21 r22 hf18) (Bor.tup (Bors.cons (Bor.agg (Bors.cons (Bor.pure rfl) (Bors.cons (Bor.pure rfl) (Bors.cons (Bor.own (f := f32) (fun _ => rfl) rfl rfl) Bors.nil)))) (Bors.cons (Bor.pure rfl) Bors.nil)))) rfl ?_
    refine zm (r := tup [agg (mXc r19 r20 r22), b r21]) ?_
    refine zl (r := agg (mXc r19 r20 r22)) (LOp.extract rfl rfl rfl) ?_
    refine zl (r := b r21) (LOp.extract rfl rfl rfl) ?_
    refine ROps.d (r := optr 2 2 0) (fs := [(2, zMx)]) (Γ' := [⟨1, some (mXc r4 r5 r6)⟩, ⟨1, some (mXc r8 r9 r11)⟩, ⟨2, some zMx⟩, ⟨0, none⟩]) rfl rfl rfl (TOp.alloc_o (g := ⟨1, none⟩) 2 rfl zer33 zok33 rfl) rfl ?_
    refine ROps.store_le (r := agg (mXc r19 r20 r22)) (l' := (mXc r19 r20 r22)) (Γ' := [⟨1, some (mXc r4 r5 r6)⟩, ⟨1, some (mXc r8 r9 r11)⟩, ⟨2, some (mXc r19 r20 r22)⟩, ⟨0, none⟩]) rfl siz33 rfl rfl rfl aR rfl rfl rfl rfl (Nat.le_of_ble_eq_true rfl) rfl rfl ?_
    refine za (r := b r21) ?_
    refine zN ?_
    refine RunC.seq ?_
    obtain ⟨r23, r24, r25, r26, hf19, h⟩ := obind4_some h
    refine RunC.regionW ?_
    refine ROps.d (r := agg (mXc r8 r9 r11)) (fs := []) (Γ' := [⟨1, some (mXc r4 r5 r6)⟩, ⟨1, some (mXc r8 r9 r11)⟩, ⟨2, some (mXc r19 r20 r22)⟩, ⟨0, none⟩]) rfl rfl rfl (TOp.loadAgg_o rfl agg33 siz33 rfl rfl rfl rfl) rfl ?_
    refine ROps.d (r := agg (mXc r19 r20 r22)) (fs := []) (Γ' := [⟨1, some (mXc r4 r5 r6)⟩, ⟨1, some (mXc r8 r9 r11)⟩, ⟨2, some (mXc r19 r20 r22)⟩, ⟨0, none⟩]) rfl rfl rfl (TOp.loadAgg_o rfl agg33 siz33 rfl rfl rfl rfl) rfl ?_
    refine ROps.d (r := tup [agg (mXc r23 r24 r26), b r25]) (fs := []) (Γ' := [⟨1, some (mXc r4 r5 r6)⟩, ⟨1, some (mXc r8 r9 r11)⟩, ⟨2, some (mXc r19 r20 r22)⟩, ⟨0, none⟩]) rfl rfl rfl (TOp.callS (CallAs.func ent49 rfl rfl) (ALes.cons aR (ALes.cons aR ALes.nil)) (lts_cons (lt_agg (lts_cons rfl (lts_cons rfl (lts_cons (lt_sl (fun _ => rfl)) lts_nil)))) (lts_cons (lt_agg (lts_cons rfl (lts_cons rfl (lts_cons (lt_sl (fun _ => rfl)) lts_nil)))) lts_nil)) (lt_tup (lts_cons (lt_agg (lts_cons rfl (lts_cons rfl (lts_cons (lt_sl (fun _ => rfl)) lts_nil)))) (lts_cons rfl lts_nil))) (s_MulMatrices_ok r8 r9 r11 r19 r20 r22 r23 r24 r25 r26 hf19) (Bor.tup (Bors.cons (Bor.agg (Bors.cons (Bor.pure rfl) (Bors.cons (Bor.pure rfl) (Bors.cons (Bor.own (f := f32) (fun _ => rfl) rfl rfl) Bors.nil)))) (Bors.cons (Bor.pure rfl) Bors.nil)))) rfl ?_
    refine zm (r := tup [agg (mXc r23 r24 r26), b r25]) ?_
    refine zl (r := agg (mXc r23 r24 r26)) (LOp.extract rfl rfl rfl) ?_
    refine zl (r := b r25) (LOp.extract rfl rfl rfl) ?_
    refine ROps.d (r := optr 3 1 0) (fs := [(3, zMx)]) (Γ' := [⟨1, some (mXc r4 r5 r6)⟩, ⟨1, some (mXc r8 r9 r11)⟩, ⟨2, some (mXc r19 r20 r22)⟩, ⟨1, some zMx⟩]) rfl rfl rfl (TOp.alloc_o (g := ⟨0, none⟩) 3 rfl zer33 zok33 rfl) rfl ?_
    refine ROps.store_le (r := agg (mXc r23 r24 r26)) (l' := (mXc r23 r24 r26)) (Γ' := [⟨1, some (mXc r4 r5 r6)⟩, ⟨1, some (mXc r8 r9 r11)⟩, ⟨2, some (mXc r19 r20 r22)⟩, ⟨1, some (mXc r23 r24 r26)⟩]) rfl siz33 rfl rfl rfl aR rfl rfl rfl rfl (Nat.le_of_ble_eq_true rfl) rfl rfl ?_
    refine za (r := b r25) ?_
    refine zN ?_
    refine RunC.wl (τ' := [(5, i64 x3), (6, optr 0 1 0), (7, (sFc r7)), (8, optr 1 1 0), (14, b r21), (15, optr 3 1 0), (16, b r25)]) (Γ' := [⟨1, some (mXc r4 r5 r6)⟩, ⟨1, some (mXc r8 r9 r11)⟩, ⟨2, none⟩, ⟨1, some (mXc r23 r24 r26)⟩]) ⟨aR, aR, aR, aR, aR, aR, aR, trivial⟩ ⟨⟨rfl, .inr rfl⟩, ⟨rfl, .inr rfl⟩, ⟨rfl, .inl rfl⟩, ⟨rfl, .inr rfl⟩, trivial⟩ ?_
    refine RunC.seq ?_
    obtain ⟨r27, r28, hf20, h⟩ := obind2_some h
    refine RunC.regionW ?_
    refine ROps.d (r := agg (mXc r8 r9 r11)) (fs := []) (Γ' := [⟨1, some (mXc r4 r5 r6)⟩, ⟨1, some (mXc r8 r9 r11)⟩, ⟨2, none⟩, ⟨1, some (mXc r23 r24 r26)⟩]) rfl rfl rfl (TOp.loadAgg_o rfl agg33 siz33 rfl rfl rfl rfl) rfl ?_
    refine zm (r := (sFc r7)) ?_
    refine ROps.d (r := tup [(sFc r28), b r27]) (fs := []) (Γ' := [⟨1, some (mXc r4 r5 r6)⟩, ⟨1, some (mXc r8 r9 r11)⟩, ⟨2, none⟩, ⟨1, some (mXc r23 r24 r26)⟩]) rfl rfl rfl (TOp.callS (CallAs.func ent50 rfl rfl) (ALes.cons aR (ALes.cons aR ALes.nil)) (lts_cons (lt_agg (lts_cons rfl (lts_cons rfl (lts_cons (lt_sl (fun _ => rfl)) lts_nil)))) (lts_cons (lt_sl (fun _ => rfl)) lts_nil)) (lt_tup (lts_cons (lt_sl (fun _ => rfl)) (lts_cons rfl lts_nil))) (i_RootSolve_ok r8 r9 r11 r7 r27 r28 hf20) (Bor.tup (Bors.cons (Bor.own (f := f32) (fun _ => rfl) rfl rfl) (Bors.cons (Bor.pure rfl) Bors.nil)))) rfl ?_
    refine zm (r := tup [(sFc r28), b r27]) ?_
    refine zl (r := (sFc r28)) (LOp.extract rfl rfl rfl) ?_
    refine zl (r := b r27) (LOp.extract rfl rfl rfl) ?_
    refine za (r := (sFc r28)) ?_
    refine za (r := b r27) ?_
    refine zN ?_
    refine RunC.wl (τ' := [(5, i64 x3), (6, optr 0 1 0), (7, (sFc r7)), (14, b r21), (15, optr 3 1 0), (16, b r25), (17, (sFc r28)), (18, b r27)]) (Γ' := [⟨1, some (mXc r4 r5 r6)⟩, ⟨1, none⟩, ⟨2, none⟩, ⟨1, some (mXc r23 r24 r26)⟩]) ⟨aR, aR, aR, aR, aR, aR, aR, aR, trivial⟩ ⟨⟨rfl, .inr rfl⟩, ⟨rfl, .inl rfl⟩, ⟨rfl, .inl rfl⟩, ⟨rfl, .inr rfl⟩, trivial⟩ ?_
    iterate 2 (refine RunC.seq ?_)
    refine RunC.cutN (fun τ Γ => ( Le 547 τ Γ [(5, i64 x3), (6, optr 0 1 0), (7, (sFc r7)), (17, (sFc r28)), (121, b true)] [⟨1, some (mXc r4 r5 r6)⟩, ⟨1, none⟩, ⟨2, none⟩, ⟨1, none⟩] ∧ w_FnRoots_k6 = some q0) ∨ ( Le 547 τ Γ [(5, i64 x3), (6, optr 0 1 0), (7, (sFc r7)), (17, (sFc r28)), (121, b false)] [⟨1, some (mXc r4 r5 r6)⟩, ⟨1, none⟩, ⟨2, none⟩, ⟨1, none⟩] ∧ w_FnRoots_k8 x3 r4 r5 r6 r7 r28 = some q0)) ?_ ?_
    ·rcases bsel_some h with ⟨hc21, h⟩ | ⟨hc21, h⟩
     ·rcases bsel_some h with ⟨hc22, h⟩ | ⟨hc22, h⟩
      ·rcases bsel_some h with ⟨hc23, h⟩ | ⟨hc23, h⟩
       ·obtain ⟨r29, hf24, h⟩ := obind_some h
        rcases bsel_some h with ⟨hc25, h⟩ | ⟨hc25, h⟩
        ·refine RunC.regionW ?_
         refine zl (r := b true) (LOp.eqb (LOp.move rfl rfl) hc21) ?_
         refine zl (r := b false) (LOp.eqb (LOp.not rfl rfl) rfl) ?_
         refine zm (r := b false) ?_
         refine zl (r := b true) (LOp.eqb (LOp.move rfl rfl) hc22) ?_
         refine zl (r := b false) (LOp.eqb (LOp.not rfl rfl) rfl) ?_
         refine zl (r := b false) (LOp.pick_false rfl rfl rfl) ?_
         refine zm (r := b false) ?_
         refine zl (r := b true) (LOp.eqb (LOp.move rfl rfl) hc23) ?_
         refine zl (r := b false) (LOp.eqb (LOp.not rfl rfl) rfl) ?_
         refine zl (r := b false) (LOp.pick_false rfl rfl rfl) ?_
         refine zm (r := b false) ?_
         refine ROps.d (r := agg (mXc r23 r24 r26)) (fs := []) (Γ' := [⟨1, some (mXc r4 r5 r6)⟩, ⟨1, none⟩, ⟨2, none⟩, ⟨1, some (mXc r23 r24 r26)⟩]) rfl rfl rfl (TOp.loadAgg_o rfl agg33 siz33 rfl rfl rfl rfl) rfl ?_
         refine ROps.d (r := agg (mXc r4 r5 r6)) (fs := []) (Γ' := [⟨1, some (mXc r4 r5 r6)⟩, ⟨1, none⟩, ⟨2, none⟩, ⟨1, some (mXc r23 r24 r26)⟩]) rfl rfl rfl (TOp.loadAgg_o rfl agg33 siz33 rfl rfl rfl rfl) rfl ?_
         refine ROps.d (r := b true) (fs := []) (Γ' := [⟨1, some (mXc r4 r5 r6)⟩, ⟨1, none⟩, ⟨2, none⟩, ⟨1, some (mXc r23 r24 r26)⟩]) rfl rfl rfl (TOp.eqb (TOp.callB (CallAs.func ent51 rfl rfl) (Bors.cons (Bor.agg (Bors.cons (Bor.pure rfl) (Bors.cons (Bor.pure rfl) (Bors.cons (Bor.sl (fun _ => rfl)) Bors.nil)))) (Bors.cons (Bor.agg (Bors.cons (Bor.pure rfl) (Bors.cons (Bor.pure rfl) (Bors.cons (Bor.sl (fun _ => rfl)) Bors.nil)))) (Bors.cons (Bor.le (ALe.fl (by kernel_rfl) (by kernel_rfl)) (Bor.pure rfl)) Bors.nil))) rfl rfl (w_b10FarMatrix_ok r23 r24 r26 r4 r5 r6 (some 4562254508917369340) r29 hf24)) hc25) rfl ?_
         refine zl (r := b true) (LOp.pick_false rfl rfl rfl) ?_
         refine zN ?_
         exact .inl ⟨(Le.of ⟨aR, aR, aR, aR, aR, trivial⟩ ⟨⟨rfl, .inr rfl⟩, ⟨rfl, .inl rfl⟩, ⟨rfl, .inl rfl⟩, ⟨rfl, .inl rfl⟩, trivial⟩), h⟩
        ·refine RunC.regionW ?_
         refine zl (r := b true) (LOp.eqb (LOp.move rfl rfl) hc21) ?_
         refine zl (r := b false) (LOp.eqb (LOp.not rfl rfl) rfl) ?_
         refine zm (r := b false) ?_
         refine zl (r := b true) (LOp.eqb (LOp.move rfl rfl) hc22) ?_
         refine zl (r := b false) (LOp.eqb (LOp.not rfl rfl) rfl) ?_
         refine zl (r := b false) (LOp.pick_false rfl rfl rfl) ?_
         refine zm (r := b false) ?_
         refine zl (r := b true) (LOp.eqb (LOp.move rfl rfl) hc23) ?_
         refine zl (r := b false) (LOp.eqb (LOp.not rfl rfl) rfl) ?_
         refine zl (r := b false) (LOp.pick_false rfl rfl rfl) ?_
         refine zm (r := b false) ?_
         refine ROps.d (r := agg (mXc r23 r24 r26)) (fs := []) (Γ' := [⟨1, some (mXc r4 r5 r6)⟩, ⟨1, none⟩, ⟨2, none⟩, ⟨1, some (mXc r23 r24 r26)⟩]) rfl rfl rfl (TOp.loadAgg_o rfl agg33 siz33 rfl rfl rfl rfl) rfl ?_
         refine ROps.d (r := agg (mXc r4 r5 r6)) (fs := []) (Γ' := [⟨1, some (mXc r4 r5 r6)⟩, ⟨1, none⟩, ⟨2, none⟩, ⟨1, some (mXc r23 r24 r26)⟩]) rfl rfl rfl (TOp.loadAgg_o rfl agg33 siz33 rfl rfl rfl rfl) rfl ?_
         refine ROps.d (r := b false) (fs := []) (Γ' := [⟨1, some (mXc r4 r5 r6)⟩, ⟨1, none⟩, ⟨2, none⟩, ⟨1, some (mXc r23 r24 r26)⟩]) rfl rfl rfl (TOp.eqb (TOp.callB (CallAs.func ent51 rfl rfl) (Bors.cons (Bor.agg (Bors.cons (Bor.pure rfl) (Bors.cons (Bor.pure rfl) (Bors.cons (Bor.sl (fun _ => rfl)) Bors.nil)))) (Bors.cons (Bor.agg (Bors.cons (Bor.pure rfl) (Bors.cons (Bor.pure rfl) (Bors.cons (Bor.sl (fun _ => rfl)) Bors.nil)))) (Bors.cons (Bor.le (ALe.fl (by kernel_rfl) (by kernel_rfl)) (Bor.pure rfl)) Bors.nil))) rfl rfl (w_b10FarMatrix_ok r23 r24 r26 r4 r5 r6 (some 4562254508917369340) r29 hf24)) hc25) rfl ?_
         refine zl (r := b false) (LOp.pick_false rfl rfl rfl) ?_
         refine zN ?_
         exact .inr (⟨(Le.of ⟨aR, aR, aR, aR, aR, trivial⟩ ⟨⟨rfl, .inr rfl⟩, ⟨rfl, .inl rfl⟩, ⟨rfl, .inl rfl⟩, ⟨rfl, .inl rfl⟩, trivial⟩), h⟩)
       ·refine RunC.regionW ?_
        refine zl (r := b true) (LOp.eqb (LOp.move rfl rfl) hc21) ?_
        refine zl (r := b false) (LOp.eqb (LOp.not rfl rfl) rfl) ?_
        refine zm (r := b false) ?_
        refine zl (r := b true) (LOp.eqb (LOp.move rfl rfl) hc22) ?_
        refine zl (r := b false) (LOp.eqb (LOp.not rfl rfl) rfl) ?_
        refine zl (r := b false) (LOp.pick_false rfl rfl rfl) ?_
        refine zm (r := b false) ?_
        refine zl (r := b false) (LOp.eqb (LOp.move rfl rfl) hc23) ?_
        refine zl (r := b true) (LOp.eqb (LOp.not rfl rfl) rfl) ?_
        refine zl (r := b true) (LOp.pick_false rfl rfl rfl) ?_
        refine zm (r := b true) ?_
        iterate 3 (refine ROps.s rfl rfl rfl ?_)
        refine zl (r := b true) (LOp.pick_true rfl rfl rfl) ?_
        refine zN ?_
        exact .inl ⟨(Le.of ⟨aR, aR, aR, aR, aR, trivial⟩ ⟨⟨rfl, .inr rfl⟩, ⟨rfl, .inl rfl⟩, ⟨rfl, .inl rfl⟩, ⟨rfl, .inl rfl⟩, trivial⟩), h⟩
      ·refine RunC.regionW ?_
       refine zl (r := b true) (LOp.eqb (LOp.move rfl rfl) hc21) ?_
       refine zl (r := b false) (LOp.eqb (LOp.not rfl rfl) rfl) ?_
       refine zm (r := b false) ?_
       refine zl (r := b false) (LOp.eqb (LOp.move rfl rfl) hc22) ?_
       refine zl (r := b true) (LOp.eqb (LOp.not rfl rfl) rfl) ?_
       refine zl (r := b true) (LOp.pick_false rfl rfl rfl) ?_
       refine zm (r := b true) ?_
       iterate 2 (refine ROps.s rfl rfl rfl ?_)
       refine zl (r := b true) (LOp.pick_true rfl rfl rfl) ?_
       refine zm (r := b true) ?_
       iterate 3 (refine ROps.s rfl rfl rfl ?_)
       refine zl (r := b true) (LOp.pick_true rfl rfl rfl) ?_
       refine zN ?_
       exact .inl ⟨(Le.of ⟨aR, aR, aR, aR, aR, trivial⟩ ⟨⟨rfl, .inr rfl⟩, ⟨rfl, .inl rfl⟩, ⟨rfl, .inl rfl⟩, ⟨rfl, .inl rfl⟩, trivial⟩), h⟩
     ·refine RunC.regionW ?_
      refine zl (r := b false) (LOp.eqb (LOp.move rfl rfl) hc21) ?_
      refine zl (r := b true) (LOp.eqb (LOp.not rfl rfl) rfl) ?_
      iterate 2 (refine zm (r := b true) ?_; refine ROps.s rfl rfl rfl ?_; refine ROps.s rfl rfl rfl ?_; refine zl (r := b true) (LOp.pick_true rfl rfl rfl) ?_)
      refine zm (r := b true) ?_
      iterate 3 (refine ROps.s rfl rfl rfl ?_)
      refine zl (r := b true) (LOp.pick_true rfl rfl rfl) ?_
      refine zN ?_
      exact .inl ⟨(Le.of ⟨aR, aR, aR, aR, aR, trivial⟩ ⟨⟨rfl, .inr rfl⟩, ⟨rfl, .inl rfl⟩, ⟨rfl, .inl rfl⟩, ⟨rfl, .inl rfl⟩, trivial⟩), h⟩
    ·rintro τ25 Γ25 (⟨hw25, h⟩ | ⟨hw25, h⟩)
     ·refine RunC.le (τ' := [(5, i64 x3), (6, optr 0 1 0), (7, (sFc r7)), (17, (sFc r28)), (121, b true)]) (Γ' := [⟨1, some (mXc r4 r5 r6)⟩, ⟨1, none⟩, ⟨2, none⟩, ⟨1, none⟩]) hw25 ?_
      unfold w_FnRoots_k6 at h
      refine RunC.cond_true rfl rfl ?_
      refine zQ ?_
      refine za (r := b false) ?_
      refine zN ?_
      refine RunC.ret ?_
      have hq := Option.some.inj h
      subst q0
      exact bodyQ.pure (.inr rfl) rfl (Res.one rfl (RV.tmp rfl))
     ·refine RunC.le (τ' := [(5, i64 x3), (6, optr 0 1 0), (7, (sFc r7)), (17, (sFc r28)), (121, b false)]) (Γ' := [⟨1, some (mXc r4 r5 r6)⟩, ⟨1, none⟩, ⟨2, none⟩, ⟨1, none⟩]) hw25 ?_
      unfold w_FnRoots_k8 at h
      refine RunC.cond_false rfl rfl ?_
      refine RunC.skip ?_
      refine RunC.seq ?_
      obtain ⟨r30, r31, hf26, h⟩ := obind2_some h
      refine RunC.regionW ?_
      refine ROps.d (r := agg (mXc r4 r5 r6)) (fs := []) (Γ' := [⟨1, some (mXc r4 r5 r6)⟩, ⟨1, none⟩, ⟨2, none⟩, ⟨1, none⟩]) rfl rfl rfl (TOp.loadAgg_o rfl agg33 siz33 rfl rfl rfl rfl) rfl ?_
      refine zm (r := (sFc r28)) ?_
      refine ROps.d (r := tup [(sFc r31), b r30]) (fs := []) (Γ' := [⟨1, some (mXc r4 r5 r6)⟩, ⟨1, none⟩, ⟨2, none⟩, ⟨1, none⟩]) rfl rfl rfl (TOp.callS (CallAs.func ent15 rfl rfl) (ALes.cons aR (ALes.cons aR ALes.nil)) (lts_cons (lt_agg (lts_cons rfl (lts_cons rfl (lts_cons (lt_sl (fun _ => rfl)) lts_nil)))) (lts_cons (lt_sl (fun _ => rfl)) lts_nil)) (lt_tup (lts_cons (lt_sl (fun _ => rfl)) (lts_cons rfl lts_nil))) (s_TimesVector_ok r4 r5 r6 r28 r30 r31 hf26) (Bor.tup (Bors.cons (Bor.own (f := f32) (fun _ => rfl) rfl rfl) (Bors.cons (Bor.pure rfl) Bors.nil)))) rfl ?_
      refine zm (r := tup [(sFc r31), b r30]) ?_
      refine zl (r := (sFc r31)) (LOp.extract rfl rfl rfl) ?_
      refine zl (r := b r30) (LOp.extract rfl rfl rfl) ?_
      refine za (r := (sFc r31)) ?_
      refine za (r := b r30) ?_
      refine zN ?_
      refine RunC.seq ?_
      obtain ⟨r32, r33, r34, r35, r36, hf27, h⟩ := obind5_some h
      refine RunC.regionW ?_
      refine ROps.d (r := agg (mXc r4 r5 r6)) (fs := []) (Γ' := [⟨1, some (mXc r4 r5 r6)⟩, ⟨1, none⟩, ⟨2, none⟩, ⟨1, none⟩]) rfl rfl rfl (TOp.loadAgg_o rfl agg33 siz33 rfl rfl rfl rfl) rfl ?_
      refine ROps.d (r := tup [agg (mXc r32 r33 r35), (sFc r36), b r34]) (fs := []) (Γ' := [⟨1, some (mXc r4 r5 r6)⟩, ⟨1, none⟩, ⟨2, none⟩, ⟨1, none⟩]) rfl rfl rfl (TOp.callS (CallAs.func ent52 rfl rfl) (ALes.cons aR ALes.nil) (lts_cons (lt_agg (lts_cons rfl (lts_cons rfl (lts_cons (lt_sl (fun _ => rfl)) lts_nil)))) lts_nil) (lt_tup (lts_cons (lt_agg (lts_cons rfl (lts_cons rfl (lts_cons (lt_sl (fun _ => rfl)) lts_nil)))) (lts_cons (lt_sl (fun _ => rfl)) (lts_cons rfl lts_nil)))) (i_MiddleFactor_ok r4 r5 r6 r32 r33 r34 r35 r36 hf27) (Bor.tup (Bors.cons (Bor.agg (Bors.cons (Bor.pure rfl) (Bors.cons (Bor.pure rfl) (Bors.cons (Bor.own (f := f32) (fun _ => rfl) rfl rfl) Bors.nil)))) (Bors.cons (Bor.own (f := f32) (fun _ => rfl) rfl rfl) (Bors.cons (Bor.pure rfl) Bors.nil))))) rfl ?_
      refine zm (r := tup [agg (mXc r32 r33 r35), (sFc r36), b r34]) ?_
      refine zl (r := agg (mXc r32 r33 r35)) (LOp.extract rfl rfl rfl) ?_
      refine zl (r := (sFc r36)) (LOp.extract rfl rfl rfl) ?_
      refine zl (r := b r34) (LOp.extract rfl rfl rfl) ?_
      refine ROps.d (r := optr 1 2 0) (fs := [(1, zMx)]) (Γ' := [⟨1, some (mXc r4 r5 r6)⟩, ⟨2, some zMx⟩, ⟨2, none⟩, ⟨1, none⟩]) rfl rfl rfl (TOp.alloc_o (g := ⟨1, none⟩) 1 rfl zer33 zok33 rfl) rfl ?_
      refine ROps.store_le (r := agg (mXc r32 r33 r35)) (l' := (mXc r32 r33 r35)) (Γ' := [⟨1, some (mXc r4 r5 r6)⟩, ⟨2, some (mXc r32 r33 r35)⟩, ⟨2, none⟩, ⟨1, none⟩]) rfl siz33 rfl rfl rfl aR rfl rfl rfl rfl (Nat.le_of_ble_eq_true rfl) rfl rfl ?_
      refine za (r := (sFc r36)) ?_
      refine za (r := b r34) ?_
      refine zN ?_
      iterate 2 (refine RunC.seq ?_)
      refine RunC.cutN (fun τ Γ => ( Le 547 τ Γ [(5, i64 x3), (6, optr 0 1 0), (21, optr 1 2 0), (22, (sFc r36)), (167, b true)] [⟨1, some (mXc r4 r5 r6)⟩, ⟨2, some (mXc r32 r33 r35)⟩, ⟨2, none⟩, ⟨1, none⟩] ∧ w_FnRoots_k10 = some q0) ∨ ( Le 547 τ Γ [(5, i64 x3), (6, optr 0 1 0), (21, optr 1 2 0), (22, (sFc r36)), (167, b false)] [⟨1, some (mXc r4 r5 r6)⟩, ⟨2, some (mXc r32 r33 r35)⟩, ⟨2, none⟩, ⟨1, none⟩] ∧ w_FnRoots_k12 x3 r4 r5 r6 r35 r36 = some q0)) ?_ ?_
      ·rcases bsel_some h with ⟨hc28, h⟩ | ⟨hc28, h⟩
       ·rcases bsel_some h with ⟨hc29, h⟩ | ⟨hc29, h⟩
        ·obtain ⟨r37, hf30, h⟩ := obind_some h
         rcases bsel_some h with ⟨hc31, h⟩ | ⟨hc31, h⟩
         ·refine RunC.regionW ?_
          refine zl (r := b true) (LOp.eqb (LOp.move rfl rfl) hc28) ?_
          refine zl (r := b false) (LOp.eqb (LOp.not rfl rfl) rfl) ?_
          refine zm (r := b false) ?_
          refine zl (r := b true) (LOp.eqb (LOp.move rfl rfl) hc29) ?_
          refine zl (r := b false) (LOp.eqb (LOp.not rfl rfl) rfl) ?_
          refine zl (r := b false) (LOp.pick_false rfl rfl rfl) ?_
          refine zm (r := b false) ?_
          refine zm (r := (sFc r31)) ?_
          refine zm (r := (sFc r7)) ?_
          refine ROps.d (r := b true) (fs := []) (Γ' := [⟨1, some (mXc r4 r5 r6)⟩, ⟨2, some (mXc r32 r33 r35)⟩, ⟨2, none⟩, ⟨1, none⟩]) rfl rfl rfl (TOp.eqb (TOp.callB (CallAs.func ent16 rfl rfl) (Bors.cons (Bor.sl (fun _ => rfl)) (Bors.cons (Bor.sl (fun _ => rfl)) (Bors.cons (Bor.le (ALe.fl (by kernel_rfl) (by kernel_rfl)) (Bor.pure rfl)) Bors.nil))) rfl rfl (w_b10Far_ok r31 r7 (some 4562254508917369340) r37 hf30)) hc31) rfl ?_
          refine zl (r := b true) (LOp.pick_false rfl rfl rfl) ?_
          refine zm (r := b true) ?_
          iterate 4 (refine ROps.s rfl rfl rfl ?_)
          iterate 2 (refine zl (r := b true) (LOp.pick_true rfl rfl rfl) ?_; refine zm (r := b true) ?_; refine ROps.s rfl rfl rfl ?_; refine ROps.s rfl rfl rfl ?_; refine ROps.s rfl rfl rfl ?_)
          refine ROps.s rfl rfl rfl ?_
          refine zl (r := b true) (LOp.pick_true rfl rfl rfl) ?_
          refine zm (r := b true) ?_
          iterate 4 (refine ROps.s rfl rfl rfl ?_)
          refine zl (r := b true) (LOp.pick_true rfl rfl rfl) ?_
          refine zN ?_
          exact .inl ⟨(Le.of ⟨aR, aR, aR, aR, aR, trivial⟩ ⟨⟨rfl, .inr rfl⟩, ⟨rfl, .inr rfl⟩, ⟨rfl, .inl rfl⟩, ⟨rfl, .inl rfl⟩, trivial⟩), h⟩
         ·rcases bsel_some h with ⟨hc32, h⟩ | ⟨hc32, h⟩
          ·refine RunC.regionW ?_
           refine zl (r := b true) (LOp.eqb (LOp.move rfl rfl) hc28) ?_
           refine zl (r := b false) (LOp.eqb (LOp.not rfl rfl) rfl) ?_
           refine zm (r := b false) ?_
           refine zl (r := b true) (LOp.eqb (LOp.move rfl rfl) hc29) ?_
           refine zl (r := b false) (LOp.eqb (LOp.not rfl rfl) rfl) ?_
           refine zl (r := b false) (LOp.pick_false rfl rfl rfl) ?_
           refine zm (r := b false) ?_
           refine zm (r := (sFc r31)) ?_
           refine zm (r := (sFc r7)) ?_
           refine ROps.d (r := b false) (fs := []) (Γ' := [⟨1, some (mXc r4 r5 r6)⟩, ⟨2, some (mXc r32 r33 r35)⟩, ⟨2, none⟩, ⟨1, none⟩]) rfl rfl rfl (TOp.eqb (TOp.callB (CallAs.func ent16 rfl rfl) (Bors.cons (Bor.sl (fun _ => rfl)) (Bors.cons (Bor.sl (fun _ => rfl)) (Bors.cons (Bor.le (ALe.fl (by kernel_rfl) (by kernel_rfl)) (Bor.pure rfl)) Bors.nil))) rfl rfl (w_b10Far_ok r31 r7 (some 4562254508917369340) r37 hf30)) hc31) rfl ?_
           refine zl (r := b false) (LOp.pick_false rfl rfl rfl) ?_
           refine zm (r := b false) ?_
           refine zm (r := (sFc r36)) ?_
           refine zl (r := i64 (r36.length : Int)) (LOp.len_sl und26 rfl rfl) ?_
           refine zm (r := i64 x3) ?_
           refine zl (r := b true) (LOp.eqb (LOp.neq rfl rfl rfl) hc32) ?_
           refine zl (r := b true) (LOp.pick_false rfl rfl rfl) ?_
           refine zm (r := b true) ?_
           iterate 2 (refine ROps.s rfl rfl rfl ?_; refine ROps.s rfl rfl rfl ?_; refine ROps.s rfl rfl rfl ?_; refine zl (r := b true) (LOp.pick_true rfl rfl rfl) ?_; refine zm (r := b true) ?_; refine ROps.s rfl rfl rfl ?_)
           iterate 3 (refine ROps.s rfl rfl rfl ?_)
           refine zl (r := b true) (LOp.pick_true rfl rfl rfl) ?_
           refine zN ?_
           exact .inl ⟨(Le.of ⟨aR, aR, aR, aR, aR, trivial⟩ ⟨⟨rfl, .inr rfl⟩, ⟨rfl, .inr rfl⟩, ⟨rfl, .inl rfl⟩, ⟨rfl, .inl rfl⟩, trivial⟩), h⟩
          ·obtain ⟨r38, hf33, h⟩ := obind_some h
           rcases bsel_some h with ⟨hc34, h⟩ | ⟨hc34, h⟩
           ·rcases bsel_some h with ⟨hc35, h⟩ | ⟨hc35, h⟩
            ·refine RunC.regionW ?_
             refine zl (r := b true) (LOp.eqb (LOp.move rfl rfl) hc28) ?_
             refine zl (r := b false) (LOp.eqb (LOp.not rfl rfl) rfl) ?_
             refine zm (r := b false) ?_
             refine zl (r := b true) (LOp.eqb (LOp.move rfl rfl) hc29) ?_
             refine zl (r := b false) (LOp.eqb (LOp.not rfl rfl) rfl) ?_
             refine zl (r := b false) (LOp.pick_false rfl rfl rfl) ?_
             refine zm (r := b false) ?_
             refine zm (r := (sFc r31)) ?_
             refine zm (r := (sFc r7)) ?_
             refine ROps.d (r := b false) (fs := []) (Γ' := [⟨1, some (mXc r4 r5 r6)⟩, ⟨2, some (mXc r32 r33 r35)⟩, ⟨2, none⟩, ⟨1, none⟩]) rfl rfl rfl (TOp.eqb (TOp.callB (CallAs.func ent16 rfl rfl) (Bors.cons (Bor.sl (fun _ => rfl)) (Bors.cons (Bor.sl (fun _ => rfl)) (Bors.cons (Bor.le (ALe.fl (by kernel_rfl) (by kernel_rfl)) (Bor.pure rfl)) Bors.nil))) rfl rfl (w_b10Far_ok r31 r7 (some 4562254508917369340) r37 hf30)) hc31) rfl ?_
             refine zl (r := b false) (LOp.pick_false rfl rfl rfl) ?_
             refine zm (r := b false) ?_
             refine zm (r := (sFc r36)) ?_
             refine zl (r := i64 (r36.length : Int)) (LOp.len_sl und26 rfl rfl) ?_
             refine zm (r := i64 x3) ?_
             refine zl (r := b false) (LOp.eqb (LOp.neq rfl rfl rfl) hc32) ?_
             refine zl (r := b false) (LOp.pick_false rfl rfl rfl) ?_
             refine zm (r := b false) ?_
             refine ROps.d (r := agg (mXc r32 r33 r35)) (fs := []) (Γ' := [⟨1, some (mXc r4 r5 r6)⟩, ⟨2, some (mXc r32 r33 r35)⟩, ⟨2, none⟩, ⟨1, none⟩]) rfl rfl rfl (TOp.loadAgg_o rfl agg33 siz33 rfl rfl rfl rfl) rfl ?_
             refine ROps.d (r := b true) (fs := []) (Γ' := [⟨1, some (mXc r4 r5 r6)⟩, ⟨2, some (mXc r32 r33 r35)⟩, ⟨2, none⟩, ⟨1, none⟩]) rfl rfl rfl (TOp.eqb (TOp.callB (CallAs.func ent47 rfl rfl) (Bors.cons (Bor.agg (Bors.cons (Bor.pure rfl) (Bors.cons (Bor.pure rfl) (Bors.cons (Bor.sl (fun _ => rfl)) Bors.nil)))) Bors.nil) rfl rfl (s_ValidMatrix_ok r32 r33 r35 r38 hf33)) hc34) rfl ?_
             refine zl (r := b false) (LOp.eqb (LOp.not rfl rfl) rfl) ?_
             refine zl (r := b false) (LOp.pick_false rfl rfl rfl) ?_
             refine zm (r := b false) ?_
             refine zl (r := optr 1 2 0) (LOp.fao und33 rfl siz2 rfl rfl rfl) ?_
             refine ROps.d (r := i64 r32) (fs := []) (Γ' := [⟨1, some (mXc r4 r5 r6)⟩, ⟨2, some (mXc r32 r33 r35)⟩, ⟨2, none⟩, ⟨1, none⟩]) rfl rfl rfl (TOp.load1_o rfl rfl agg2 rfl rfl) rfl ?_
             refine zm (r := i64 x3) ?_
             refine zl (r := b true) (LOp.eqb (LOp.neq rfl rfl rfl) hc35) ?_
             refine zl (r := b true) (LOp.pick_false rfl rfl rfl) ?_
             refine zm (r := b true) ?_
             iterate 4 (refine ROps.s rfl rfl rfl ?_)
             refine zl (r := b true) (LOp.pick_true rfl rfl rfl) ?_
             refine zN ?_
             exact .inl ⟨(Le.of ⟨aR, aR, aR, aR, aR, trivial⟩ ⟨⟨rfl, .inr rfl⟩, ⟨rfl, .inr rfl⟩, ⟨rfl, .inl rfl⟩, ⟨rfl, .inl rfl⟩, trivial⟩), h⟩
            ·rcases bsel_some h with ⟨hc36, h⟩ | ⟨hc36, h⟩
             ·refine RunC.regionW ?_
              refine zl (r := b true) (LOp.eqb (LOp.move rfl rfl) hc28) ?_
              refine zl (r := b false) (LOp.eqb (LOp.not rfl rfl) rfl) ?_
              refine zm (r := b false) ?_
              refine zl (r := b true) (LOp.eqb (LOp.move rfl rfl) hc29) ?_
              refine zl (r := b false) (LOp.eqb (LOp.not rfl rfl) rfl) ?_
              refine zl (r := b false) (LOp.pick_false rfl rfl rfl) ?_
              refine zm (r := b false) ?_
              refine zm (r := (sFc r31)) ?_
              refine zm (r := (sFc r7)) ?_
              refine ROps.d (r := b false) (fs := []) (Γ' := [⟨1, some (mXc r4 r5 r6)⟩, ⟨2, some (mXc r32 r33 r35)⟩, ⟨2, none⟩, ⟨1, none⟩]) rfl rfl rfl (TOp.eqb (TOp.callB (CallAs.func ent16 rfl rfl) (Bors.cons (Bor.sl (fun _ => rfl)) (Bors.cons (Bor.sl (fun _ => rfl)) (Bors.cons (Bor.le (ALe.fl (by kernel_rfl) (by kernel_rfl)) (Bor.pure rfl)) Bors.nil))) rfl rfl (w_b10Far_ok r31 r7 (some 4562254508917369340) r37 hf30)) hc31) rfl ?_
              refine zl (r := b false) (LOp.pick_false rfl rfl rfl) ?_
              refine zm (r := b false) ?_
              refine zm (r := (sFc r36)) ?_
              refine zl (r := i64 (r36.length : Int)) (LOp.len_sl und26 rfl rfl) ?_
              refine zm (r := i64 x3) ?_
              refine zl (r := b false) (LOp.eqb (LOp.neq rfl rfl rfl) hc32) ?_
              refine zl (r := b false) (LOp.pick_false rfl rfl rfl) ?_
              refine zm (r := b false) ?_
              refine ROps.d (r := agg (mXc r32 r33 r35)) (fs := []) (Γ' := [⟨1, some (mXc r4 r5 r6)⟩, ⟨2, some (mXc r32 r33 r35)⟩, ⟨2, none⟩, ⟨1, none⟩]) rfl rfl rfl (TOp.loadAgg_o rfl agg33 siz33 rfl rfl rfl rfl) rfl ?_
              refine ROps.d (r := b true) (fs := []) (Γ' := [⟨1, some (mXc r4 r5 r6)⟩, ⟨2, some (mXc r32 r33 r35)⟩, ⟨2, none⟩, ⟨1, none⟩]) rfl rfl rfl (TOp.eqb (TOp.callB (CallAs.func ent47 rfl rfl) (Bors.cons (Bor.agg (Bors.cons (Bor.pure rfl) (Bors.cons (Bor.pure rfl) (Bors.cons (Bor.sl (fun _ => rfl)) Bors.nil)))) Bors.nil) rfl rfl (s_ValidMatrix_ok r32 r33 r35 r38 hf33)) hc34) rfl ?_
              refine zl (r := b false) (LOp.eqb (LOp.not rfl rfl) rfl) ?_
              refine zl (r := b false) (LOp.pick_false rfl rfl rfl) ?_
              refine zm (r := b false) ?_
              refine zl (r := optr 1 2 0) (LOp.fao und33 rfl siz2 rfl rfl rfl) ?_
              refine ROps.d (r := i64 r32) (fs := []) (Γ' := [⟨1, some (mXc r4 r5 r6)⟩, ⟨2, some (mXc r32 r33 r35)⟩, ⟨2, none⟩, ⟨1, none⟩]) rfl rfl rfl (TOp.load1_o rfl rfl agg2 rfl rfl) rfl ?_
              refine zm (r := i64 x3) ?_
              refine zl (r := b false) (LOp.eqb (LOp.neq rfl rfl rfl) hc35) ?_
              refine zl (r := b false) (LOp.pick_false rfl rfl rfl) ?_
              refine zm (r := b false) ?_
              refine zl (r := optr 1 2 1) (LOp.fao und33 rfl siz2 rfl rfl rfl) ?_
              refine ROps.d (r := i64 r33) (fs := []) (Γ' := [⟨1, some (mXc r4 r5 r6)⟩, ⟨2, some (mXc r32 r33 r35)⟩, ⟨2, none⟩, ⟨1, none⟩]) rfl rfl rfl (TOp.load1_o rfl rfl agg2 rfl rfl) rfl ?_
              refine zm (r := i64 x3) ?_
              refine zl (r := b true) (LOp.eqb (LOp.neq rfl rfl rfl) hc36) ?_
              refine zl (r := b true) (LOp.pick_false rfl rfl rfl) ?_
              refine zN ?_
              exact .inl ⟨(Le.of ⟨aR, aR, aR, aR, aR, trivial⟩ ⟨⟨rfl, .inr rfl⟩, ⟨rfl, .inr rfl⟩, ⟨rfl, .inl rfl⟩, ⟨rfl, .inl rfl⟩, trivial⟩), h⟩
             ·refine RunC.regionW ?_
              refine zl (r := b true) (LOp.eqb (LOp.move rfl rfl) hc28) ?_
              refine zl (r := b false) (LOp.eqb (LOp.not rfl rfl) rfl) ?_
              refine zm (r := b false) ?_
              refine zl (r := b true) (LOp.eqb (LOp.move rfl rfl) hc29) ?_
              refine zl (r := b false) (LOp.eqb (LOp.not rfl rfl) rfl) ?_
              refine zl (r := b false) (LOp.pick_false rfl rfl rfl) ?_
              refine zm (r := b false) ?_
              refine zm (r := (sFc r31)) ?_
              refine zm (r := (sFc r7)) ?_
              refine ROps.d (r := b false) (fs := []) (Γ' := [⟨1, some (mXc r4 r5 r6)⟩, ⟨2, some (mXc r32 r33 r35)⟩, ⟨2, none⟩, ⟨1, none⟩]) rfl rfl rfl (TOp.eqb (TOp.callB (CallAs.func ent16 rfl rfl) (Bors.cons (Bor.sl (fun _ => rfl)) (Bors.cons (Bor.sl (fun _ => rfl)) (Bors.cons (Bor.le (ALe.fl (by kernel_rfl) (by kernel_rfl)) (Bor.pure rfl)) Bors.nil))) rfl rfl (w_b10Far_ok r31 r7 (some 4562254508917369340) r37 hf30)) hc31) rfl ?_
              refine zl (r := b false) (LOp.pick_false rfl rfl rfl) ?_
              refine zm (r := b false) ?_
              refine zm (r := (sFc r36)) ?_
              refine zl (r := i64 (r36.length : Int)) (LOp.len_sl und26 rfl rfl) ?_
              refine zm (r := i64 x3) ?_
              refine zl (r := b false) (LOp.eqb (LOp.neq rfl rfl rfl) hc32) ?_
              refine zl (r := b false) (LOp.pick_false rfl rfl rfl) ?_
              refine zm (r := b false) ?_
              refine ROps.d (r := agg (mXc r32 r33 r35)) (fs := []) (Γ' := [⟨1, some (mXc r4 r5 r6)⟩, ⟨2, some (mXc r32 r33 r35)⟩, ⟨2, none⟩, ⟨1, none⟩]) rfl rfl rfl (TOp.loadAgg_o rfl agg33 siz33 rfl rfl rfl rfl) rfl ?_
              refine ROps.d (r := b true) (fs := []) (Γ' := [⟨1, some (mXc r4 r5 r6)⟩, ⟨2, some (mXc r32 r33 r35)⟩, ⟨2, none⟩, ⟨1, none⟩]) rfl rfl rfl (TOp.eqb (TOp.callB (CallAs.func ent47 rfl rfl) (Bors.cons (Bor.agg (Bors.cons (Bor.pure rfl) (Bors.cons (Bor.pure rfl) (Bors.cons (Bor.sl (fun _ => rfl)) Bors.nil)))) Bors.nil) rfl rfl (s_ValidMatrix_ok r32 r33 r35 r38 hf33)) hc34) rfl ?_
              refine zl (r := b false) (LOp.eqb (LOp.not rfl rfl) rfl) ?_
              refine zl (r := b false) (LOp.pick_false rfl rfl rfl) ?_
              refine zm (r := b false) ?_
              refine zl (r := optr 1 2 0) (LOp.fao und33 rfl siz2 rfl rfl rfl) ?_
              refine ROps.d (r := i64 r32) (fs := []) (Γ' := [⟨1, some (mXc r4 r5 r6)⟩, ⟨2, some (mXc r32 r33 r35)⟩, ⟨2, none⟩, ⟨1, none⟩]) rfl rfl rfl (TOp.load1_o rfl rfl agg2 rfl rfl) rfl ?_
              refine zm (r := i64 x3) ?_
              refine zl (r := b false) (LOp.eqb (LOp.neq rfl rfl rfl) hc35) ?_
              refine zl (r := b false) (LOp.pick_false rfl rfl rfl) ?_
              refine zm (r := b false) ?_
              refine zl (r := optr 1 2 1) (LOp.fao und33 rfl siz2 rfl rfl rfl) ?_
              refine ROps.d (r := i64 r33) (fs := []) (Γ' := [⟨1, some (mXc r4 r5 r6)⟩, ⟨2, some (mXc r32 r33 r35)⟩, ⟨2, none⟩, ⟨1, none⟩]) rfl rfl rfl (TOp.load1_o rfl rfl agg2 rfl rfl) rfl ?_
              refine zm (r := i64 x3) ?_
              refine zl (r := b false) (LOp.eqb (LOp.neq rfl rfl rfl) hc36) ?_
              refine zl (r := b false) (LOp.pick_false rfl rfl rfl) ?_
              refine zN ?_
              exact .inr (⟨(Le.of ⟨aR, aR, aR, aR, aR, trivial⟩ ⟨⟨rfl, .inr rfl⟩, ⟨rfl, .inr rfl⟩, ⟨rfl, .inl rfl⟩, ⟨rfl, .inl rfl⟩, trivial⟩), h⟩)
           ·refine RunC.regionW ?_
            refine zl (r := b true) (LOp.eqb (LOp.move rfl rfl) hc28) ?_
            refine zl (r := b false) (LOp.eqb (LOp.not rfl rfl) rfl) ?_
            refine zm (r := b false) ?_
            refine zl (r := b true) (LOp.eqb (LOp.move rfl rfl) hc29) ?_
            refine zl (r := b false) (LOp.eqb (LOp.not rfl rfl) rfl) ?_
            refine zl (r := b false) (LOp.pick_false rfl rfl rfl) ?_
            refine zm (r := b false) ?_
            refine zm (r := (sFc r31)) ?_
            refine zm (r := (sFc r7)) ?_
            refine ROps.d (r := b false) (fs := []) (Γ' := [⟨1, some (mXc r4 r5 r6)⟩, ⟨2, some (mXc r32 r33 r35)⟩, ⟨2, none⟩, ⟨1, none⟩]) rfl rfl rfl (TOp.eqb (TOp.callB (CallAs.func ent16 rfl rfl) (Bors.cons (Bor.sl (fun _ => rfl)) (Bors.cons (Bor.sl (fun _ => rfl)) (Bors.cons (Bor.le (ALe.fl (by kernel_rfl) (by kernel_rfl)) (Bor.pure rfl)) Bors.nil))) rfl rfl (w_b10Far_ok r31 r7 (some 4562254508917369340) r37 hf30)) hc31) rfl ?_
            refine zl (r := b false) (LOp.pick_false rfl rfl rfl) ?_
            refine zm (r := b false) ?_
            refine zm (r := (sFc r36)) ?_
            refine zl (r := i64 (r36.length : Int)) (LOp.len_sl und26 rfl rfl) ?_
            refine zm (r := i64 x3) ?_
            refine zl (r := b false) (LOp.eqb (LOp.neq rfl rfl rfl) hc32) ?_
            refine zl (r := b false) (LOp.pick_false rfl rfl rfl) ?_
            refine zm (r := b false) ?_
            refine ROps.d (r := agg (mXc r32 r33 r35)) (fs := []) (Γ' := [⟨1, some (mXc r4 r5 r6)⟩, ⟨2, some (mXc r32 r33 r35)⟩, ⟨2, none⟩, ⟨1, none⟩]) rfl rfl rfl (TOp.loadAgg_o rfl agg33 siz33 rfl rfl rfl rfl) rfl ?_
            refine ROps.d (r := b false) (fs := []) (Γ' := [⟨1, some (mXc r4 r5 r6)⟩, ⟨2, some (mXc r32 r33 r35)⟩, ⟨2, none⟩, ⟨1, none⟩]) rfl rfl rfl (TOp.eqb (TOp.callB (CallAs.func ent47 rfl rfl) (Bors.cons (Bor.agg (Bors.cons (Bor.pure rfl) (Bors.cons (Bor.pure rfl) (Bors.cons (Bor.sl (fun _ => rfl)) Bors.nil)))) Bors.nil) rfl rfl (s_ValidMatrix_ok r32 r33 r35 r38 hf33)) hc34) rfl ?_
            refine zl (r := b true) (LOp.eqb (LOp.not rfl rfl) rfl) ?_
            refine zl (r := b true) (LOp.pick_false rfl rfl rfl) ?_
            iterate 2 (refine zm (r := b true) ?_; refine ROps.s rfl rfl rfl ?_; refine ROps.s rfl rfl rfl ?_; refine ROps.s rfl rfl rfl ?_; refine ROps.s rfl rfl rfl ?_; refine zl (r := b true) (LOp.pick_true rfl rfl rfl) ?_)
            refine zN ?_
            exact .inl ⟨(Le.of ⟨aR, aR, aR, aR, aR, trivial⟩ ⟨⟨rfl, .inr rfl⟩, ⟨rfl, .inr rfl⟩, ⟨rfl, .inl rfl⟩, ⟨rfl, .inl rfl⟩, trivial⟩), h⟩
        ·refine RunC.regionW ?_
         refine zl (r := b true) (LOp.eqb (LOp.move rfl rfl) hc28) ?_
         refine zl (r := b false) (LOp.eqb (LOp.not rfl rfl) rfl) ?_
         refine zm (r := b false) ?_
         refine zl (r := b false) (LOp.eqb (LOp.move rfl rfl) hc29) ?_
         refine zl (r := b true) (LOp.eqb (LOp.not rfl rfl) rfl) ?_
         refine zl (r := b true) (LOp.pick_false rfl rfl rfl) ?_
         refine zm (r := b true) ?_
         iterate 2 (refine ROps.s rfl rfl rfl ?_; refine ROps.s rfl rfl rfl ?_; refine ROps.s rfl rfl rfl ?_; refine zl (r := b true) (LOp.pick_true rfl rfl rfl) ?_; refine zm (r := b true) ?_; refine ROps.s rfl rfl rfl ?_)
         iterate 2 (refine ROps.s rfl rfl rfl ?_; refine ROps.s rfl rfl rfl ?_; refine zl (r := b true) (LOp.pick_true rfl rfl rfl) ?_; refine zm (r := b true) ?_; refine ROps.s rfl rfl rfl ?_; refine ROps.s rfl rfl rfl ?_)
         iterate 2 (refine ROps.s rfl rfl rfl ?_)
         refine zl (r := b true) (LOp.pick_true rfl rfl rfl) ?_
         refine zN ?_
         exact .inl ⟨(Le.of ⟨aR, aR, aR, aR, aR, trivial⟩ ⟨⟨rfl, .inr rfl⟩, ⟨rfl, .inr rfl⟩, ⟨rfl, .inl rfl⟩, ⟨rfl, .inl rfl⟩, trivial⟩), h⟩
       ·refine RunC.regionW ?_
        refine zl (r := b false) (LOp.eqb (LOp.move rfl rfl) hc28) ?_
        refine zl (r := b true) (LOp.eqb (LOp.not rfl rfl) rfl) ?_
        refine zm (r := b true) ?_
        iterate 2 (refine ROps.s rfl rfl rfl ?_; refine ROps.s rfl rfl rfl ?_; refine zl (r := b true) (LOp.pick_true rfl rfl rfl) ?_; refine zm (r := b true) ?_; refine ROps.s rfl rfl rfl ?_)
        iterate 2 (refine ROps.s rfl rfl rfl ?_; refine ROps.s rfl rfl rfl ?_; refine ROps.s rfl rfl rfl ?_; refine zl (r := b true) (LOp.pick_true rfl rfl rfl) ?_; refine zm (r := b true) ?_)
        iterate 4 (refine ROps.s rfl rfl rfl ?_)
        refine zl (r := b true) (LOp.pick_true rfl rfl rfl) ?_
        refine zm (r := b true) ?_
        iterate 4 (refine ROps.s rfl rfl rfl ?_)
        refine zl (r := b true) (LOp.pick_true rfl rfl rfl) ?_
        refine zN ?_
        exact .inl ⟨(Le.of ⟨aR, aR, aR, aR, aR, trivial⟩ ⟨⟨rfl, .inr rfl⟩, ⟨rfl, .inr rfl⟩, ⟨rfl, .inl rfl⟩, ⟨rfl, .inl rfl⟩, trivial⟩), h⟩
      ·rintro τ26 Γ26 (⟨hw26, h⟩ | ⟨hw26, h⟩)
       ·refine RunC.le (τ' := [(5, i64 x3), (6, optr 0 1 0), (21, optr 1 2 0), (22, (sFc r36)), (167, b true)]) (Γ' := [⟨1, some (mXc r4 r5 r6)⟩, ⟨2, some (mXc r32 r33 r35)⟩, ⟨2, none⟩, ⟨1, none⟩]) hw26 ?_
        unfold w_FnRoots_k10 at h
        refine RunC.cond_true rfl rfl ?_
        refine zQ ?_
        refine za (r := b false) ?_
        refine zN ?_
        refine RunC.ret ?_
        have hq := Option.some.inj h
        subst q0
        exact bodyQ.pure (.inr rfl) rfl (Res.one rfl (RV.tmp rfl))
       ·refine RunC.le (τ' := [(5, i64 x3), (6, optr 0 1 0), (21, optr 1 2 0), (22, (sFc r36)), (167, b false)]) (Γ' := [⟨1, some (mXc r4 r5 r6)⟩, ⟨2, some (mXc r32 r33 r35)⟩, ⟨2, none⟩, ⟨1, none⟩]) hw26 ?_
        unfold w_FnRoots_k12 at h
        refine RunC.cond_false rfl rfl ?_
        refine RunC.skip ?_
        refine RunC.seq ?_
        obtain ⟨x39, hx37, h⟩ := olet_some h
        obtain ⟨hm38, h⟩ := need_some h
        refine RunC.regionW ?_
        iterate 2 (refine zm (r := i64 x3) ?_)
        refine zl (r := i64 x39) (LOp.eqr (LOp.mul rfl rfl rfl) (congrArg (ik .i64) hx37)) ?_
        refine ROps.d (r := oref 2 3 0 x39.toNat) (fs := [(2, ((List.replicate x39.toNat (some 0)).map f64))]) (Γ' := [⟨1, some (mXc r4 r5 r6)⟩, ⟨2, some (mXc r32 r33 r35)⟩, ⟨3, some ((List.replicate x39.toNat (some 0)).map f64)⟩, ⟨1, none⟩]) rfl rfl rfl (TOp.mkS (g := ⟨2, none⟩) (t := 73) (e := 40) (by_ := 8) (f := f64) (zv := some 0) 2 rfl und73 tin40 rfl siz40 zer40 rfl zel40 rfl rfl rfl hm38) rfl ?_
        refine za (r := oref 2 3 0 x39.toNat) ?_
        refine zN ?_
        refine RunC.seq ?_
        refine zQ ?_
        refine za (r := i64 0) ?_
        refine zN ?_
        obtain ⟨z27, hz_27, h⟩ := obind_some h
        refine RunC.cutN (fun τ Γ => Le 547 τ Γ [(6, optr 0 1 0)] [⟨1, some (mXc r4 r5 r6)⟩, ⟨2, none⟩, ⟨3, none⟩, ⟨1, none⟩] ∧ z27 = .inl ()) ?_ ?_
        ·refine RunC.block (RunC.loop (RunL.loopM (x := z27) (w_FnRoots_s19 x3 r6 r35 r36) (fun (s : (List F) × Int) τ Γ => s.1.length = x39.toNat ∧ Le 547 τ Γ [(5, i64 x3), (6, optr 0 1 0), (21, optr 1 2 0), (22, (sFc r36)), (24, oref 2 3 0 x39.toNat), (25, i64 s.2)] [⟨1, some (mXc r4 r5 r6)⟩, ⟨2, some (mXc r32 r33 r35)⟩, ⟨3, some (s.1.map f64)⟩, ⟨1, none⟩]) ?_ _ _ _ hz_27 ⟨List.length_replicate, (Le.of ⟨aR, aR, aR, aR, aR, aR, trivial⟩ ⟨⟨rfl, .inr rfl⟩, ⟨rfl, .inr rfl⟩, ⟨rfl, .inr rfl⟩, ⟨rfl, .inl rfl⟩, trivial⟩)⟩))
         rintro ⟨L40, v42⟩ τ27 Γ27 y27_ ⟨hl41, hw27⟩ h27_ ho27 hr27
         refine RunC.le (τ' := [(5, i64 x3), (6, optr 0 1 0), (21, optr 1 2 0), (22, (sFc r36)), (24, oref 2 3 0 x39.toNat), (25, i64 v42)]) (Γ' := [⟨1, some (mXc r4 r5 r6)⟩, ⟨2, some (mXc r32 r33 r35)⟩, ⟨3, some (L40.map f64)⟩, ⟨1, none⟩]) hw27 ?_
         replace hl41 : L40.length = x39.toNat := hl41
         replace h27_ : w_FnRoots_b19 x3 r6 r35 r36 L40 v42 = some y27_ := h27_
         unfold w_FnRoots_b19 at h27_
         iterate 2 (refine RunC.seq ?_)
         rcases bsel_some h27_ with ⟨hc39, h27_⟩ | ⟨hc39, h27_⟩
         ·refine RunC.regionW ?_
          refine zm (r := i64 v42) ?_
          refine zm (r := i64 x3) ?_
          refine zl (r := b true) (LOp.eqb (LOp.lss rfl rfl rfl) hc39) ?_
          refine zN ?_
          refine RunC.cond_true rfl rfl ?_
          refine RunC.skip ?_
          refine RunC.seq ?_
          refine RunC.block ?_
          refine zQ ?_
          refine za (r := i64 0) ?_
          refine zN ?_
          obtain ⟨z28, hz_28, h27_⟩ := obind_some h27_
          refine RunC.cutN (fun τ Γ => ∃ (L78 : List F), L78.length = x39.toNat ∧ Le 547 τ Γ [(5, i64 x3), (6, optr 0 1 0), (21, optr 1 2 0), (22, (sFc r36)), (24, oref 2 3 0 x39.toNat), (25, i64 v42)] [⟨1, some (mXc r4 r5 r6)⟩, ⟨2, some (mXc r32 r33 r35)⟩, ⟨3, some (L78.map f64)⟩, ⟨1, none⟩] ∧ z28 = .inl L78) ?_ ?_
          ·refine RunC.block (RunC.loop (RunL.loopM (x := z28) (w_FnRoots_s18 x3 r6 r35 r36 v42) (fun (s : (List F) × Int) τ Γ => s.1.length = x39.toNat ∧ Le 547 τ Γ [(5, i64 x3), (6, optr 0 1 0), (21, optr 1 2 0), (22, (sFc r36)), (24, oref 2 3 0 x39.toNat), (25, i64 v42), (26, i64 s.2)] [⟨1, some (mXc r4 r5 r6)⟩, ⟨2, some (mXc r32 r33 r35)⟩, ⟨3, some (s.1.map f64)⟩, ⟨1, none⟩]) ?_ _ _ _ hz_28 ⟨hl41, (Le.of ⟨aR, aR, aR, aR, aR, aR, aR, trivial⟩ ⟨⟨rfl, .inr rfl⟩, ⟨rfl, .inr rfl⟩, ⟨rfl, .inr rfl⟩, ⟨rfl, .inl rfl⟩, trivial⟩)⟩))
           rintro ⟨L43, v45⟩ τ28 Γ28 y28_ ⟨hl44, hw28⟩ h28_ ho28 hr28
           refine RunC.le (τ' := [(5, i64 x3), (6, optr 0 1 0), (21, optr 1 2 0), (22, (sFc r36)), (24, oref 2 3 0 x39.toNat), (25, i64 v42), (26, i64 v45)]) (Γ' := [⟨1, some (mXc r4 r5 r6)⟩, ⟨2, some (mXc r32 r33 r35)⟩, ⟨3, some (L43.map f64)⟩, ⟨1, none⟩]) hw28 ?_
           replace hl44 : L43.length = x39.toNat := hl44
           replace h28_ : w_FnRoots_b18 x3 r6 r35 r36 v42 L43 v45 = some y28_ := h28_
           unfold w_FnRoots_b18 at h28_
           iterate 2 (refine RunC.seq ?_)
           rcases bsel_some h28_ with ⟨hc40, h28_⟩ | ⟨hc40, h28_⟩
           ·refine RunC.regionW ?_
            refine zm (r := i64 v45) ?_
            refine zm (r := i64 x3) ?_
            refine zl (r := b true) (LOp.eqb (LOp.lss rfl rfl rfl) hc40) ?_
            refine zN ?_
            refine RunC.cond_true rfl rfl ?_
            refine RunC.skip ?_
            refine RunC.seq ?_
            refine RunC.block ?_
            refine RunC.seq ?_
            refine zQ ?_
            refine za (r := i64 0) ?_
            refine zN ?_
            obtain ⟨z29, hz_29, h28_⟩ := obind_some h28_
            refine RunC.cutN (fun τ Γ => ∃ (L67 : List F), L67.length = x39.toNat ∧ Le 547 τ Γ [(5, i64 x3), (6, optr 0 1 0), (21, optr 1 2 0), (22, (sFc r36)), (24, oref 2 3 0 x39.toNat), (25, i64 v42), (26, i64 v45)] [⟨1, some (mXc r4 r5 r6)⟩, ⟨2, some (mXc r32 r33 r35)⟩, ⟨3, some (L67.map f64)⟩, ⟨1, none⟩] ∧ z29 = .inl L67) ?_ ?_
            ·refine RunC.block (RunC.loop (RunL.loopM (x := z29) (w_FnRoots_s17 x3 r35 r36 v42 v45) (fun (s : (List F) × Int) τ Γ => s.1.length = x39.toNat ∧ Le 547 τ Γ [(5, i64 x3), (6, optr 0 1 0), (21, optr 1 2 0), (22, (sFc r36)), (24, oref 2 3 0 x39.toNat), (25, i64 v42), (26, i64 v45), (27, i64 s.2)] [⟨1, some (mXc r4 r5 r6)⟩, ⟨2, some (mXc r32 r33 r35)⟩, ⟨3, some (s.1.map f64)⟩, ⟨1, none⟩]) ?_ _ _ _ hz_29 ⟨hl44, (Le.of ⟨aR, aR, aR, aR, aR, aR, aR, aR, trivial⟩ ⟨⟨rfl, .inr rfl⟩, ⟨rfl, .inr rfl⟩, ⟨rfl, .inr rfl⟩, ⟨rfl, .inl rfl⟩, trivial⟩)⟩))
             rintro ⟨L46, v48⟩ τ29 Γ29 y29_ ⟨hl47, hw29⟩ h29_ ho29 hr29
             refine RunC.le (τ' := [(5, i64 x3), (6, optr 0 1 0), (21, optr 1 2 0), (22, (sFc r36)), (24, oref 2 3 0 x39.toNat), (25, i64 v42), (26, i64 v45), (27, i64 v48)]) (Γ' := [⟨1, some (mXc r4 r5 r6)⟩, ⟨2, some (mXc r32 r33 r35)⟩, ⟨3, some (L46.map f64)⟩, ⟨1, none⟩]) hw29 ?_
             replace hl47 : L46.length = x39.toNat := hl47
             replace h29_ : w_FnRoots_b17 x3 r35 r36 v42 v45 L46 v48 = some y29_ := h29_
             unfold w_FnRoots_b17 at h29_
             iterate 2 (refine RunC.seq ?_)
             rcases bsel_some h29_ with ⟨hc41, h29_⟩ | ⟨hc41, h29_⟩
             ·refine RunC.regionW ?_
              refine zm (r := i64 v48) ?_
              refine zm (r := i64 x3) ?_
              refine zl (r := b true) (LOp.eqb (LOp.lss rfl rfl rfl) hc41) ?_
              refine zN ?_
              refine RunC.cond_true rfl rfl ?_
              refine RunC.skip ?_
              refine RunC.seq ?_
              refine RunC.block ?_
              obtain ⟨x49, hx42, h29_⟩ := olet_some h29_
              obtain ⟨x50, hx43, h29_⟩ := olet_some h29_
              obtain ⟨e51, he44, h29_⟩ := obind_some h29_
              obtain ⟨x52, hx45, h29_⟩ := olet_some h29_
              obtain ⟨x53, hx46, h29_⟩ := olet_some h29_
              obtain ⟨e54, he47, h29_⟩ := obind_some h29_
              obtain ⟨x55, hx48, h29_⟩ := olet_some h29_
              obtain ⟨e56, he49, h29_⟩ := obind_some h29_
              obtain ⟨x57, hx50, h29_⟩ := olet_some h29_
              obtain ⟨x58, hx51, h29_⟩ := olet_some h29_
              obtain ⟨x59, hx52, h29_⟩ := olet_some h29_
              obtain ⟨x60, hx53, h29_⟩ := olet_some h29_
              obtain ⟨e61, he54, h29_⟩ := obind_some h29_
              obtain ⟨x62, hx55, h29_⟩ := olet_some h29_
              obtain ⟨x63, hx56, h29_⟩ := olet_some h29_
              obtain ⟨x64, hx57, h29_⟩ := olet_some h29_
              obtain ⟨L65, he58, h29_⟩ := obind_some h29_
              refine RunC.region_draw (Γ' := [⟨1, some (mXc r4 r5 r6)⟩, ⟨2, some (mXc r32 r33 r35)⟩, ⟨3, some (L46.map f64)⟩, ⟨1, none⟩]) 37 mixed 
               (TR.l (r := oref 2 3 0 x39.toNat) rfl rfl (LOp.move rfl rfl) <|
               (TR.l (r := i64 v42) rfl rfl (LOp.move rfl rfl) <|
               (TR.l (r := i64 x3) rfl rfl (LOp.move rfl rfl) <|
               (TR.l (r := i64 x49) rfl rfl (LOp.eqr (LOp.mul rfl rfl rfl) (congrArg (ik .i64) hx42)) <|
               (TR.l (r := i64 v45) rfl rfl (LOp.move rfl rfl) <|
               (TR.l (r := i64 x50) rfl rfl (LOp.eqr (LOp.add rfl rfl rfl) (congrArg (ik .i64) hx43)) <|
               (TR.d (r := optr 2 3 x50.toNat) (fs := []) rfl rfl (TOp.ixo und73 siz40 rfl rfl rfl (at_in he44 hl47) rfl) <|
               (TR.d (r := f64 e51) (fs := []) rfl rfl (TOp.load1_o rfl (at_cell he44) agg40 rfl rfl) <|
               (TR.l (r := optr 1 2 2) rfl rfl (LOp.fao und33 rfl siz26 rfl rfl rfl) <|
               (TR.d (r := (sFc r35)) (fs := []) rfl rfl (TOp.load1_o rfl rfl agg26 rfl rfl) <|
               (TR.l (r := i64 v42) rfl rfl (LOp.move rfl rfl) <|
               (TR.l (r := i64 x3) rfl rfl (LOp.move rfl rfl) <|
               (TR.l (r := i64 x52) rfl rfl (LOp.eqr (LOp.mul rfl rfl rfl) (congrArg (ik .i64) hx45)) <|
               (TR.l (r := i64 v48) rfl rfl (LOp.move rfl rfl) <|
               (TR.l (r := i64 x53) rfl rfl (LOp.eqr (LOp.add rfl rfl rfl) (congrArg (ik .i64) hx46)) <|
               (TR.l (r := ptr [f32 e54]) rfl rfl (LOp.le (LOp.ix (f := f32) und26 siz28 rfl rfl rfl rfl he47) ALe.ptr) <|
               (TR.l (r := f32 e54) rfl rfl (LOp.load1 agg28 rfl rfl) <|
               (TR.d (r := f64 x55) (fs := []) rfl rfl (TOp.eqr (TOp.widen (src := 28) (dst := 40) ⟨_, pun28⟩ pun40 rfl (OpF.tmp rfl)) (congrArg (f .f64) hx48)) <|
               (TR.l (r := (sFc r36)) rfl rfl (LOp.move rfl rfl) <|
               (TR.l (r := i64 v48) rfl rfl (LOp.move rfl rfl) <|
               (TR.l (r := ptr [f32 e56]) rfl rfl (LOp.le (LOp.ix (f := f32) und26 siz28 rfl rfl rfl rfl he49) ALe.ptr) <|
               (TR.l (r := f32 e56) rfl rfl (LOp.load1 agg28 rfl rfl) <|
               (TR.d (r := f64 x57) (fs := []) rfl rfl (TOp.eqr (TOp.widen (src := 28) (dst := 40) ⟨_, pun28⟩ pun40 rfl (OpF.tmp rfl)) (congrArg (f .f64) hx50)) <|
               (TR.d (r := f64 x58) (fs := []) rfl rfl (TOp.eqr (TOp.fop (.inr (.inr (.inl rfl))) rfl (OpF.tmp rfl) (OpF.tmp rfl)) (congrArg (f .f64) hx51)) <|
               (TR.l (r := optr 1 2 2) rfl rfl (LOp.fao und33 rfl siz26 rfl rfl rfl) <|
               (TR.d (r := (sFc r35)) (fs := []) rfl rfl (TOp.load1_o rfl rfl agg26 rfl rfl) <|
               (TR.l (r := i64 v45) rfl rfl (LOp.move rfl rfl) <|
               (TR.l (r := i64 x3) rfl rfl (LOp.move rfl rfl) <|
               (TR.l (r := i64 x59) rfl rfl (LOp.eqr (LOp.mul rfl rfl rfl) (congrArg (ik .i64) hx52)) <|
               (TR.l (r := i64 v48) rfl rfl (LOp.move rfl rfl) <|
               (TR.l (r := i64 x60) rfl rfl (LOp.eqr (LOp.add rfl rfl rfl) (congrArg (ik .i64) hx53)) <|
               (TR.l (r := ptr [f32 e61]) rfl rfl (LOp.le (LOp.ix (f := f32) und26 siz28 rfl rfl rfl rfl he54) ALe.ptr) <|
               (TR.l (r := f32 e61) rfl rfl (LOp.load1 agg28 rfl rfl) <|
               (TR.d (r := f64 x62) (fs := []) rfl rfl (TOp.eqr (TOp.widen (src := 28) (dst := 40) ⟨_, pun28⟩ pun40 rfl (OpF.tmp rfl)) (congrArg (f .f64) hx55)) <|
               (TR.d (r := f64 x63) (fs := []) rfl rfl (TOp.eqr (TOp.fop (.inr (.inr (.inl rfl))) rfl (OpF.tmp rfl) (OpF.tmp rfl)) (congrArg (f .f64) hx56)) <|
               (TR.d (r := f64 x64) (fs := []) rfl rfl (TOp.eqr (TOp.fop (.inl rfl) rfl (OpF.tmp rfl) (OpF.tmp rfl)) (congrArg (f .f64) hx57)) <|
               (TR.d (r := optr 2 3 x50.toNat) (fs := []) rfl rfl (TOp.ixo und73 siz40 rfl rfl rfl (set_in he58 hl47) rfl) <|
               TR.nil))))))))))))))))))))))))))))))))))))) rfl (by kernel_rfl) rfl fills_nil rfl ?_
              iterate 37 refine ROps.dropS ?_
              refine ROps.drop0 ?_
              refine ROps.st (f := f64) (i := x50) (Γ' := [⟨1, some (mXc r4 r5 r6)⟩, ⟨2, some (mXc r32 r33 r35)⟩, ⟨3, some (L65.map f64)⟩, ⟨1, none⟩]) rfl siz40 rfl rfl rfl aR rfl rfl rfl he58 rfl ?_
              refine zN ?_
              refine RunC.wl (τ' := [(5, i64 x3), (6, optr 0 1 0), (21, optr 1 2 0), (22, (sFc r36)), (24, oref 2 3 0 x39.toNat), (25, i64 v42), (26, i64 v45), (27, i64 v48)]) (Γ' := [⟨1, some (mXc r4 r5 r6)⟩, ⟨2, some (mXc r32 r33 r35)⟩, ⟨3, some (L65.map f64)⟩, ⟨1, none⟩]) ⟨aR, aR, aR, aR, aR, aR, aR, aR, trivial⟩ ⟨⟨rfl, .inr rfl⟩, ⟨rfl, .inr rfl⟩, ⟨rfl, .inr rfl⟩, ⟨rfl, .inl rfl⟩, trivial⟩ ?_
              obtain ⟨x66, hx59, h29_⟩ := olet_some h29_
              refine RunC.regionW ?_
              refine zm (r := i64 v48) ?_
              refine zl (r := i64 x66) (LOp.eqr (LOp.add rfl rfl rfl) (congrArg (ik .i64) hx59)) ?_
              refine za (r := i64 x66) ?_
              refine zN ?_
              cases Option.some.inj h29_
              exact ⟨_, rfl, ((setAt?_len he58).trans hl47), (Le.of ⟨aR, aR, aR, aR, aR, aR, aR, aR, trivial⟩ ⟨⟨rfl, .inr rfl⟩, ⟨rfl, .inr rfl⟩, ⟨rfl, .inr rfl⟩, ⟨rfl, .inl rfl⟩, trivial⟩)⟩
             ·refine RunC.regionW ?_
              refine zm (r := i64 v48) ?_
              refine zm (r := i64 x3) ?_
              refine zl (r := b false) (LOp.eqb (LOp.lss rfl rfl rfl) hc41) ?_
              refine zN ?_
              refine RunC.cond_false rfl rfl ?_
              refine RunC.exit ?_
              cases Option.some.inj h29_
              have hx := ho29 _ rfl
              exact ⟨L46, hl47, (Le.of ⟨aR, aR, aR, aR, aR, aR, aR, trivial⟩ ⟨⟨rfl, .inr rfl⟩, ⟨rfl, .inr rfl⟩, ⟨rfl, .inr rfl⟩, ⟨rfl, .inl rfl⟩, trivial⟩), hx⟩
            ·rintro τ30 Γ30 ⟨L67, hl68, hw30, rfl⟩
             refine RunC.le hw30 ?_
             replace h28_ : w_FnRoots_k17 x3 r6 v42 v45 L67 = some y28_ := h28_
             unfold w_FnRoots_k17 at h28_
             refine RunC.seq ?_
             obtain ⟨x69, hx60, h28_⟩ := olet_some h28_
             obtain ⟨x70, hx61, h28_⟩ := olet_some h28_
             obtain ⟨e71, he62, h28_⟩ := obind_some h28_
             obtain ⟨x72, hx63, h28_⟩ := olet_some h28_
             obtain ⟨x73, hx64, h28_⟩ := olet_some h28_
             obtain ⟨e74, he65, h28_⟩ := obind_some h28_
             obtain ⟨x75, hx66, h28_⟩ := olet_some h28_
             obtain ⟨r76, hf67, h28_⟩ := obind_some h28_
             rcases bsel_some h28_ with ⟨hc68, h28_⟩ | ⟨hc68, h28_⟩
             ·refine RunC.region_draw (Γ' := [⟨1, some (mXc r4 r5 r6)⟩, ⟨2, some (mXc r32 r33 r35)⟩, ⟨3, some (L67.map f64)⟩, ⟨1, none⟩]) 20 mixed 
               (TR.l (r := oref 2 3 0 x39.toNat) rfl rfl (LOp.move rfl rfl) <|
               (TR.l (r := i64 v42) rfl rfl (LOp.move rfl rfl) <|
               (TR.l (r := i64 x3) rfl rfl (LOp.move rfl rfl) <|
               (TR.l (r := i64 x69) rfl rfl (LOp.eqr (LOp.mul rfl rfl rfl) (congrArg (ik .i64) hx60)) <|
               (TR.l (r := i64 v45) rfl rfl (LOp.move rfl rfl) <|
               (TR.l (r := i64 x70) rfl rfl (LOp.eqr (LOp.add rfl rfl rfl) (congrArg (ik .i64) hx61)) <|
               (TR.d (r := optr 2 3 x70.toNat) (fs := []) rfl rfl (TOp.ixo und73 siz40 rfl rfl rfl (at_in he62 hl68) rfl) <|
               (TR.d (r := f64 e71) (fs := []) rfl rfl (TOp.load1_o rfl (at_cell he62) agg40 rfl rfl) <|
               (TR.l (r := optr 0 1 2) rfl rfl (LOp.fao und33 rfl siz26 rfl rfl rfl) <|
               (TR.d (r := (sFc r6)) (fs := []) rfl rfl (TOp.load1_o rfl rfl agg26 rfl rfl) <|
               (TR.l (r := i64 v42) rfl rfl (LOp.move rfl rfl) <|
               (TR.l (r := i64 x3) rfl rfl (LOp.move rfl rfl) <|
               (TR.l (r := i64 x72) rfl rfl (LOp.eqr (LOp.mul rfl rfl rfl) (congrArg (ik .i64) hx63)) <|
               (TR.l (r := i64 v45) rfl rfl (LOp.move rfl rfl) <|
               (TR.l (r := i64 x73) rfl rfl (LOp.eqr (LOp.add rfl rfl rfl) (congrArg (ik .i64) hx64)) <|
               (TR.l (r := ptr [f32 e74]) rfl rfl (LOp.le (LOp.ix (f := f32) und26 siz28 rfl rfl rfl rfl he65) ALe.ptr) <|
               (TR.l (r := f32 e74) rfl rfl (LOp.load1 agg28 rfl rfl) <|
               (TR.d (r := f64 x75) (fs := []) rfl rfl (TOp.eqr (TOp.widen (src := 28) (dst := 40) ⟨_, pun28⟩ pun40 rfl (OpF.tmp rfl)) (congrArg (f .f64) hx66)) <|
               (TR.d (r := f64 r76) (fs := []) rfl rfl (TOp.callB (CallAs.func ent53 rfl rfl) (Bors.cons (Bor.pure rfl) (Bors.cons (Bor.pure rfl) Bors.nil)) rfl rfl (w_b10Gap_ok e71 x75 r76 hf67)) <|
               (TR.l (r := b true) rfl rfl (LOp.eqb (LOp.fgt rfl (OpF.tmp rfl) (OpF.const rfl (by kernel_rfl) (by kernel_rfl))) hc68) <|
               TR.nil)))))))))))))))))))) rfl (by kernel_rfl) rfl fills_nil rfl ?_
              iterate 20 refine ROps.dropS ?_
              refine ROps.drop0 ?_
              refine zN ?_
              refine RunC.wl (τ' := [(5, i64 x3), (6, optr 0 1 0), (21, optr 1 2 0), (22, (sFc r36)), (24, oref 2 3 0 x39.toNat), (25, i64 v42), (26, i64 v45), (243, b true)]) (Γ' := [⟨1, some (mXc r4 r5 r6)⟩, ⟨2, some (mXc r32 r33 r35)⟩, ⟨3, some (L67.map f64)⟩, ⟨1, none⟩]) ⟨aR, aR, aR, aR, aR, aR, aR, aR, trivial⟩ ⟨⟨rfl, .inr rfl⟩, ⟨rfl, .inr rfl⟩, ⟨rfl, .inr rfl⟩, ⟨rfl, .inl rfl⟩, trivial⟩ ?_
              refine RunC.cond_true rfl rfl ?_
              refine zQ ?_
              refine za (r := b false) ?_
              refine zN ?_
              refine RunC.ret ?_
              cases Option.some.inj h28_
              have hx31_ := hr28 _ rfl
              subst hx31_
              cases Option.some.inj h27_
              have hx32_ := hr27 _ rfl
              subst hx32_
              have hq := Option.some.inj h
              subst q0
              exact bodyQ.pure (.inr rfl) rfl (Res.one rfl (RV.tmp rfl))
             ·refine RunC.region_draw (Γ' := [⟨1, some (mXc r4 r5 r6)⟩, ⟨2, some (mXc r32 r33 r35)⟩, ⟨3, some (L67.map f64)⟩, ⟨1, none⟩]) 20 mixed 
               (TR.l (r := oref 2 3 0 x39.toNat) rfl rfl (LOp.move rfl rfl) <|
               (TR.l (r := i64 v42) rfl rfl (LOp.move rfl rfl) <|
               (TR.l (r := i64 x3) rfl rfl (LOp.move rfl rfl) <|
               (TR.l (r := i64 x69) rfl rfl (LOp.eqr (LOp.mul rfl rfl rfl) (congrArg (ik .i64) hx60)) <|
               (TR.l (r := i64 v45) rfl rfl (LOp.move rfl rfl) <|
               (TR.l (r := i64 x70) rfl rfl (LOp.eqr (LOp.add rfl rfl rfl) (congrArg (ik .i64) hx61)) <|
               (TR.d (r := optr 2 3 x70.toNat) (fs := []) rfl rfl (TOp.ixo und73 siz40 rfl rfl rfl (at_in he62 hl68) rfl) <|
               (TR.d (r := f64 e71) (fs := []) rfl rfl (TOp.load1_o rfl (at_cell he62) agg40 rfl rfl) <|
               (TR.l (r := optr 0 1 2) rfl rfl (LOp.fao und33 rfl siz26 rfl rfl rfl) <|
               (TR.d (r := (sFc r6)) (fs := []) rfl rfl (TOp.load1_o rfl rfl agg26 rfl rfl) <|
               (TR.l (r := i64 v42) rfl rfl (LOp.move rfl rfl) <|
               (TR.l (r := i64 x3) rfl rfl (LOp.move rfl rfl) <|
               (TR.l (r := i64 x72) rfl rfl (LOp.eqr (LOp.mul rfl rfl rfl) (congrArg (ik .i64) hx63)) <|
               (TR.l (r := i64 v45) rfl rfl (LOp.move rfl rfl) <|
               (TR.l (r := i64 x73) rfl rfl (LOp.eqr (LOp.add rfl rfl rfl) (congrArg (ik .i64) hx64)) <|
               (TR.l (r := ptr [f32 e74]) rfl rfl (LOp.le (LOp.ix (f := f32) und26 siz28 rfl rfl rfl rfl he65) ALe.ptr) <|
               (TR.l (r := f32 e74) rfl rfl (LOp.load1 agg28 rfl rfl) <|
               (TR.d (r := f64 x75) (fs := []) rfl rfl (TOp.eqr (TOp.widen (src := 28) (dst := 40) ⟨_, pun28⟩ pun40 rfl (OpF.tmp rfl)) (congrArg (f .f64) hx66)) <|
               (TR.d (r := f64 r76) (fs := []) rfl rfl (TOp.callB (CallAs.func ent53 rfl rfl) (Bors.cons (Bor.pure rfl) (Bors.cons (Bor.pure rfl) Bors.nil)) rfl rfl (w_b10Gap_ok e71 x75 r76 hf67)) <|
               (TR.l (r := b false) rfl rfl (LOp.eqb (LOp.fgt rfl (OpF.tmp rfl) (OpF.const rfl (by kernel_rfl) (by kernel_rfl))) hc68) <|
               TR.nil)))))))))))))))))))) rfl (by kernel_rfl) rfl fills_nil rfl ?_
              iterate 20 refine ROps.dropS ?_
              refine ROps.drop0 ?_
              refine zN ?_
              refine RunC.wl (τ' := [(5, i64 x3), (6, optr 0 1 0), (21, optr 1 2 0), (22, (sFc r36)), (24, oref 2 3 0 x39.toNat), (25, i64 v42), (26, i64 v45), (243, b false)]) (Γ' := [⟨1, some (mXc r4 r5 r6)⟩, ⟨2, some (mXc r32 r33 r35)⟩, ⟨3, some (L67.map f64)⟩, ⟨1, none⟩]) ⟨aR, aR, aR, aR, aR, aR, aR, aR, trivial⟩ ⟨⟨rfl, .inr rfl⟩, ⟨rfl, .inr rfl⟩, ⟨rfl, .inr rfl⟩, ⟨rfl, .inl rfl⟩, trivial⟩ ?_
              refine RunC.cond_false rfl rfl ?_
              refine RunC.skip ?_
              obtain ⟨x77, hx69, h28_⟩ := olet_some h28_
              refine RunC.regionW ?_
              refine zm (r := i64 v45) ?_
              refine zl (r := i64 x77) (LOp.eqr (LOp.add rfl rfl rfl) (congrArg (ik .i64) hx69)) ?_
              refine za (r := i64 x77) ?_
              refine zN ?_
              cases Option.some.inj h28_
              exact ⟨_, rfl, hl68, (Le.of ⟨aR, aR, aR, aR, aR, aR, aR, trivial⟩ ⟨⟨rfl, .inr rfl⟩, ⟨rfl, .inr rfl⟩, ⟨rfl, .inr rfl⟩, ⟨rfl, .inl rfl⟩, trivial⟩)⟩
           ·refine RunC.regionW ?_
            refine zm (r := i64 v45) ?_
            refine zm (r := i64 x3) ?_
            refine zl (r := b false) (LOp.eqb (LOp.lss rfl rfl rfl) hc40) ?_
            refine zN ?_
            refine RunC.cond_false rfl rfl ?_
            refine RunC.exit ?_
            cases Option.some.inj h28_
            have hx := ho28 _ rfl
            exact ⟨L43, hl44, (Le.of ⟨aR, aR, aR, aR, aR, aR, trivial⟩ ⟨⟨rfl, .inr rfl⟩, ⟨rfl, .inr rfl⟩, ⟨rfl, .inr rfl⟩, ⟨rfl, .inl rfl⟩, trivial⟩), hx⟩
          ·rintro τ33 Γ33 ⟨L78, hl79, hw33, rfl⟩
           refine RunC.le hw33 ?_
           replace h27_ : w_FnRoots_k18 v42 L78 = some y27_ := h27_
           unfold w_FnRoots_k18 at h27_
           obtain ⟨x80, hx70, h27_⟩ := olet_some h27_
           refine RunC.regionW ?_
           refine zm (r := i64 v42) ?_
           refine zl (r := i64 x80) (LOp.eqr (LOp.add rfl rfl rfl) (congrArg (ik .i64) hx70)) ?_
           refine za (r := i64 x80) ?_
           refine zN ?_
           cases Option.some.inj h27_
           exact ⟨_, rfl, hl79, (Le.of ⟨aR, aR, aR, aR, aR, aR, trivial⟩ ⟨⟨rfl, .inr rfl⟩, ⟨rfl, .inr rfl⟩, ⟨rfl, .inr rfl⟩, ⟨rfl, .inl rfl⟩, trivial⟩)⟩
         ·refine RunC.regionW ?_
          refine zm (r := i64 v42) ?_
          refine zm (r := i64 x3) ?_
          refine zl (r := b false) (LOp.eqb (LOp.lss rfl rfl rfl) hc39) ?_
          refine zN ?_
          refine RunC.cond_false rfl rfl ?_
          refine RunC.exit ?_
          cases Option.some.inj h27_
          have hx := ho27 _ rfl
          exact ⟨(Le.of ⟨aR, trivial⟩ ⟨⟨rfl, .inr rfl⟩, ⟨rfl, .inl rfl⟩, ⟨rfl, .inl rfl⟩, ⟨rfl, .inl rfl⟩, trivial⟩), hx⟩
        ·rintro τ34 Γ34 ⟨hw34, rfl⟩
         refine RunC.le hw34 ?_
         replace h : w_FnRoots_k19 r4 r5 r6 = some q0 := h
         unfold w_FnRoots_k19 at h
         refine zQ ?_
         refine ROps.d (r := agg (mXc r4 r5 r6)) (fs := []) (Γ' := [⟨1, some (mXc r4 r5 r6)⟩, ⟨2, none⟩, ⟨3, none⟩, ⟨1, none⟩]) rfl rfl rfl (TOp.loadAgg_o rfl agg33 siz33 rfl rfl rfl rfl) rfl ?_
         refine ROps.d (r := optr 1 3 0) (fs := [(1, zMx)]) (Γ' := [⟨1, some (mXc r4 r5 r6)⟩, ⟨3, some zMx⟩, ⟨3, none⟩, ⟨1, none⟩]) rfl rfl rfl (TOp.alloc_o (g := ⟨2, none⟩) 1 rfl zer33 zok33 rfl) rfl ?_
         refine ROps.store_le (r := agg (mXc r4 r5 r6)) (l' := (mXc r4 r5 r6)) (Γ' := [⟨1, some (mXc r4 r5 r6)⟩, ⟨3, some (mXc r4 r5 r6)⟩, ⟨3, none⟩, ⟨1, none⟩]) rfl siz33 rfl rfl rfl aR rfl rfl rfl rfl (Nat.le_of_ble_eq_true rfl) rfl rfl ?_
         refine zN ?_
         refine RunC.seq ?_
         obtain ⟨hm71, h⟩ := need_some h
         refine RunC.regionW ?_
         refine ROps.d (r := oref 2 4 0 0) (fs := [(2, (([] : List F).map f32))]) (Γ' := [⟨1, some (mXc r4 r5 r6)⟩, ⟨3, some (mXc r4 r5 r6)⟩, ⟨4, some (([] : List F).map f32)⟩, ⟨1, none⟩]) rfl rfl rfl (TOp.buildSlice_o (g := ⟨3, none⟩) (za := f32 (some 0)) (qs := []) 2 rfl und26 siz28 zer28 rfl zel28 rfl rfl trivial rfl) rfl ?_
         refine zl (r := optr 0 1 2) (LOp.fao und33 rfl siz26 rfl rfl rfl) ?_
         refine ROps.d (r := (sFc r6)) (fs := []) (Γ' := [⟨1, some (mXc r4 r5 r6)⟩, ⟨3, some (mXc r4 r5 r6)⟩, ⟨4, some (([] : List F).map f32)⟩, ⟨1, none⟩]) rfl rfl rfl (TOp.load1_o rfl rfl agg26 rfl rfl) rfl ?_
         refine ROps.app (f := f32) (xs := ([] : List F)) (ys := r6) (Γ' := [⟨1, some (mXc r4 r5 r6)⟩, ⟨3, some (mXc r4 r5 r6)⟩, ⟨5, some ((([] : List F) ++ r6).map f32)⟩, ⟨1, none⟩]) rfl pun26 inf28 rfl rfl rfl rfl rfl rfl rfl rfl rfl (by simp) (ReadAs.sl (by simp)) (ones_map (fun _ => rfl)) (ap_by hm71) (ap_mx hm71) rfl ?_
         refine zl (r := optr 1 3 2) (LOp.fao und33 rfl siz26 rfl rfl rfl) ?_
         refine ROps.store_le (r := oref 2 5 0 (0 + r6.length)) (l' := [i64 r4, i64 r5, oref 2 5 0 (0 + r6.length)]) (Γ' := [⟨1, some (mXc r4 r5 r6)⟩, ⟨3, some [i64 r4, i64 r5, oref 2 5 0 (0 + r6.length)]⟩, ⟨5, some ((([] : List F) ++ r6).map f32)⟩, ⟨1, none⟩]) rfl siz26 rfl rfl rfl aR rfl rfl rfl rfl (Nat.le_of_ble_eq_true rfl) rfl rfl ?_
         refine zN ?_
         refine RunC.wl (τ' := [(28, optr 1 3 0)]) (Γ' := [⟨1, none⟩, ⟨3, some [i64 r4, i64 r5, oref 2 5 0 (0 + r6.length)]⟩, ⟨5, some ((([] : List F) ++ r6).map f32)⟩, ⟨1, none⟩]) ⟨aR, trivial⟩ ⟨⟨rfl, .inl rfl⟩, ⟨rfl, .inr rfl⟩, ⟨rfl, .inr rfl⟩, ⟨rfl, .inl rfl⟩, trivial⟩ ?_
         refine RunC.seq ?_
         obtain ⟨L81, he72, h⟩ := obind_some h
         refine RunC.regionW ?_
         refine zl (r := optr 1 3 2) (LOp.fao und33 rfl siz26 rfl rfl rfl) ?_
         refine ROps.d (r := oref 2 5 0 (0 + r6.length)) (fs := []) (Γ' := [⟨1, none⟩, ⟨3, some [i64 r4, i64 r5, oref 2 5 0 (0 + r6.length)]⟩, ⟨5, some ((([] : List F) ++ r6).map f32)⟩, ⟨1, none⟩]) rfl rfl rfl (TOp.load1_o rfl rfl agg26 rfl rfl) rfl ?_
         refine ROps.d (r := optr 2 5 ((0 : Int).toNat)) (fs := []) (Γ' := [⟨1, none⟩, ⟨3, some [i64 r4, i64 r5, oref 2 5 0 (0 + r6.length)]⟩, ⟨5, some ((([] : List F) ++ r6).map f32)⟩, ⟨1, none⟩]) rfl rfl rfl (TOp.ixo und26 siz28 rfl rfl rfl (set_in he72 (app_len rfl rfl)) rfl) rfl ?_
         refine ROps.st (f := f32) (i := 0) (Γ' := [⟨1, none⟩, ⟨3, some [i64 r4, i64 r5, oref 2 5 0 (0 + r6.length)]⟩, ⟨5, some (L81.map f32)⟩, ⟨1, none⟩]) rfl siz28 rfl rfl rfl (ALe.fl (by kernel_rfl) (by kernel_rfl)) rfl rfl rfl he72 rfl ?_
         refine zN ?_
         refine RunC.seq ?_
         obtain ⟨r82, r83, r84, r85, hf73, h⟩ := obind4_some h
         refine RunC.regionW ?_
         refine ROps.d (r := agg [i64 r4, i64 r5, oref 2 5 0 (0 + r6.length)]) (fs := []) (Γ' := [⟨1, none⟩, ⟨3, some [i64 r4, i64 r5, oref 2 5 0 (0 + r6.length)]⟩, ⟨5, some (L81.map f32)⟩, ⟨1, none⟩]) rfl rfl rfl (TOp.loadAgg_o rfl agg33 siz33 rfl rfl rfl rfl) rfl ?_
         refine ROps.d (r := tup [agg (oXc r82 r83 0 2 r85.length), b r84]) (fs := [(0, (r85.map f32))]) (Γ' := [⟨2, some (r85.map f32)⟩, ⟨3, some [i64 r4, i64 r5, oref 2 5 0 (0 + r6.length)]⟩, ⟨5, some (L81.map f32)⟩, ⟨1, none⟩]) rfl rfl rfl (TOp.callBN (ls := [(r85.map f32)]) [0] (CallAs.func ent44 rfl rfl) (Bors.cons (Bor.agg (Bors.cons (Bor.pure rfl) (Bors.cons (Bor.pure rfl) (Bors.cons (Bor.own (f := f32) (fun _ => rfl) rfl (show L81.length = (0 + r6.length) from ((setAt?_len he72).trans (app_len rfl rfl)))) Bors.nil)))) Bors.nil) rfl (i_RootOfSquare_ok r4 r5 L81 r82 r83 r84 r85 hf73) (and_all (lts0_map (f := f32) (fun _ => rfl) _) rfl) (and_all (noss_map (f := f32) (fun _ => rfl) _) rfl) rfl (by decide) (ns_of ⟨⟨_, rfl⟩, trivial⟩)) rfl ?_
         refine zm (r := tup [agg (oXc r82 r83 0 2 r85.length), b r84]) ?_
         refine zl (r := agg (oXc r82 r83 0 2 r85.length)) (LOp.extract rfl rfl rfl) ?_
         refine zl (r := b r84) (LOp.extract rfl rfl rfl) ?_
         refine ROps.d (r := optr 3 2 0) (fs := [(3, zMx)]) (Γ' := [⟨2, some (r85.map f32)⟩, ⟨3, some [i64 r4, i64 r5, oref 2 5 0 (0 + r6.length)]⟩, ⟨5, some (L81.map f32)⟩, ⟨2, some zMx⟩]) rfl rfl rfl (TOp.alloc_o (g := ⟨1, none⟩) 3 rfl zer33 zok33 rfl) rfl ?_
         refine ROps.store_le (r := agg (oXc r82 r83 0 2 r85.length)) (l' := (oXc r82 r83 0 2 r85.length)) (Γ' := [⟨2, some (r85.map f32)⟩, ⟨3, some [i64 r4, i64 r5, oref 2 5 0 (0 + r6.length)]⟩, ⟨5, some (L81.map f32)⟩, ⟨2, some (oXc r82 r83 0 2 r85.length)⟩]) rfl siz33 rfl rfl rfl aR rfl rfl rfl rfl (Nat.le_of_ble_eq_true rfl) rfl rfl ?_
         refine za (r := b r84) ?_
         refine zN ?_
         refine RunC.wl (τ' := [(28, optr 1 3 0), (30, b r84)]) (Γ' := [⟨2, none⟩, ⟨3, some [i64 r4, i64 r5, oref 2 5 0 (0 + r6.length)]⟩, ⟨5, some (L81.map f32)⟩, ⟨2, none⟩]) ⟨aR, aR, trivial⟩ ⟨⟨rfl, .inl rfl⟩, ⟨rfl, .inr rfl⟩, ⟨rfl, .inr rfl⟩, ⟨rfl, .inl rfl⟩, trivial⟩ ?_
         refine RunC.seq ?_
         obtain ⟨r86, r87, r88, r89, r90, hf74, h⟩ := obind5_some h
         refine RunC.regionW ?_
         refine ROps.d (r := agg [i64 r4, i64 r5, oref 2 5 0 (0 + r6.length)]) (fs := []) (Γ' := [⟨2, none⟩, ⟨3, some [i64 r4, i64 r5, oref 2 5 0 (0 + r6.length)]⟩, ⟨5, some (L81.map f32)⟩, ⟨2, none⟩]) rfl rfl rfl (TOp.loadAgg_o rfl agg33 siz33 rfl rfl rfl rfl) rfl ?_
         refine ROps.d (r := tup [agg (oXc r86 r87 0 3 r90.length), f32 r88, b r89]) (fs := [(0, (r90.map f32))]) (Γ' := [⟨3, some (r90.map f32)⟩, ⟨3, some [i64 r4, i64 r5, oref 2 5 0 (0 + r6.length)]⟩, ⟨5, some (L81.map f32)⟩, ⟨2, none⟩]) rfl rfl rfl (TOp.callBN (ls := [(r90.map f32)]) [0] (CallAs.func ent45 rfl rfl) (Bors.cons (Bor.agg (Bors.cons (Bor.pure rfl) (Bors.cons (Bor.pure rfl) (Bors.cons (Bor.own (f := f32) (fun _ => rfl) rfl (show L81.length = (0 + r6.length) from ((setAt?_len he72).trans (app_len rfl rfl)))) Bors.nil)))) (Bors.cons (Bor.le (ALe.fl (by kernel_rfl) (by kernel_rfl)) (Bor.pure rfl)) Bors.nil)) rfl (i_RootShifted_ok r4 r5 L81 (some 1056964608) r86 r87 r88 r89 r90 hf74) (and_all (lts0_map (f := f32) (fun _ => rfl) _) rfl) (and_all (noss_map (f := f32) (fun _ => rfl) _) rfl) rfl (by decide) (ns_of ⟨⟨_, rfl⟩, trivial⟩)) rfl ?_
         refine zm (r := tup [agg (oXc r86 r87 0 3 r90.length), f32 r88, b r89]) ?_
         refine zl (r := agg (oXc r86 r87 0 3 r90.length)) (LOp.extract rfl rfl rfl) ?_
         refine zl (r := f32 r88) (LOp.extract rfl rfl rfl) ?_
         refine zl (r := b r89) (LOp.extract rfl rfl rfl) ?_
         refine ROps.d (r := optr 3 3 0) (fs := [(3, zMx)]) (Γ' := [⟨3, some (r90.map f32)⟩, ⟨3, some [i64 r4, i64 r5, oref 2 5 0 (0 + r6.length)]⟩, ⟨5, some (L81.map f32)⟩, ⟨3, some zMx⟩]) rfl rfl rfl (TOp.alloc_o (g := ⟨2, none⟩) 3 rfl zer33 zok33 rfl) rfl ?_
         refine ROps.store_le (r := agg (oXc r86 r87 0 3 r90.length)) (l' := (oXc r86 r87 0 3 r90.length)) (Γ' := [⟨3, some (r90.map f32)⟩, ⟨3, some [i64 r4, i64 r5, oref 2 5 0 (0 + r6.length)]⟩, ⟨5, some (L81.map f32)⟩, ⟨3, some (oXc r86 r87 0 3 r90.length)⟩]) rfl siz33 rfl rfl rfl aR rfl rfl rfl rfl (Nat.le_of_ble_eq_true rfl) rfl rfl ?_
         refine za (r := f32 r88) ?_
         refine za (r := b r89) ?_
         refine zN ?_
         refine RunC.wl (τ' := [(30, b r84), (32, f32 r88), (33, b r89)]) (Γ' := [⟨3, none⟩, ⟨3, none⟩, ⟨5, none⟩, ⟨3, none⟩]) ⟨aR, aR, aR, trivial⟩ ⟨⟨rfl, .inl rfl⟩, ⟨rfl, .inl rfl⟩, ⟨rfl, .inl rfl⟩, ⟨rfl, .inl rfl⟩, trivial⟩ ?_
         refine RunC.seq ?_
         refine RunC.cutN (fun τ Γ => ( Le 547 τ Γ [(4, b false)] [⟨3, none⟩, ⟨3, none⟩, ⟨5, none⟩, ⟨3, none⟩] ∧ w_FnRoots_k21 = some q0) ∨ ( Le 547 τ Γ [(4, b (fle .f32 (some 1077936128) r88))] [⟨3, none⟩, ⟨3, none⟩, ⟨5, none⟩, ⟨3, none⟩] ∧ w_FnRoots_k23 r88 = some q0)) ?_ ?_
         ·rcases bsel_some h with ⟨hc75, h⟩ | ⟨hc75, h⟩
          ·refine RunC.regionW ?_
           refine zl (r := b true) (LOp.eqb (LOp.move rfl rfl) hc75) ?_
           refine zl (r := b false) (LOp.eqb (LOp.not rfl rfl) rfl) ?_
           refine zm (r := b false) ?_
           refine ROps.s rfl rfl rfl ?_
           refine zl (r := b false) (LOp.pick_false rfl rfl rfl) ?_
           refine zm (r := b false) ?_
           iterate 2 (refine ROps.s rfl rfl rfl ?_)
           refine zl (r := b false) (LOp.pick_false rfl rfl rfl) ?_
           refine za (r := b false) ?_
           refine zN ?_
           exact .inl ⟨(Le.of ⟨aR, trivial⟩ ⟨⟨rfl, .inl rfl⟩, ⟨rfl, .inl rfl⟩, ⟨rfl, .inl rfl⟩, ⟨rfl, .inl rfl⟩, trivial⟩), h⟩
          ·rcases bsel_some h with ⟨hc76, h⟩ | ⟨hc76, h⟩
           ·refine RunC.regionW ?_
            refine zl (r := b false) (LOp.eqb (LOp.move rfl rfl) hc75) ?_
            refine zl (r := b true) (LOp.eqb (LOp.not rfl rfl) rfl) ?_
            refine zm (r := b true) ?_
            refine zl (r := b true) (LOp.eqb (LOp.move rfl rfl) hc76) ?_
            refine zl (r := b true) (LOp.pick_true rfl rfl rfl) ?_
            refine zm (r := b true) ?_
            refine zm (r := f32 r88) ?_
            refine zl (r := b (fle .f32 (some 1077936128) r88)) (LOp.fge rfl (OpF.tmp rfl) (OpF.const rfl (by kernel_rfl) (by kernel_rfl))) ?_
            refine zl (r := b (fle .f32 (some 1077936128) r88)) (LOp.pick_true rfl rfl rfl) ?_
            refine za (r := b (fle .f32 (some 1077936128) r88)) ?_
            refine zN ?_
            exact .inr (⟨(Le.of ⟨aR, trivial⟩ ⟨⟨rfl, .inl rfl⟩, ⟨rfl, .inl rfl⟩, ⟨rfl, .inl rfl⟩, ⟨rfl, .inl rfl⟩, trivial⟩), h⟩)
           ·refine RunC.regionW ?_
            refine zl (r := b false) (LOp.eqb (LOp.move rfl rfl) hc75) ?_
            refine zl (r := b true) (LOp.eqb (LOp.not rfl rfl) rfl) ?_
            refine zm (r := b true) ?_
            refine zl (r := b false) (LOp.eqb (LOp.move rfl rfl) hc76) ?_
            refine zl (r := b false) (LOp.pick_true rfl rfl rfl) ?_
            refine zm (r := b false) ?_
            iterate 2 (refine ROps.s rfl rfl rfl ?_)
            refine zl (r := b false) (LOp.pick_false rfl rfl rfl) ?_
            refine za (r := b false) ?_
            refine zN ?_
            exact .inl ⟨(Le.of ⟨aR, trivial⟩ ⟨⟨rfl, .inl rfl⟩, ⟨rfl, .inl rfl⟩, ⟨rfl, .inl rfl⟩, ⟨rfl, .inl rfl⟩, trivial⟩), h⟩
         ·rintro τ35 Γ35 (⟨hw35, h⟩ | ⟨hw35, h⟩)
          ·refine RunC.le (τ' := [(4, b false)]) (Γ' := [⟨3, none⟩, ⟨3, none⟩, ⟨5, none⟩, ⟨3, none⟩]) hw35 ?_
           unfold w_FnRoots_k21 at h
           refine RunC.ret ?_
           have hq := Option.some.inj h
           subst q0
           exact bodyQ.pure (.inr rfl) rfl (Res.one rfl (RV.tmp rfl))
          ·refine RunC.le (τ' := [(4, b (fle .f32 (some 1077936128) r88))]) (Γ' := [⟨3, none⟩, ⟨3, none⟩, ⟨5, none⟩, ⟨3, none⟩]) hw35 ?_
           unfold w_FnRoots_k23 at h
           refine RunC.ret ?_
           have hq := Option.some.inj h
           subst q0
           exact bodyQ.pure (.inr rfl) rfl (Res.one rfl (RV.tmp rfl))
end Go.Proofs.Ytkdociaoknmgbaa
