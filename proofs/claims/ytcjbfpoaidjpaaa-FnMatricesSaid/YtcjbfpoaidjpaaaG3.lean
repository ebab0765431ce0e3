/- Generated. -/
import Derived.Test.YtcjbfpoaidjpaaaG2
namespace Go.Proofs.Ytcjbfpoaidjpaaa
open Go Go.AM Go.AM.AV
set_option maxRecDepth 20000
set_option maxHeartbeats 4000000
set_option linter.unusedVariables false
set_option linter.unusedSimpArgs false
noncomputable def w_FnMatrices_k2  : Option (Bool) :=
 some false
noncomputable def w_FnMatrices_b5 (r13 : List F) (r17 : List F) (r23 : List F) (v56 : Int) : Option (LR (Int) (Unit) (Bool)) :=
 bsel (decide (v56 < (r13.length : Int))) (
  obind (at? r17 v56) fun (e57 : F) =>
  obind (at? r13 v56) fun (e58 : F) =>
  bsel (!feq .f32 e57 e58) (
   some (LR.ret false)) (
   obind (at? r23 v56) fun (e59 : F) =>
   olet (fwiden e59) fun (x60 : F) =>
   obind (at? r13 v56) fun (e61 : F) =>
   olet (fwiden e61) fun (x62 : F) =>
   obind (w_r8Gap x60 x62) fun (r63 : F) =>
   bsel (flt .f64 (some 4562254508917369340) r63) (
    some (LR.ret false)) (
    olet (IntKind.i64.wrap (v56 + 1)) fun (x64 : Int) =>
    some (LR.next x64)))) (
  some (LR.out ()))
noncomputable def w_FnMatrices_s5 (r13 : List F) (r17 : List F) (r23 : List F) : (Int) → Option (LR (Int) (Unit) (Bool)) := fun s => w_FnMatrices_b5 r13 r17 r23 s
noncomputable def w_FnMatrices_b6 (r4 : List F) (r53 : List F) (v65 : Int) : Option (LR (Int) (Unit) (Bool)) :=
 bsel (decide (v65 < (r4.length : Int))) (
  obind (at? r53 v65) fun (e66 : F) =>
  obind (at? r4 v65) fun (e67 : F) =>
  bsel (!feq .f32 e66 e67) (
   some (LR.ret false)) (
   olet (IntKind.i64.wrap (v65 + 1)) fun (x68 : Int) =>
   some (LR.next x68))) (
  some (LR.out ()))
noncomputable def w_FnMatrices_s6 (r4 : List F) (r53 : List F) : (Int) → Option (LR (Int) (Unit) (Bool)) := fun s => w_FnMatrices_b6 r4 r53 s
noncomputable def w_FnMatrices_b7 (r3 : Int) (x6 : Int) (r9 : List F) (L71 : List F) (v72 : Int) : Option (LR ((List F) × Int) ((List F)) (Bool)) :=
 bsel (decide (v72 < r3)) (
  olet (IntKind.i64.wrap (v72 * x6)) fun (x73 : Int) =>
  obind (at? r9 x73) fun (e74 : F) =>
  need (apok 4 L71.length 1) <|
  olet (IntKind.i64.wrap (v72 + 1)) fun (x75 : Int) =>
  some (LR.next ((L71 ++ ([e74] : List F)), x75))) (
  some (LR.out L71))
noncomputable def w_FnMatrices_s7 (r3 : Int) (x6 : Int) (r9 : List F) : ((List F) × Int) → Option (LR ((List F) × Int) ((List F)) (Bool)) := fun s => w_FnMatrices_b7 r3 x6 r9 s.1 s.2
noncomputable def w_FnMatrices_k9  : Option (Bool) :=
 some false
noncomputable def w_FnMatrices_b12 (r2 : Int) (x6 : Int) (r13 : List F) (r80 : List F) (v81 : Int) : Option (LR (Int) (Unit) (Bool)) :=
 bsel (decide (v81 < r2)) (
  obind (at? r80 v81) fun (e82 : F) =>
  olet (IntKind.i64.wrap (v81 * x6)) fun (x83 : Int) =>
  obind (at? r13 x83) fun (e84 : F) =>
  bsel (!feq .f32 e82 e84) (
   some (LR.ret false)) (
   olet (IntKind.i64.wrap (v81 + 1)) fun (x85 : Int) =>
   some (LR.next x85))) (
  some (LR.out ()))
noncomputable def w_FnMatrices_s12 (r2 : Int) (x6 : Int) (r13 : List F) (r80 : List F) : (Int) → Option (LR (Int) (Unit) (Bool)) := fun s => w_FnMatrices_b12 r2 x6 r13 r80 s
noncomputable def w_FnMatrices_k14  : Option (Bool) :=
 some false
noncomputable def w_FnMatrices_k16 (w105 : Bool) : Option (Bool) :=
 some w105
noncomputable def w_FnMatrices_k12 (a1 : List Int) (r2 : Int) (r3 : Int) (r4 : List F) : Option (Bool) :=
 obind (w_r8At a1 43 r2) fun (r86 : Int) =>
 obind (w_r8At a1 44 r3) fun (r87 : Int) =>
 olet (IntKind.i64.wrap (r2 - r86)) fun (x88 : Int) =>
 olet (IntKind.i64.wrap (r3 - r87)) fun (x89 : Int) =>
 obind4 (i_PartOfMatrix r2 r3 r4 r86 r87 x88 x89) fun (r90 : Int) (r91 : Int) (r92 : Bool) (r93 : List F) =>
 obind4 (i_PutMatrix r2 r3 r4 r90 r91 r93 r86 r87) fun (r94 : Int) (r95 : Int) (r96 : Bool) (r97 : List F) =>
 obind4 (i_WeighMatrices r2 r3 r4 r2 r3 r4 (some 1073741824) (some 3212836864)) fun (r98 : Int) (r99 : Int) (r100 : Bool) (r101 : List F) =>
 bsel r92 (
  bsel r96 (
   bsel r100 (
    obind (i_SameMatrix r94 r95 r97 r2 r3 r4) fun (r102 : Bool) =>
    bsel r102 (
     bsel (decide ((r101.length : Int) = (r4.length : Int))) (
      obind (at? r101 0) fun (e103 : F) =>
      obind (at? r4 0) fun (e104 : F) =>
      w_FnMatrices_k16 (feq .f32 e103 e104)) (
      w_FnMatrices_k14)) (
     w_FnMatrices_k14)) (
    w_FnMatrices_k14)) (
   w_FnMatrices_k14)) (
  w_FnMatrices_k14)
noncomputable def w_FnMatrices_k11 (a1 : List Int) (r2 : Int) (r3 : Int) (r4 : List F) (x6 : Int) (r13 : List F) (r80 : List F) : Option (Bool) :=
 obind (loopM (w_FnMatrices_s12 r2 x6 r13 r80) 0) fun z => osum z (fun e => w_FnMatrices_k12 a1 r2 r3 r4) (fun r => some r)
noncomputable def w_FnMatrices_k7 (a1 : List Int) (r2 : Int) (r3 : Int) (r4 : List F) (x6 : Int) (r13 : List F) (L78 : List F) : Option (Bool) :=
 obind2 (i_TimesVector r2 r3 r4 L78) fun (r79 : Bool) (r80 : List F) =>
 bsel r79 (
  bsel (!decide (((r80.length : Nat) : Int) = r2)) (
   w_FnMatrices_k9) (
   w_FnMatrices_k11 a1 r2 r3 r4 x6 r13 r80)) (
  w_FnMatrices_k9)
noncomputable def w_FnMatrices_k6 (a1 : List Int) (r2 : Int) (r3 : Int) (r4 : List F) (x6 : Int) (r9 : List F) (r13 : List F) : Option (Bool) :=
 obind (loopM (w_FnMatrices_s7 r3 x6 r9) (([] : List F), 0)) fun z => osum z (fun e => w_FnMatrices_k7 a1 r2 r3 r4 x6 r13 e) (fun r => some r)
noncomputable def w_FnMatrices_k5 (a1 : List Int) (r2 : Int) (r3 : Int) (r4 : List F) (x6 : Int) (r9 : List F) (r13 : List F) (r53 : List F) : Option (Bool) :=
 obind (loopM (w_FnMatrices_s6 r4 r53) 0) fun z => osum z (fun e => w_FnMatrices_k6 a1 r2 r3 r4 x6 r9 r13) (fun r => some r)
noncomputable def w_FnMatrices_k4 (a1 : List Int) (r2 : Int) (r3 : Int) (r4 : List F) (x6 : Int) (r9 : List F) (r13 : List F) (r17 : List F) (r23 : List F) (r53 : List F) : Option (Bool) :=
 obind (loopM (w_FnMatrices_s5 r13 r17 r23) 0) fun z => osum z (fun e => w_FnMatrices_k5 a1 r2 r3 r4 x6 r9 r13 r53) (fun r => some r)
noncomputable def w_FnMatrices (a0 : List Int) (a1 : List Int) : Option (Bool) :=
 obind (w_r8Long a0 a1) fun (r1 : Bool) =>
 bsel r1 (
  some true) (
  obind3 (s_R8Matrix a0) fun (r2 : Int) (r3 : Int) (r4 : List F) =>
  obind (w_r8At a1 40 5) fun (r5 : Int) =>
  olet (IntKind.i64.wrap (1 + r5)) fun (x6 : Int) =>
  obind3 (s_R8Sides a1 r3 x6) fun (r7 : Int) (r8 : Int) (r9 : List F) =>
  obind4 (i_MulMatrices r2 r3 r4 r7 r8 r9) fun (r10 : Int) (r11 : Int) (r12 : Bool) (r13 : List F) =>
  obind4 (i_MulBlocks r2 r3 r4 r7 r8 r9 12) fun (r14 : Int) (r15 : Int) (r16 : Bool) (r17 : List F) =>
  obind (w_r8At a1 41 3) fun (r18 : Int) =>
  olet (IntKind.i64.wrap (1 + r18)) fun (x19 : Int) =>
  obind4 (i_MulBlocks r2 r3 r4 r7 r8 r9 x19) fun (r20 : Int) (r21 : Int) (r22 : Bool) (r23 : List F) =>
  obind (w_r8At a1 42 8) fun (r24 : Int) =>
  olet (IntKind.i64.wrap (1 + r24)) fun (x25 : Int) =>
  obind4 (i_MulShared r2 r3 r4 r7 r8 r9 x25) fun (r26 : Int) (r27 : Int) (r28 : Bool) (r29 : List F) =>
  obind4 (i_FlipMatrix r2 r3 r4) fun (r30 : Int) (r31 : Int) (r32 : Bool) (r33 : List F) =>
  obind4 (i_FlipMatrix r7 r8 r9) fun (r34 : Int) (r35 : Int) (r36 : Bool) (r37 : List F) =>
  obind4 (i_MulMatrices r34 r35 r37 r30 r31 r33) fun (r38 : Int) (r39 : Int) (r40 : Bool) (r41 : List F) =>
  obind4 (i_FlipMatrix r10 r11 r13) fun (r42 : Int) (r43 : Int) (r44 : Bool) (r45 : List F) =>
  obind4 (i_UnitMatrix r3) fun (r46 : Int) (r47 : Int) (r48 : Bool) (r49 : List F) =>
  obind4 (i_MulMatrices r2 r3 r4 r46 r47 r49) fun (r50 : Int) (r51 : Int) (r52 : Bool) (r53 : List F) =>
  bsel r12 (
   bsel r16 (
    bsel r22 (
     bsel r28 (
      bsel r32 (
       bsel r36 (
        bsel r40 (
         bsel r44 (
          bsel r48 (
           bsel r52 (
            obind (i_SameMatrix r10 r11 r13 r26 r27 r29) fun (r54 : Bool) =>
            bsel r54 (
             obind (i_SameMatrix r38 r39 r41 r42 r43 r45) fun (r55 : Bool) =>
             bsel r55 (
              bsel (!decide ((r23.length : Int) = (r13.length : Int))) (
               w_FnMatrices_k2) (
               bsel (!decide ((r17.length : Int) = (r13.length : Int))) (
                w_FnMatrices_k2) (
                bsel (!decide ((r53.length : Int) = (r4.length : Int))) (
                 w_FnMatrices_k2) (
                 bsel (!decide (r10 = r2)) (
                  w_FnMatrices_k2) (
                  bsel (!decide (r11 = x6)) (
                   w_FnMatrices_k2) (
                   w_FnMatrices_k4 a1 r2 r3 r4 x6 r9 r13 r17 r23 r53)))))) (
              w_FnMatrices_k2)) (
             w_FnMatrices_k2)) (
            w_FnMatrices_k2)) (
           w_FnMatrices_k2)) (
          w_FnMatrices_k2)) (
         w_FnMatrices_k2)) (
        w_FnMatrices_k2)) (
       w_FnMatrices_k2)) (
      w_FnMatrices_k2)) (
     w_FnMatrices_k2)) (
    w_FnMatrices_k2)) (
   w_FnMatrices_k2))
theorem w_FnMatrices_ok (a0 : List Int) (a1 : List Int) (q0 : Bool) (h : w_FnMatrices a0 a1 = some q0) : Ev Try.prog 3 [sl a0.length (a0.map (ik .u8)), sl a1.length (a1.map (ik .u8))] [] (b q0) [] := by
 refine Ev.start Try.func3 rfl rfl 10 (τ := [(0, sl a0.length (a0.map (ik .u8))), (1, sl a1.length (a1.map (ik .u8)))]) rfl (Γ' := [⟨0, none⟩, ⟨0, none⟩, ⟨0, none⟩, ⟨0, none⟩, ⟨0, none⟩, ⟨0, none⟩, ⟨0, none⟩, ⟨0, none⟩, ⟨0, none⟩, ⟨0, none⟩]) rfl (n := 761) rfl (g := 0) rfl (fun _ => rfl) ?_
 unfold w_FnMatrices at h
 refine zQ ?_
 refine zA (r := b false) rfl rfl rfl rfl rfl ?_
 refine zN ?_
 iterate 2 (refine RunC.seq ?_)
 obtain ⟨r1, hf1, h⟩ := obind_some h
 rcases bsel_some h with ⟨hc2, h⟩ | ⟨hc2, h⟩
 ·refine RunC.regionW ?_
  refine zM (r := sl a0.length (a0.map (ik .u8))) rfl rfl rfl rfl rfl ?_
  refine zM (r := sl a1.length (a1.map (ik .u8))) rfl rfl rfl rfl rfl ?_
  refine ROps.d (r := b true) (fs := []) (Γ' := [⟨0, none⟩, ⟨0, none⟩, ⟨0, none⟩, ⟨0, none⟩, ⟨0, none⟩, ⟨0, none⟩, ⟨0, none⟩, ⟨0, none⟩, ⟨0, none⟩, ⟨0, none⟩]) rfl rfl rfl (TOp.eqb (TOp.callB (CallAs.func ent7 rfl rfl) (Bors.cons (Bor.sl (fun _ => rfl)) (Bors.cons (Bor.sl (fun _ => rfl)) Bors.nil)) rfl rfl (w_r8Long_ok a0 a1 r1 hf1)) hc2) rfl ?_
  refine zN ?_
  refine RunC.cond_true rfl rfl ?_
  refine zQ ?_
  refine zA (r := b true) rfl rfl rfl rfl rfl ?_
  refine zN ?_
  refine RunC.ret ?_
  have hq := Option.some.inj h
  subst q0
  exact bodyQ.pure (.inr rfl) rfl (Res.one rfl (RV.tmp rfl))
 ·refine RunC.regionW ?_
  refine zM (r := sl a0.length (a0.map (ik .u8))) rfl rfl rfl rfl rfl ?_
  refine zM (r := sl a1.length (a1.map (ik .u8))) rfl rfl rfl rfl rfl ?_
  refine ROps.d (r := b false) (fs := []) (Γ' := [⟨0, none⟩, ⟨0, none⟩, ⟨0, none⟩, ⟨0, none⟩, ⟨0, none⟩, ⟨0, none⟩, ⟨0, none⟩, ⟨0, none⟩, ⟨0, none⟩, ⟨0, none⟩]) rfl rfl rfl (TOp.eqb (TOp.callB (CallAs.func ent7 rfl rfl) (Bors.cons (Bor.sl (fun _ => rfl)) (Bors.cons (Bor.sl (fun _ => rfl)) Bors.nil)) rfl rfl (w_r8Long_ok a0 a1 r1 hf1)) hc2) rfl ?_
  refine zN ?_
  refine RunC.cond_false rfl rfl ?_
  refine RunC.skip ?_
  refine RunC.seq ?_
  obtain ⟨r2, r3, r4, hf3, h⟩ := obind3_some h
  refine RunC.regionW ?_
  refine zM (r := sl a0.length (a0.map (ik .u8))) rfl rfl rfl rfl rfl ?_
  refine ROps.d (r := agg [i64 r2, i64 r3, sl r4.length (r4.map f32)]) (fs := []) (Γ' := [⟨0, none⟩, ⟨0, none⟩, ⟨0, none⟩, ⟨0, none⟩, ⟨0, none⟩, ⟨0, none⟩, ⟨0, none⟩, ⟨0, none⟩, ⟨0, none⟩, ⟨0, none⟩]) rfl rfl rfl (TOp.callS (CallAs.func ent8 rfl rfl) (ALes.cons aR ALes.nil) (lts_cons (lt_sl (fun _ => rfl)) lts_nil) (lt_agg (lts_cons rfl (lts_cons rfl (lts_cons (lt_sl (fun _ => rfl)) lts_nil)))) (s_R8Matrix_ok a0 r2 r3 r4 hf3) (Bor.agg (Bors.cons (Bor.pure rfl) (Bors.cons (Bor.pure rfl) (Bors.cons (Bor.own (f := f32) (fun _ => rfl) rfl rfl) Bors.nil))))) rfl ?_
  refine ROps.d (r := optr 0 1 0) (fs := [(0, [i64 0, i64 0, nilsl])]) (Γ' := [⟨1, some [i64 0, i64 0, nilsl]⟩, ⟨0, none⟩, ⟨0, none⟩, ⟨0, none⟩, ⟨0, none⟩, ⟨0, none⟩, ⟨0, none⟩, ⟨0, none⟩, ⟨0, none⟩, ⟨0, none⟩]) rfl rfl rfl (TOp.alloc_o (g := ⟨0, none⟩) 0 rfl zer26 zok26 rfl) rfl ?_
  refine ROps.store_le (r := agg [i64 r2, i64 r3, sl r4.length (r4.map f32)]) (l' := [i64 r2, i64 r3, sl r4.length (r4.map f32)]) (Γ' := [⟨1, some [i64 r2, i64 r3, sl r4.length (r4.map f32)]⟩, ⟨0, none⟩, ⟨0, none⟩, ⟨0, none⟩, ⟨0, none⟩, ⟨0, none⟩, ⟨0, none⟩, ⟨0, none⟩, ⟨0, none⟩, ⟨0, none⟩]) rfl siz26 rfl rfl rfl aR rfl rfl rfl rfl (Nat.le_of_ble_eq_true rfl) rfl rfl ?_
  refine zN ?_
  refine RunC.seq ?_
  obtain ⟨r5, hf4, h⟩ := obind_some h
  obtain ⟨x6, hx5, h⟩ := olet_some h
  refine RunC.regionW ?_
  refine zM (r := sl a1.length (a1.map (ik .u8))) rfl rfl rfl rfl rfl ?_
  refine ROps.d (r := i64 r5) (fs := []) (Γ' := [⟨1, some [i64 r2, i64 r3, sl r4.length (r4.map f32)]⟩, ⟨0, none⟩, ⟨0, none⟩, ⟨0, none⟩, ⟨0, none⟩, ⟨0, none⟩, ⟨0, none⟩, ⟨0, none⟩, ⟨0, none⟩, ⟨0, none⟩]) rfl rfl rfl (TOp.callB (CallAs.func ent9 rfl rfl) (Bors.cons (Bor.sl (fun _ => rfl)) (Bors.cons (Bor.pure rfl) (Bors.cons (Bor.pure rfl) Bors.nil))) rfl rfl (w_r8At_ok a1 40 5 r5 hf4)) rfl ?_
  refine zL (r := i64 x6) rfl rfl rfl (LOp.eqr (LOp.add rfl rfl rfl) (congrArg (ik .i64) hx5)) ?_
  refine zA (r := i64 x6) rfl rfl rfl rfl rfl ?_
  refine zN ?_
  refine RunC.seq ?_
  obtain ⟨r7, r8, r9, hf6, h⟩ := obind3_some h
  refine RunC.regionW ?_
  refine zM (r := sl a1.length (a1.map (ik .u8))) rfl rfl rfl rfl rfl ?_
  refine zL (r := optr 0 1 1) rfl rfl rfl (LOp.fao und26 rfl siz2 rfl rfl rfl) ?_
  refine ROps.d (r := i64 r3) (fs := []) (Γ' := [⟨1, some [i64 r2, i64 r3, sl r4.length (r4.map f32)]⟩, ⟨0, none⟩, ⟨0, none⟩, ⟨0, none⟩, ⟨0, none⟩, ⟨0, none⟩, ⟨0, none⟩, ⟨0, none⟩, ⟨0, none⟩, ⟨0, none⟩]) rfl rfl rfl (TOp.load1_o rfl rfl agg2 rfl rfl) rfl ?_
  refine zM (r := i64 x6) rfl rfl rfl rfl rfl ?_
  refine ROps.d (r := agg [i64 r7, i64 r8, sl r9.length (r9.map f32)]) (fs := []) (Γ' := [⟨1, some [i64 r2, i64 r3, sl r4.length (r4.map f32)]⟩, ⟨0, none⟩, ⟨0, none⟩, ⟨0, none⟩, ⟨0, none⟩, ⟨0, none⟩, ⟨0, none⟩, ⟨0, none⟩, ⟨0, none⟩, ⟨0, none⟩]) rfl rfl rfl (TOp.callS (CallAs.func ent10 rfl rfl) (ALes.cons aR (ALes.cons aR (ALes.cons aR ALes.nil))) (lts_cons (lt_sl (fun _ => rfl)) (lts_cons rfl (lts_cons rfl lts_nil))) (lt_agg (lts_cons rfl (lts_cons rfl (lts_cons (lt_sl (fun _ => rfl)) lts_nil)))) (s_R8Sides_ok a1 r3 x6 r7 r8 r9 hf6) (Bor.agg (Bors.cons (Bor.pure rfl) (Bors.cons (Bor.pure rfl) (Bors.cons (Bor.own (f := f32) (fun _ => rfl) rfl rfl) Bors.nil))))) rfl ?_
  refine ROps.d (r := optr 1 1 0) (fs := [(1, [i64 0, i64 0, nilsl])]) (Γ' := [⟨1, some [i64 r2, i64 r3, sl r4.length (r4.map f32)]⟩, ⟨1, some [i64 0, i64 0, nilsl]⟩, ⟨0, none⟩, ⟨0, none⟩, ⟨0, none⟩, ⟨0, none⟩, ⟨0, none⟩, ⟨0, none⟩, ⟨0, none⟩, ⟨0, none⟩]) rfl rfl rfl (TOp.alloc_o (g := ⟨0, none⟩) 1 rfl zer26 zok26 rfl) rfl ?_
  refine ROps.store_le (r := agg [i64 r7, i64 r8, sl r9.length (r9.map f32)]) (l' := [i64 r7, i64 r8, sl r9.length (r9.map f32)]) (Γ' := [⟨1, some [i64 r2, i64 r3, sl r4.length (r4.map f32)]⟩, ⟨1, some [i64 r7, i64 r8, sl r9.length (r9.map f32)]⟩, ⟨0, none⟩, ⟨0, none⟩, ⟨0, none⟩, ⟨0, none⟩, ⟨0, none⟩, ⟨0, none⟩, ⟨0, none⟩, ⟨0, none⟩]) rfl siz26 rfl rfl rfl aR rfl rfl rfl rfl (Nat.le_of_ble_eq_true rfl) rfl rfl ?_
  refine zN ?_
  refine RunC.seq ?_
  obtain ⟨r10, r11, r12, r13, hf7, h⟩ := obind4_some h
  refine RunC.regionW ?_
  refine ROps.d (r := agg [i64 r2, i64 r3, sl r4.length (r4.map f32)]) (fs := []) (Γ' := [⟨1, some [i64 r2, i64 r3, sl r4.length (r4.map f32)]⟩, ⟨1, some [i64 r7, i64 r8, sl r9.length (r9.map f32)]⟩, ⟨0, none⟩, ⟨0, none⟩, ⟨0, none⟩, ⟨0, none⟩, ⟨0, none⟩, ⟨0, none⟩, ⟨0, none⟩, ⟨0, none⟩]) rfl rfl rfl (TOp.loadAgg_o rfl agg26 siz26 rfl rfl rfl rfl) rfl ?_
  refine ROps.d (r := agg [i64 r7, i64 r8, sl r9.length (r9.map f32)]) (fs := []) (Γ' := [⟨1, some [i64 r2, i64 r3, sl r4.length (r4.map f32)]⟩, ⟨1, some [i64 r7, i64 r8, sl r9.length (r9.map f32)]⟩, ⟨0, none⟩, ⟨0, none⟩, ⟨0, none⟩, ⟨0, none⟩, ⟨0, none⟩, ⟨0, none⟩, ⟨0, none⟩, ⟨0, none⟩]) rfl rfl rfl (TOp.loadAgg_o rfl agg26 siz26 rfl rfl rfl rfl) rfl ?_
  refine ROps.d (r := tup [agg [i64 r10, i64 r11, sl r13.length (r13.map f32)], b r12]) (fs := []) (Γ' := [⟨1, some [i64 r2, i64 r3, sl r4.length (r4.map f32)]⟩, ⟨1, some [i64 r7, i64 r8, sl r9.length (r9.map f32)]⟩, ⟨0, none⟩, ⟨0, none⟩, ⟨0, none⟩, ⟨0, none⟩, ⟨0, none⟩, ⟨0, none⟩, ⟨0, none⟩, ⟨0, none⟩]) rfl rfl rfl (TOp.callS (CallAs.func ent11 rfl rfl) (ALes.cons aR (ALes.cons aR ALes.nil)) (lts_cons (lt_agg (lts_cons rfl (lts_cons rfl (lts_cons (lt_sl (fun _ => rfl)) lts_nil)))) (lts_cons (lt_agg (lts_cons rfl (lts_cons rfl (lts_cons (lt_sl (fun _ => rfl)) lts_nil)))) lts_nil)) (lt_tup (lts_cons (lt_agg (lts_cons rfl (lts_cons rfl (lts_cons (lt_sl (fun _ => rfl)) lts_nil)))) (lts_cons rfl lts_nil))) (i_MulMatrices_ok r2 r3 r4 r7 r8 r9 r10 r11 r12 r13 hf7) (Bor.tup (Bors.cons (Bor.agg (Bors.cons (Bor.pure rfl) (Bors.cons (Bor.pure rfl) (Bors.cons (Bor.own (f := f32) (fun _ => rfl) rfl rfl) Bors.nil)))) (Bors.cons (Bor.pure rfl) Bors.nil)))) rfl ?_
  refine zM (r := tup [agg [i64 r10, i64 r11, sl r13.length (r13.map f32)], b r12]) rfl rfl rfl rfl rfl ?_
  refine zL (r := agg [i64 r10, i64 r11, sl r13.length (r13.map f32)]) rfl rfl rfl (LOp.extract rfl rfl rfl) ?_
  refine zL (r := b r12) rfl rfl rfl (LOp.extract rfl rfl rfl) ?_
  refine ROps.d (r := optr 2 1 0) (fs := [(2, [i64 0, i64 0, nilsl])]) (Γ' := [⟨1, some [i64 r2, i64 r3, sl r4.length (r4.map f32)]⟩, ⟨1, some [i64 r7, i64 r8, sl r9.length (r9.map f32)]⟩, ⟨1, some [i64 0, i64 0, nilsl]⟩, ⟨0, none⟩, ⟨0, none⟩, ⟨0, none⟩, ⟨0, none⟩, ⟨0, none⟩, ⟨0, none⟩, ⟨0, none⟩]) rfl rfl rfl (TOp.alloc_o (g := ⟨0, none⟩) 2 rfl zer26 zok26 rfl) rfl ?_
  refine ROps.store_le (r := agg [i64 r10, i64 r11, sl r13.length (r13.map f32)]) (l' := [i64 r10, i64 r11, sl r13.length (r13.map f32)]) (Γ' := [⟨1, some [i64 r2, i64 r3, sl r4.length (r4.map f32)]⟩, ⟨1, some [i64 r7, i64 r8, sl r9.length (r9.map f32)]⟩, ⟨1, some [i64 r10, i64 r11, sl r13.length (r13.map f32)]⟩, ⟨0, none⟩, ⟨0, none⟩, ⟨0, none⟩, ⟨0, none⟩, ⟨0, none⟩, ⟨0, none⟩, ⟨0, none⟩]) rfl siz26 rfl rfl rfl aR rfl rfl rfl rfl (Nat.le_of_ble_eq_true rfl) rfl rfl ?_
  refine zA (r := b r12) rfl rfl rfl rfl rfl ?_
  refine zN ?_
  refine RunC.seq ?_
  obtain ⟨r14, r15, r16, r17, hf8, h⟩ := obind4_some h
  refine RunC.regionW ?_
  refine ROps.d (r := agg [i64 r2, i64 r3, sl r4.length (r4.map f32)]) (fs := []) (Γ' := [⟨1, some [i64 r2, i64 r3, sl r4.length (r4.map f32)]⟩, ⟨1, some [i64 r7, i64 r8, sl r9.length (r9.map f32)]⟩, ⟨1, some [i64 r10, i64 r11, sl r13.length (r13.map f32)]⟩, ⟨0, none⟩, ⟨0, none⟩, ⟨0, none⟩, ⟨0, none⟩, ⟨0, none⟩, ⟨0, none⟩, ⟨0, none⟩]) rfl rfl rfl (TOp.loadAgg_o rfl agg26 siz26 rfl rfl rfl rfl) rfl ?_
  refine ROps.d (r := agg [i64 r7, i64 r8, sl r9.length (r9.map f32)]) (fs := []) (Γ' := [⟨1, some [i64 r2, i64 r3, sl r4.length (r4.map f32)]⟩, ⟨1, some [i64 r7, i64 r8, sl r9.length (r9.map f32)]⟩, ⟨1, some [i64 r10, i64 r11, sl r13.length (r13.map f32)]⟩, ⟨0, none⟩, ⟨0, none⟩, ⟨0, none⟩, ⟨0, none⟩, ⟨0, none⟩, ⟨0, none⟩, ⟨0, none⟩]) rfl rfl rfl (TOp.loadAgg_o rfl agg26 siz26 rfl rfl rfl rfl) rfl ?_
  refine ROps.d (r := tup [agg [i64 r14, i64 r15, sl r17.length (r17.map f32)], b r16]) (fs := []) (Γ' := [⟨1, some [i64 r2, i64 r3, sl r4.length (r4.map f32)]⟩, ⟨1, some [i64 r7, i64 r8, sl r9.length (r9.map f32)]⟩, ⟨1, some [i64 r10, i64 r11, sl r13.length (r13.map f32)]⟩, ⟨0, none⟩, ⟨0, none⟩, ⟨0, none⟩, ⟨0, none⟩, ⟨0, none⟩, ⟨0, none⟩, ⟨0, none⟩]) rfl rfl rfl (TOp.callS (CallAs.func ent12 rfl rfl) (ALes.cons aR (ALes.cons aR (ALes.cons aR ALes.nil))) (lts_cons (lt_agg (lts_cons rfl (lts_cons rfl (lts_cons (lt_sl (fun _ => rfl)) lts_nil)))) (lts_cons (lt_agg (lts_cons rfl (lts_cons rfl (lts_cons (lt_sl (fun _ => rfl)) lts_nil)))) (lts_cons rfl lts_nil))) (lt_tup (lts_cons (lt_agg (lts_cons rfl (lts_cons rfl (lts_cons (lt_sl (fun _ => rfl)) lts_nil)))) (lts_cons rfl lts_nil))) (i_MulBlocks_ok r2 r3 r4 r7 r8 r9 12 r14 r15 r16 r17 hf8) (Bor.tup (Bors.cons (Bor.agg (Bors.cons (Bor.pure rfl) (Bors.cons (Bor.pure rfl) (Bors.cons (Bor.own (f := f32) (fun _ => rfl) rfl rfl) Bors.nil)))) (Bors.cons (Bor.pure rfl) Bors.nil)))) rfl ?_
  refine zM (r := tup [agg [i64 r14, i64 r15, sl r17.length (r17.map f32)], b r16]) rfl rfl rfl rfl rfl ?_
  refine zL (r := agg [i64 r14, i64 r15, sl r17.length (r17.map f32)]) rfl rfl rfl (LOp.extract rfl rfl rfl) ?_
  refine zL (r := b r16) rfl rfl rfl (LOp.extract rfl rfl rfl) ?_
  refine ROps.d (r := optr 3 1 0) (fs := [(3, [i64 0, i64 0, nilsl])]) (Γ' := [⟨1, some [i64 r2, i64 r3, sl r4.length (r4.map f32)]⟩, ⟨1, some [i64 r7, i64 r8, sl r9.length (r9.map f32)]⟩, ⟨1, some [i64 r10, i64 r11, sl r13.length (r13.map f32)]⟩, ⟨1, some [i64 0, i64 0, nilsl]⟩, ⟨0, none⟩, ⟨0, none⟩, ⟨0, none⟩, ⟨0, none⟩, ⟨0, none⟩, ⟨0, none⟩]) rfl rfl rfl (TOp.alloc_o (g := ⟨0, none⟩) 3 rfl zer26 zok26 rfl) rfl ?_
  refine ROps.store_le (r := agg [i64 r14, i64 r15, sl r17.length (r17.map f32)]) (l' := [i64 r14, i64 r15, sl r17.length (r17.map f32)]) (Γ' := [⟨1, some [i64 r2, i64 r3, sl r4.length (r4.map f32)]⟩, ⟨1, some [i64 r7, i64 r8, sl r9.length (r9.map f32)]⟩, ⟨1, some [i64 r10, i64 r11, sl r13.length (r13.map f32)]⟩, ⟨1, some [i64 r14, i64 r15, sl r17.length (r17.map f32)]⟩, ⟨0, none⟩, ⟨0, none⟩, ⟨0, none⟩, ⟨0, none⟩, ⟨0, none⟩, ⟨0, none⟩]) rfl siz26 rfl rfl rfl aR rfl rfl rfl rfl (Nat.le_of_ble_eq_true rfl) rfl rfl ?_
  refine zA (r := b r16) rfl rfl rfl rfl rfl ?_
  refine zN ?_
  refine RunC.seq ?_
  obtain ⟨r18, hf9, h⟩ := obind_some h
  obtain ⟨x19, hx10, h⟩ := olet_some h
  obtain ⟨r20, r21, r22, r23, hf11, h⟩ := obind4_some h
  refine RunC.region_draw (Γ' := [⟨1, some [i64 r2, i64 r3, sl r4.length (r4.map f32)]⟩, ⟨1, some [i64 r7, i64 r8, sl r9.length (r9.map f32)]⟩, ⟨1, some [i64 r10, i64 r11, sl r13.length (r13.map f32)]⟩, ⟨1, some [i64 r14, i64 r15, sl r17.length (r17.map f32)]⟩, ⟨1, some [i64 0, i64 0, nilsl]⟩, ⟨0, none⟩, ⟨0, none⟩, ⟨0, none⟩, ⟨0, none⟩, ⟨0, none⟩]) 10 mixed 
   (TR.d (r := agg [i64 r2, i64 r3, sl r4.length (r4.map f32)]) (fs := []) rfl rfl (TOp.loadAgg_o rfl agg26 siz26 rfl rfl rfl rfl) <|
   (TR.d (r := agg [i64 r7, i64 r8, sl r9.length (r9.map f32)]) (fs := []) rfl rfl (TOp.loadAgg_o rfl agg26 siz26 rfl rfl rfl rfl) <|
   (TR.l (r := sl a1.length (a1.map (ik .u8))) rfl rfl (LOp.move rfl rfl) <|
   (TR.d (r := i64 r18) (fs := []) rfl rfl (TOp.callB (CallAs.func ent9 rfl rfl) (Bors.cons (Bor.sl (fun _ => rfl)) (Bors.cons (Bor.pure rfl) (Bors.cons (Bor.pure rfl) Bors.nil))) rfl rfl (w_r8At_ok a1 41 3 r18 hf9)) <|
   (TR.l (r := i64 x19) rfl rfl (LOp.eqr (LOp.add rfl rfl rfl) (congrArg (ik .i64) hx10)) <|
   (TR.d (r := tup [agg [i64 r20, i64 r21, sl r23.length (r23.map f32)], b r22]) (fs := []) rfl rfl (TOp.callS (CallAs.func ent12 rfl rfl) (ALes.cons aR (ALes.cons aR (ALes.cons aR ALes.nil))) (lts_cons (lt_agg (lts_cons rfl (lts_cons rfl (lts_cons (lt_sl (fun _ => rfl)) lts_nil)))) (lts_cons (lt_agg (lts_cons rfl (lts_cons rfl (lts_cons (lt_sl (fun _ => rfl)) lts_nil)))) (lts_cons rfl lts_nil))) (lt_tup (lts_cons (lt_agg (lts_cons rfl (lts_cons rfl (lts_cons (lt_sl (fun _ => rfl)) lts_nil)))) (lts_cons rfl lts_nil))) (i_MulBlocks_ok r2 r3 r4 r7 r8 r9 x19 r20 r21 r22 r23 hf11) (Bor.tup (Bors.cons (Bor.agg (Bors.cons (Bor.pure rfl) (Bors.cons (Bor.pure rfl) (Bors.cons (Bor.own (f := f32) (fun _ => rfl) rfl rfl) Bors.nil)))) (Bors.cons (Bor.pure rfl) Bors.nil)))) <|
   (TR.l (r := tup [agg [i64 r20, i64 r21, sl r23.length (r23.map f32)], b r22]) rfl rfl (LOp.move rfl rfl) <|
   (TR.l (r := agg [i64 r20, i64 r21, sl r23.length (r23.map f32)]) rfl rfl (LOp.extract rfl rfl rfl) <|
   (TR.loose (r := b r22) rfl rfl (LOp.extract rfl rfl rfl) <|
   (TR.d (r := optr 4 1 0) (fs := [(4, [i64 0, i64 0, nilsl])]) rfl rfl (TOp.alloc_o (g := ⟨0, none⟩) 4 rfl zer26 zok26 rfl) <|
   TR.nil)))))))))) rfl (by kernel_rfl) rfl (fills_of (by show List.Nodup [4]; decide) ⟨⟨_, rfl⟩, trivial⟩) rfl ?_
  iterate 10 refine ROps.dropS ?_
  refine ROps.drop0 ?_
  refine ROps.store_le (r := agg [i64 r20, i64 r21, sl r23.length (r23.map f32)]) (l' := [i64 r20, i64 r21, sl r23.length (r23.map f32)]) (Γ' := [⟨1, some [i64 r2, i64 r3, sl r4.length (r4.map f32)]⟩, ⟨1, some [i64 r7, i64 r8, sl r9.length (r9.map f32)]⟩, ⟨1, some [i64 r10, i64 r11, sl r13.length (r13.map f32)]⟩, ⟨1, some [i64 r14, i64 r15, sl r17.length (r17.map f32)]⟩, ⟨1, some [i64 r20, i64 r21, sl r23.length (r23.map f32)]⟩, ⟨0, none⟩, ⟨0, none⟩, ⟨0, none⟩, ⟨0, none⟩, ⟨0, none⟩]) rfl siz26 rfl rfl rfl aR rfl rfl rfl rfl (Nat.le_of_ble_eq_true rfl) rfl rfl ?_
  refine zA (r := b r22) rfl rfl rfl rfl rfl ?_
  refine zN ?_
  refine RunC.seq ?_
  obtain ⟨r24, hf12, h⟩ := obind_some h
  obtain ⟨x25, hx13, h⟩ := olet_some h
  obtain ⟨r26, r27, r28, r29, hf14, h⟩ := obind4_some h
  refine RunC.region_draw (Γ' := [⟨1, some [i64 r2, i64 r3, sl r4.length (r4.map f32)]⟩, ⟨1, some [i64 r7, i64 r8, sl r9.length (r9.map f32)]⟩, ⟨1, some [i64 r10, i64 r11, sl r13.length (r13.map f32)]⟩, ⟨1, some [i64 r14, i64 r15, sl r17.length (r17.map f32)]⟩, ⟨1, some [i64 r20, i64 r21, sl r23.length (r23.map f32)]⟩, ⟨1, some [i64 0, i64 0, nilsl]⟩, ⟨0, none⟩, ⟨0, none⟩, ⟨0, none⟩, ⟨0, none⟩]) 10 mixed 
   (TR.d (r := agg [i64 r2, i64 r3, sl r4.length (r4.map f32)]) (fs := []) rfl rfl (TOp.loadAgg_o rfl agg26 siz26 rfl rfl rfl rfl) <|
   (TR.d (r := agg [i64 r7, i64 r8, sl r9.length (r9.map f32)]) (fs := []) rfl rfl (TOp.loadAgg_o rfl agg26 siz26 rfl rfl rfl rfl) <|
   (TR.l (r := sl a1.length (a1.map (ik .u8))) rfl rfl (LOp.move rfl rfl) <|
   (TR.d (r := i64 r24) (fs := []) rfl rfl (TOp.callB (CallAs.func ent9 rfl rfl) (Bors.cons (Bor.sl (fun _ => rfl)) (Bors.cons (Bor.pure rfl) (Bors.cons (Bor.pure rfl) Bors.nil))) rfl rfl (w_r8At_ok a1 42 8 r24 hf12)) <|
   (TR.l (r := i64 x25) rfl rfl (LOp.eqr (LOp.add rfl rfl rfl) (congrArg (ik .i64) hx13)) <|
   (TR.d (r := tup [agg [i64 r26, i64 r27, sl r29.length (r29.map f32)], b r28]) (fs := []) rfl rfl (TOp.callS (CallAs.func ent13 rfl rfl) (ALes.cons aR (ALes.cons aR (ALes.cons aR ALes.nil))) (lts_cons (lt_agg (lts_cons rfl (lts_cons rfl (lts_cons (lt_sl (fun _ => rfl)) lts_nil)))) (lts_cons (lt_agg (lts_cons rfl (lts_cons rfl (lts_cons (lt_sl (fun _ => rfl)) lts_nil)))) (lts_cons rfl lts_nil))) (lt_tup (lts_cons (lt_agg (lts_cons rfl (lts_cons rfl (lts_cons (lt_sl (fun _ => rfl)) lts_nil)))) (lts_cons rfl lts_nil))) (i_MulShared_ok r2 r3 r4 r7 r8 r9 x25 r26 r27 r28 r29 hf14) (Bor.tup (Bors.cons (Bor.agg (Bors.cons (Bor.pure rfl) (Bors.cons (Bor.pure rfl) (Bors.cons (Bor.own (f := f32) (fun _ => rfl) rfl rfl) Bors.nil)))) (Bors.cons (Bor.pure rfl) Bors.nil)))) <|
   (TR.l (r := tup [agg [i64 r26, i64 r27, sl r29.length (r29.map f32)], b r28]) rfl rfl (LOp.move rfl rfl) <|
   (TR.l (r := agg [i64 r26, i64 r27, sl r29.length (r29.map f32)]) rfl rfl (LOp.extract rfl rfl rfl) <|
   (TR.loose (r := b r28) rfl rfl (LOp.extract rfl rfl rfl) <|
   (TR.d (r := optr 5 1 0) (fs := [(5, [i64 0, i64 0, nilsl])]) rfl rfl (TOp.alloc_o (g := ⟨0, none⟩) 5 rfl zer26 zok26 rfl) <|
   TR.nil)))))))))) rfl (by kernel_rfl) rfl (fills_of (by show List.Nodup [5]; decide) ⟨⟨_, rfl⟩, trivial⟩) rfl ?_
  iterate 10 refine ROps.dropS ?_
  refine ROps.drop0 ?_
  refine ROps.store_le (r := agg [i64 r26, i64 r27, sl r29.length (r29.map f32)]) (l' := [i64 r26, i64 r27, sl r29.length (r29.map f32)]) (Γ' := [⟨1, some [i64 r2, i64 r3, sl r4.length (r4.map f32)]⟩, ⟨1, some [i64 r7, i64 r8, sl r9.length (r9.map f32)]⟩, ⟨1, some [i64 r10, i64 r11, sl r13.length (r13.map f32)]⟩, ⟨1, some [i64 r14, i64 r15, sl r17.length (r17.map f32)]⟩, ⟨1, some [i64 r20, i64 r21, sl r23.length (r23.map f32)]⟩, ⟨1, some [i64 r26, i64 r27, sl r29.length (r29.map f32)]⟩, ⟨0, none⟩, ⟨0, none⟩, ⟨0, none⟩, ⟨0, none⟩]) rfl siz26 rfl rfl rfl aR rfl rfl rfl rfl (Nat.le_of_ble_eq_true rfl) rfl rfl ?_
  refine zA (r := b r28) rfl rfl rfl rfl rfl ?_
  refine zN ?_
  refine RunC.seq ?_
  obtain ⟨r30, r31, r32, r33, hf15, h⟩ := obind4_some h
  refine RunC.regionW ?_
  refine ROps.d (r := agg [i64 r2, i64 r3, sl r4.length (r4.map f32)]) (fs := []) (Γ' := [⟨1, some [i64 r2, i64 r3, sl r4.length (r4.map f32)]⟩, ⟨1, some [i64 r7, i64 r8, sl r9.length (r9.map f32)]⟩, ⟨1, some [i64 r10, i64 r11, sl r13.length (r13.map f32)]⟩, ⟨1, some [i64 r14, i64 r15, sl r17.length (r17.map f32)]⟩, ⟨1, some [i64 r20, i64 r21, sl r23.length (r23.map f32)]⟩, ⟨1, some [i64 r26, i64 r27, sl r29.length (r29.map f32)]⟩, ⟨0, none⟩, ⟨0, none⟩, ⟨0, none⟩, ⟨0, none⟩]) rfl rfl rfl (TOp.loadAgg_o rfl agg26 siz26 rfl rfl rfl rfl) rfl ?_
  refine ROps.d (r := tup [agg [i64 r30, i64 r31, sl r33.length (r33.map f32)], b r32]) (fs := []) (Γ' := [⟨1, some [i64 r2, i64 r3, sl r4.length (r4.map f32)]⟩, ⟨1, some [i64 r7, i64 r8, sl r9.length (r9.map f32)]⟩, ⟨1, some [i64 r10, i64 r11, sl r13.length (r13.map f32)]⟩, ⟨1, some [i64 r14, i64 r15, sl r17.length (r17.map f32)]⟩, ⟨1, some [i64 r20, i64 r21, sl r23.length (r23.map f32)]⟩, ⟨1, some [i64 r26, i64 r27, sl r29.length (r29.map f32)]⟩, ⟨0, none⟩, ⟨0, none⟩, ⟨0, none⟩, ⟨0, none⟩]) rfl rfl rfl (TOp.callS (CallAs.func ent14 rfl rfl) (ALes.cons aR ALes.nil) (lts_cons (lt_agg (lts_cons rfl (lts_cons rfl (lts_cons (lt_sl (fun _ => rfl)) lts_nil)))) lts_nil) (lt_tup (lts_cons (lt_agg (lts_cons rfl (lts_cons rfl (lts_cons (lt_sl (fun _ => rfl)) lts_nil)))) (lts_cons rfl lts_nil))) (i_FlipMatrix_ok r2 r3 r4 r30 r31 r32 r33 hf15) (Bor.tup (Bors.cons (Bor.agg (Bors.cons (Bor.pure rfl) (Bors.cons (Bor.pure rfl) (Bors.cons (Bor.own (f := f32) (fun _ => rfl) rfl rfl) Bors.nil)))) (Bors.cons (Bor.pure rfl) Bors.nil)))) rfl ?_
  refine zM (r := tup [agg [i64 r30, i64 r31, sl r33.length (r33.map f32)], b r32]) rfl rfl rfl rfl rfl ?_
  refine zL (r := agg [i64 r30, i64 r31, sl r33.length (r33.map f32)]) rfl rfl rfl (LOp.extract rfl rfl rfl) ?_
  refine zL (r := b r32) rfl rfl rfl (LOp.extract rfl rfl rfl) ?_
  refine ROps.d (r := optr 6 1 0) (fs := [(6, [i64 0, i64 0, nilsl])]) (Γ' := [⟨1, some [i64 r2, i64 r3, sl r4.length (r4.map f32)]⟩, ⟨1, some [i64 r7, i64 r8, sl r9.length (r9.map f32)]⟩, ⟨1, some [i64 r10, i64 r11, sl r13.length (r13.map f32)]⟩, ⟨1, some [i64 r14, i64 r15, sl r17.length (r17.map f32)]⟩, ⟨1, some [i64 r20, i64 r21, sl r23.length (r23.map f32)]⟩, ⟨1, some [i64 r26, i64 r27, sl r29.length (r29.map f32)]⟩, ⟨1, some [i64 0, i64 0, nilsl]⟩, ⟨0, none⟩, ⟨0, none⟩, ⟨0, none⟩]) rfl rfl rfl (TOp.alloc_o (g := ⟨0, none⟩) 6 rfl zer26 zok26 rfl) rfl ?_
  refine ROps.store_le (r := agg [i64 r30, i64 r31, sl r33.length (r33.map f32)]) (l' := [i64 r30, i64 r31, sl r33.length (r33.map f32)]) (Γ' := [⟨1, some [i64 r2, i64 r3, sl r4.length (r4.map f32)]⟩, ⟨1, some [i64 r7, i64 r8, sl r9.length (r9.map f32)]⟩, ⟨1, some [i64 r10, i64 r11, sl r13.length (r13.map f32)]⟩, ⟨1, some [i64 r14, i64 r15, sl r17.length (r17.map f32)]⟩, ⟨1, some [i64 r20, i64 r21, sl r23.length (r23.map f32)]⟩, ⟨1, some [i64 r26, i64 r27, sl r29.length (r29.map f32)]⟩, ⟨1, some [i64 r30, i64 r31, sl r33.length (r33.map f32)]⟩, ⟨0, none⟩, ⟨0, none⟩, ⟨0, none⟩]) rfl siz26 rfl rfl rfl aR rfl rfl rfl rfl (Nat.le_of_ble_eq_true rfl) rfl rfl ?_
  refine zA (r := b r32) rfl rfl rfl rfl rfl ?_
  refine zN ?_
  refine RunC.seq ?_
  obtain ⟨r34, r35, r36, r37, hf16, h⟩ := obind4_some h
  refine RunC.regionW ?_
  refine ROps.d (r := agg [i64 r7, i64 r8, sl r9.length (r9.map f32)]) (fs := []) (Γ' := [⟨1, some [i64 r2, i64 r3, sl r4.length (r4.map f32)]⟩, ⟨1, some [i64 r7, i64 r8, sl r9.length (r9.map f32)]⟩, ⟨1, some [i64 r10, i64 r11, sl r13.length (r13.map f32)]⟩, ⟨1, some [i64 r14, i64 r15, sl r17.length (r17.map f32)]⟩, ⟨1, some [i64 r20, i64 r21, sl r23.length (r23.map f32)]⟩, ⟨1, some [i64 r26, i64 r27, sl r29.length (r29.map f32)]⟩, ⟨1, some [i64 r30, i64 r31, sl r33.length (r33.map f32)]⟩, ⟨0, none⟩, ⟨0, none⟩, ⟨0, none⟩]) rfl rfl rfl (TOp.loadAgg_o rfl agg26 siz26 rfl rfl rfl rfl) rfl ?_
  refine ROps.d (r := tup [agg [i64 r34, i64 r35, sl r37.length (r37.map f32)], b r36]) (fs := []) (Γ' := [⟨1, some [i64 r2, i64 r3, sl r4.length (r4.map f32)]⟩, ⟨1, some [i64 r7, i64 r8, sl r9.length (r9.map f32)]⟩, ⟨1, some [i64 r10, i64 r11, sl r13.length (r13.map f32)]⟩, ⟨1, some [i64 r14, i64 r15, sl r17.length (r17.map f32)]⟩, ⟨1, some [i64 r20, i64 r21, sl r23.length (r23.map f32)]⟩, ⟨1, some [i64 r26, i64 r27, sl r29.length (r29.map f32)]⟩, ⟨1, some [i64 r30, i64 r31, sl r33.length (r33.map f32)]⟩, ⟨0, none⟩, ⟨0, none⟩, ⟨0, none⟩]) rfl rfl rfl (TOp.callS (CallAs.func ent14 rfl rfl) (ALes.cons aR ALes.nil) (lts_cons (lt_agg (lts_cons rfl (lts_cons rfl (lts_cons (lt_sl (fun _ => rfl)) lts_nil)))) lts_nil) (lt_tup (lts_cons (lt_agg (lts_cons rfl (lts_cons rfl (lts_cons (lt_sl (fun _ => rfl)) lts_nil)))) (lts_cons rfl lts_nil))) (i_FlipMatrix_ok r7 r8 r9 r34 r35 r36 r37 hf16) (Bor.tup (Bors.cons (Bor.agg (Bors.cons (Bor.pure rfl) (Bors.cons (Bor.pure rfl) (Bors.cons (Bor.own (f := f32) (fun _ => rfl) rfl rfl) Bors.nil)))) (Bors.cons (Bor.pure rfl) Bors.nil)))) rfl ?_
  refine zM (r := tup [agg [i64 r34, i64 r35, sl r37.length (r37.map f32)], b r36]) rfl rfl rfl rfl rfl ?_
  refine zL (r := agg [i64 r34, i64 r35, sl r37.length (r37.map f32)]) rfl rfl rfl (LOp.extract rfl rfl rfl) ?_
  refine zL (r := b r36) rfl rfl rfl (LOp.extract rfl rfl rfl) ?_
  refine ROps.d (r := optr 7 1 0) (fs := [(7, [i64 0, i64 0, nilsl])]) (Γ' := [⟨1, some [i64 r2, i64 r3, sl r4.length (r4.map f32)]⟩, ⟨1, some [i64 r7, i64 r8, sl r9.length (r9.map f32)]⟩, ⟨1, some [i64 r10, i64 r11, sl r13.length (r13.map f32)]⟩, ⟨1, some [i64 r14, i64 r15, sl r17.length (r17.map f32)]⟩, ⟨1, some [i64 r20, i64 r21, sl r23.length (r23.map f32)]⟩, ⟨1, some [i64 r26, i64 r27, sl r29.length (r29.map f32)]⟩, ⟨1, some [i64 r30, i64 r31, sl r33.length (r33.map f32)]⟩, ⟨1, some [i64 0, i64 0, nilsl]⟩, ⟨0, none⟩, ⟨0, none⟩]) rfl rfl rfl (TOp.alloc_o (g := ⟨0, none⟩) 7 rfl zer26 zok26 rfl) rfl ?_
  refine ROps.store_le (r := agg [i64 r34, i64 r35, sl r37.length (r37.map f32)]) (l' := [i64 r34, i64 r35, sl r37.length (r37.map f32)]) (Γ' := [⟨1, some [i64 r2, i64 r3, sl r4.length (r4.map f32)]⟩, ⟨1, some [i64 r7, i64 r8, sl r9.length (r9.map f32)]⟩, ⟨1, some [i64 r10, i64 r11, sl r13.length (r13.map f32)]⟩, ⟨1, some [i64 r14, i64 r15, sl r17.length (r17.map f32)]⟩, ⟨1, some [i64 r20, i64 r21, sl r23.length (r23.map f32)]⟩, ⟨1, some [i64 r26, i64 r27, sl r29.length (r29.map f32)]⟩, ⟨1, some [i64 r30, i64 r31, sl r33.length (r33.map f32)]⟩, ⟨1, some [i64 r34, i64 r35, sl r37.length (r37.map f32)]⟩, ⟨0, none⟩, ⟨0, none⟩]) rfl siz26 rfl rfl rfl aR rfl rfl rfl rfl (Nat.le_of_ble_eq_true rfl) rfl rfl ?_
  refine zA (r := b r36) rfl rfl rfl rfl rfl ?_
  refine zN ?_
  refine RunC.seq ?_
  obtain ⟨r38, r39, r40, r41, hf17, h⟩ := obind4_some h
  refine RunC.regionW ?_
  refine ROps.d (r := agg [i64 r34, i64 r35, sl r37.length (r37.map f32)]) (fs := []) (Γ' := [⟨1, some [i64 r2, i64 r3, sl r4.length (r4.map f32)]⟩, ⟨1, some [i64 r7, i64 r8, sl r9.length (r9.map f32)]⟩, ⟨1, some [i64 r10, i64 r11, sl r13.length (r13.map f32)]⟩, ⟨1, some [i64 r14, i64 r15, sl r17.length (r17.map f32)]⟩, ⟨1, some [i64 r20, i64 r21, sl r23.length (r23.map f32)]⟩, ⟨1, some [i64 r26, i64 r27, sl r29.length (r29.map f32)]⟩, ⟨1, some [i64 r30, i64 r31, sl r33.length (r33.map f32)]⟩, ⟨1, some [i64 r34, i64 r35, sl r37.length (r37.map f32)]⟩, ⟨0, none⟩, ⟨0, none⟩]) rfl rfl rfl (TOp.loadAgg_o rfl agg26 siz26 rfl rfl rfl rfl) rfl ?_
  refine ROps.d (r := agg [i64 r30, i64 r31, sl r33.length (r33.map f32)]) (fs := []) (Γ' := [⟨1, some [i64 r2, i64 r3, sl r4.length (r4.map f32)]⟩, ⟨1, some [i64 r7, i64 r8, sl r9.length (r9.map f32)]⟩, ⟨1, some [i64 r10, i64 r11, sl r13.length (r13.map f32)]⟩, ⟨1, some [i64 r14, i64 r15, sl r17.length (r17.map f32)]⟩, ⟨1, some [i64 r20, i64 r21, sl r23.length (r23.map f32)]⟩, ⟨1, some [i64 r26, i64 r27, sl r29.length (r29.map f32)]⟩, ⟨1, some [i64 r30, i64 r31, sl r33.length (r33.map f32)]⟩, ⟨1, some [i64 r34, i64 r35, sl r37.length (r37.map f32)]⟩, ⟨0, none⟩, ⟨0, none⟩]) rfl rfl rfl (TOp.loadAgg_o rfl agg26 siz26 rfl rfl rfl rfl) rfl ?_
  refine ROps.d (r := tup [agg [i64 r38, i64 r39, sl r41.length (r41.map f32)], b r40]) (fs := []) (Γ' := [⟨1, some [i64 r2, i64 r3, sl r4.length (r4.map f32)]⟩, ⟨1, some [i64 r7, i64 r8, sl r9.length (r9.map f32)]⟩, ⟨1, some [i64 r10, i64 r11, sl r13.length (r13.map f32)]⟩, ⟨1, some [i64 r14, i64 r15, sl r17.length (r17.map f32)]⟩, ⟨1, some [i64 r20, i64 r21, sl r23.length (r23.map f32)]⟩, ⟨1, some [i64 r26, i64 r27, sl r29.length (r29.map f32)]⟩, ⟨1, some [i64 r30, i64 r31, sl r33.length (r33.map f32)]⟩, ⟨1, some [i64 r34, i64 r35, sl r37.length (r37.map f32)]⟩, ⟨0, none⟩, ⟨0, none⟩]) rfl rfl rfl (TOp.callS (CallAs.func ent11 rfl rfl) (ALes.cons aR (ALes.cons aR ALes.nil)) (lts_cons (lt_agg (lts_cons rfl (lts_cons rfl (lts_cons (lt_sl (fun _ => rfl)) lts_nil)))) (lts_cons (lt_agg (lts_cons rfl (lts_cons rfl (lts_cons (lt_sl (fun _ => rfl)) lts_nil)))) lts_nil)) (lt_tup (lts_cons (lt_agg (lts_cons rfl (lts_cons rfl (lts_cons (lt_sl (fun _ => rfl)) lts_nil)))) (lts_cons rfl lts_nil))) (i_MulMatrices_ok r34 r35 r37 r30 r31 r33 r38 r39 r40 r41 hf17) (Bor.tup (Bors.cons (Bor.agg (Bors.cons (Bor.pure rfl) (Bors.cons (Bor.pure rfl) (Bors.cons (Bor.own (f := f32) (fun _ => rfl) rfl rfl) Bors.nil)))) (Bors.cons (Bor.pure rfl) Bors.nil)))) rfl ?_
  refine zM (r := tup [agg [i64 r38, i64 r39, sl r41.length (r41.map f32)], b r40]) rfl rfl rfl rfl rfl ?_
  refine zL (r := agg [i64 r38, i64 r39, sl r41.length (r41.map f32)]) rfl rfl rfl (LOp.extract rfl rfl rfl) ?_
  refine zL (r := b r40) rfl rfl rfl (LOp.extract rfl rfl rfl) ?_
  refine ROps.d (r := optr 8 1 0) (fs := [(8, [i64 0, i64 0, nilsl])]) (Γ' := [⟨1, some [i64 r2, i64 r3, sl r4.length (r4.map f32)]⟩, ⟨1, some [i64 r7, i64 r8, sl r9.length (r9.map f32)]⟩, ⟨1, some [i64 r10, i64 r11, sl r13.length (r13.map f32)]⟩, ⟨1, some [i64 r14, i64 r15, sl r17.length (r17.map f32)]⟩, ⟨1, some [i64 r20, i64 r21, sl r23.length (r23.map f32)]⟩, ⟨1, some [i64 r26, i64 r27, sl r29.length (r29.map f32)]⟩, ⟨1, some [i64 r30, i64 r31, sl r33.length (r33.map f32)]⟩, ⟨1, some [i64 r34, i64 r35, sl r37.length (r37.map f32)]⟩, ⟨1, some [i64 0, i64 0, nilsl]⟩, ⟨0, none⟩]) rfl rfl rfl (TOp.alloc_o (g := ⟨0, none⟩) 8 rfl zer26 zok26 rfl) rfl ?_
  refine ROps.store_le (r := agg [i64 r38, i64 r39, sl r41.length (r41.map f32)]) (l' := [i64 r38, i64 r39, sl r41.length (r41.map f32)]) (Γ' := [⟨1, some [i64 r2, i64 r3, sl r4.length (r4.map f32)]⟩, ⟨1, some [i64 r7, i64 r8, sl r9.length (r9.map f32)]⟩, ⟨1, some [i64 r10, i64 r11, sl r13.length (r13.map f32)]⟩, ⟨1, some [i64 r14, i64 r15, sl r17.length (r17.map f32)]⟩, ⟨1, some [i64 r20, i64 r21, sl r23.length (r23.map f32)]⟩, ⟨1, some [i64 r26, i64 r27, sl r29.length (r29.map f32)]⟩, ⟨1, some [i64 r30, i64 r31, sl r33.length (r33.map f32)]⟩, ⟨1, some [i64 r34, i64 r35, sl r37.length (r37.map f32)]⟩, ⟨1, some [i64 r38, i64 r39, sl r41.length (r41.map f32)]⟩, ⟨0, none⟩]) rfl siz26 rfl rfl rfl aR rfl rfl rfl rfl (Nat.le_of_ble_eq_true rfl) rfl rfl ?_
  refine zA (r := b r40) rfl rfl rfl rfl rfl ?_
  refine zN ?_
  refine RunC.wl (τ' := [(1, sl a1.length (a1.map (ik .u8))), (5, optr 0 1 0), (6, i64 x6), (7, optr 1 1 0), (8, optr 2 1 0), (9, b r12), (10, optr 3 1 0), (11, b r16), (12, optr 4 1 0), (13, b r22), (14, optr 5 1 0), (15, b r28), (17, b r32), (19, b r36), (20, optr 8 1 0), (21, b r40)]) (Γ' := [⟨1, some [i64 r2, i64 r3, sl r4.length (r4.map f32)]⟩, ⟨1, some [i64 r7, i64 r8, sl r9.length (r9.map f32)]⟩, ⟨1, some [i64 r10, i64 r11, sl r13.length (r13.map f32)]⟩, ⟨1, some [i64 r14, i64 r15, sl r17.length (r17.map f32)]⟩, ⟨1, some [i64 r20, i64 r21, sl r23.length (r23.map f32)]⟩, ⟨1, some [i64 r26, i64 r27, sl r29.length (r29.map f32)]⟩, ⟨1, none⟩, ⟨1, none⟩, ⟨1, some [i64 r38, i64 r39, sl r41.length (r41.map f32)]⟩, ⟨0, none⟩]) ⟨aR, aR, aR, aR, aR, aR, aR, aR, aR, aR, aR, aR, aR, aR, aR, aR, trivial⟩ ⟨⟨rfl, .inr rfl⟩, ⟨rfl, .inr rfl⟩, ⟨rfl, .inr rfl⟩, ⟨rfl, .inr rfl⟩, ⟨rfl, .inr rfl⟩, ⟨rfl, .inr rfl⟩, ⟨rfl, .inl rfl⟩, ⟨rfl, .inl rfl⟩, ⟨rfl, .inr rfl⟩, ⟨rfl, .inr rfl⟩, trivial⟩ ?_
  refine RunC.seq ?_
  obtain ⟨r42, r43, r44, r45, hf18, h⟩ := obind4_some h
  refine RunC.regionW ?_
  refine ROps.d (r := agg [i64 r10, i64 r11, sl r13.length (r13.map f32)]) (fs := []) (Γ' := [⟨1, some [i64 r2, i64 r3, sl r4.length (r4.map f32)]⟩, ⟨1, some [i64 r7, i64 r8, sl r9.length (r9.map f32)]⟩, ⟨1, some [i64 r10, i64 r11, sl r13.length (r13.map f32)]⟩, ⟨1, some [i64 r14, i64 r15, sl r17.length (r17.map f32)]⟩, ⟨1, some [i64 r20, i64 r21, sl r23.length (r23.map f32)]⟩, ⟨1, some [i64 r26, i64 r27, sl r29.length (r29.map f32)]⟩, ⟨1, none⟩, ⟨1, none⟩, ⟨1, some [i64 r38, i64 r39, sl r41.length (r41.map f32)]⟩, ⟨0, none⟩]) rfl rfl rfl (TOp.loadAgg_o rfl agg26 siz26 rfl rfl rfl rfl) rfl ?_
  refine ROps.d (r := tup [agg [i64 r42, i64 r43, sl r45.length (r45.map f32)], b r44]) (fs := []) (Γ' := [⟨1, some [i64 r2, i64 r3, sl r4.length (r4.map f32)]⟩, ⟨1, some [i64 r7, i64 r8, sl r9.length (r9.map f32)]⟩, ⟨1, some [i64 r10, i64 r11, sl r13.length (r13.map f32)]⟩, ⟨1, some [i64 r14, i64 r15, sl r17.length (r17.map f32)]⟩, ⟨1, some [i64 r20, i64 r21, sl r23.length (r23.map f32)]⟩, ⟨1, some [i64 r26, i64 r27, sl r29.length (r29.map f32)]⟩, ⟨1, none⟩, ⟨1, none⟩, ⟨1, some [i64 r38, i64 r39, sl r41.length (r41.map f32)]⟩, ⟨0, none⟩]) rfl rfl rfl (TOp.callS (CallAs.func ent14 rfl rfl) (ALes.cons aR ALes.nil) (lts_cons (lt_agg (lts_cons rfl (lts_cons rfl (lts_cons (lt_sl (fun _ => rfl)) lts_nil)))) lts_nil) (lt_tup (lts_cons (lt_agg (lts_cons rfl (lts_cons rfl (lts_cons (lt_sl (fun _ => rfl)) lts_nil)))) (lts_cons rfl lts_nil))) (i_FlipMatrix_ok r10 r11 r13 r42 r43 r44 r45 hf18) (Bor.tup (Bors.cons (Bor.agg (Bors.cons (Bor.pure rfl) (Bors.cons (Bor.pure rfl) (Bors.cons (Bor.own (f := f32) (fun _ => rfl) rfl rfl) Bors.nil)))) (Bors.cons (Bor.pure rfl) Bors.nil)))) rfl ?_
  refine zM (r := tup [agg [i64 r42, i64 r43, sl r45.length (r45.map f32)], b r44]) rfl rfl rfl rfl rfl ?_
  refine zL (r := agg [i64 r42, i64 r43, sl r45.length (r45.map f32)]) rfl rfl rfl (LOp.extract rfl rfl rfl) ?_
  refine zL (r := b r44) rfl rfl rfl (LOp.extract rfl rfl rfl) ?_
  refine ROps.d (r := optr 6 2 0) (fs := [(6, [i64 0, i64 0, nilsl])]) (Γ' := [⟨1, some [i64 r2, i64 r3, sl r4.length (r4.map f32)]⟩, ⟨1, some [i64 r7, i64 r8, sl r9.length (r9.map f32)]⟩, ⟨1, some [i64 r10, i64 r11, sl r13.length (r13.map f32)]⟩, ⟨1, some [i64 r14, i64 r15, sl r17.length (r17.map f32)]⟩, ⟨1, some [i64 r20, i64 r21, sl r23.length (r23.map f32)]⟩, ⟨1, some [i64 r26, i64 r27, sl r29.length (r29.map f32)]⟩, ⟨2, some [i64 0, i64 0, nilsl]⟩, ⟨1, none⟩, ⟨1, some [i64 r38, i64 r39, sl r41.length (r41.map f32)]⟩, ⟨0, none⟩]) rfl rfl rfl (TOp.alloc_o (g := ⟨1, none⟩) 6 rfl zer26 zok26 rfl) rfl ?_
  refine ROps.store_le (r := agg [i64 r42, i64 r43, sl r45.length (r45.map f32)]) (l' := [i64 r42, i64 r43, sl r45.length (r45.map f32)]) (Γ' := [⟨1, some [i64 r2, i64 r3, sl r4.length (r4.map f32)]⟩, ⟨1, some [i64 r7, i64 r8, sl r9.length (r9.map f32)]⟩, ⟨1, some [i64 r10, i64 r11, sl r13.length (r13.map f32)]⟩, ⟨1, some [i64 r14, i64 r15, sl r17.length (r17.map f32)]⟩, ⟨1, some [i64 r20, i64 r21, sl r23.length (r23.map f32)]⟩, ⟨1, some [i64 r26, i64 r27, sl r29.length (r29.map f32)]⟩, ⟨2, some [i64 r42, i64 r43, sl r45.length (r45.map f32)]⟩, ⟨1, none⟩, ⟨1, some [i64 r38, i64 r39, sl r41.length (r41.map f32)]⟩, ⟨0, none⟩]) rfl siz26 rfl rfl rfl aR rfl rfl rfl rfl (Nat.le_of_ble_eq_true rfl) rfl rfl ?_
  refine zA (r := b r44) rfl rfl rfl rfl rfl ?_
  refine zN ?_
  refine RunC.seq ?_
  obtain ⟨r46, r47, r48, r49, hf19, h⟩ := obind4_some h
  refine RunC.regionW ?_
  refine zL (r := optr 0 1 1) rfl rfl rfl (LOp.fao und26 rfl siz2 rfl rfl rfl) ?_
  refine ROps.d (r := i64 r3) (fs := []) (Γ' := [⟨1, some [i64 r2, i64 r3, sl r4.length (r4.map f32)]⟩, ⟨1, some [i64 r7, i64 r8, sl r9.length (r9.map f32)]⟩, ⟨1, some [i64 r10, i64 r11, sl r13.length (r13.map f32)]⟩, ⟨1, some [i64 r14, i64 r15, sl r17.length (r17.map f32)]⟩, ⟨1, some [i64 r20, i64 r21, sl r23.length (r23.map f32)]⟩, ⟨1, some [i64 r26, i64 r27, sl r29.length (r29.map f32)]⟩, ⟨2, some [i64 r42, i64 r43, sl r45.length (r45.map f32)]⟩, ⟨1, none⟩, ⟨1, some [i64 r38, i64 r39, sl r41.length (r41.map f32)]⟩, ⟨0, none⟩]) rfl rfl rfl (TOp.load1_o rfl rfl agg2 rfl rfl) rfl ?_
  refine ROps.d (r := tup [agg [i64 r46, i64 r47, sl r49.length (r49.map f32)], b r48]) (fs := []) (Γ' := [⟨1, some [i64 r2, i64 r3, sl r4.length (r4.map f32)]⟩, ⟨1, some [i64 r7, i64 r8, sl r9.length (r9.map f32)]⟩, ⟨1, some [i64 r10, i64 r11, sl r13.length (r13.map f32)]⟩, ⟨1, some [i64 r14, i64 r15, sl r17.length (r17.map f32)]⟩, ⟨1, some [i64 r20, i64 r21, sl r23.length (r23.map f32)]⟩, ⟨1, some [i64 r26, i64 r27, sl r29.length (r29.map f32)]⟩, ⟨2, some [i64 r42, i64 r43, sl r45.length (r45.map f32)]⟩, ⟨1, none⟩, ⟨1, some [i64 r38, i64 r39, sl r41.length (r41.map f32)]⟩, ⟨0, none⟩]) rfl rfl rfl (TOp.callS (CallAs.func ent15 rfl rfl) (ALes.cons aR ALes.nil) (lts_cons rfl lts_nil) (lt_tup (lts_cons (lt_agg (lts_cons rfl (lts_cons rfl (lts_cons (lt_sl (fun _ => rfl)) lts_nil)))) (lts_cons rfl lts_nil))) (i_UnitMatrix_ok r3 r46 r47 r48 r49 hf19) (Bor.tup (Bors.cons (Bor.agg (Bors.cons (Bor.pure rfl) (Bors.cons (Bor.pure rfl) (Bors.cons (Bor.own (f := f32) (fun _ => rfl) rfl rfl) Bors.nil)))) (Bors.cons (Bor.pure rfl) Bors.nil)))) rfl ?_
  refine zM (r := tup [agg [i64 r46, i64 r47, sl r49.length (r49.map f32)], b r48]) rfl rfl rfl rfl rfl ?_
  refine zL (r := agg [i64 r46, i64 r47, sl r49.length (r49.map f32)]) rfl rfl rfl (LOp.extract rfl rfl rfl) ?_
  refine zL (r := b r48) rfl rfl rfl (LOp.extract rfl rfl rfl) ?_
  refine ROps.d (r := optr 7 2 0) (fs := [(7, [i64 0, i64 0, nilsl])]) (Γ' := [⟨1, some [i64 r2, i64 r3, sl r4.length (r4.map f32)]⟩, ⟨1, some [i64 r7, i64 r8, sl r9.length (r9.map f32)]⟩, ⟨1, some [i64 r10, i64 r11, sl r13.length (r13.map f32)]⟩, ⟨1, some [i64 r14, i64 r15, sl r17.length (r17.map f32)]⟩, ⟨1, some [i64 r20, i64 r21, sl r23.length (r23.map f32)]⟩, ⟨1, some [i64 r26, i64 r27, sl r29.length (r29.map f32)]⟩, ⟨2, some [i64 r42, i64 r43, sl r45.length (r45.map f32)]⟩, ⟨2, some [i64 0, i64 0, nilsl]⟩, ⟨1, some [i64 r38, i64 r39, sl r41.length (r41.map f32)]⟩, ⟨0, none⟩]) rfl rfl rfl (TOp.alloc_o (g := ⟨1, none⟩) 7 rfl zer26 zok26 rfl) rfl ?_
  refine ROps.store_le (r := agg [i64 r46, i64 r47, sl r49.length (r49.map f32)]) (l' := [i64 r46, i64 r47, sl r49.length (r49.map f32)]) (Γ' := [⟨1, some [i64 r2, i64 r3, sl r4.length (r4.map f32)]⟩, ⟨1, some [i64 r7, i64 r8, sl r9.length (r9.map f32)]⟩, ⟨1, some [i64 r10, i64 r11, sl r13.length (r13.map f32)]⟩, ⟨1, some [i64 r14, i64 r15, sl r17.length (r17.map f32)]⟩, ⟨1, some [i64 r20, i64 r21, sl r23.length (r23.map f32)]⟩, ⟨1, some [i64 r26, i64 r27, sl r29.length (r29.map f32)]⟩, ⟨2, some [i64 r42, i64 r43, sl r45.length (r45.map f32)]⟩, ⟨2, some [i64 r46, i64 r47, sl r49.length (r49.map f32)]⟩, ⟨1, some [i64 r38, i64 r39, sl r41.length (r41.map f32)]⟩, ⟨0, none⟩]) rfl siz26 rfl rfl rfl aR rfl rfl rfl rfl (Nat.le_of_ble_eq_true rfl) rfl rfl ?_
  refine zA (r := b r48) rfl rfl rfl rfl rfl ?_
  refine zN ?_
  refine RunC.seq ?_
  obtain ⟨r50, r51, r52, r53, hf20, h⟩ := obind4_some h
  refine RunC.regionW ?_
  refine ROps.d (r := agg [i64 r2, i64 r3, sl r4.length (r4.map f32)]) (fs := []) (Γ' := [⟨1, some [i64 r2, i64 r3, sl r4.length (r4.map f32)]⟩, ⟨1, some [i64 r7, i64 r8, sl r9.length (r9.map f32)]⟩, ⟨1, some [i64 r10, i64 r11, sl r13.length (r13.map f32)]⟩, ⟨1, some [i64 r14, i64 r15, sl r17.length (r17.map f32)]⟩, ⟨1, some [i64 r20, i64 r21, sl r23.length (r23.map f32)]⟩, ⟨1, some [i64 r26, i64 r27, sl r29.length (r29.map f32)]⟩, ⟨2, some [i64 r42, i64 r43, sl r45.length (r45.map f32)]⟩, ⟨2, some [i64 r46, i64 r47, sl r49.length (r49.map f32)]⟩, ⟨1, some [i64 r38, i64 r39, sl r41.length (r41.map f32)]⟩, ⟨0, none⟩]) rfl rfl rfl (TOp.loadAgg_o rfl agg26 siz26 rfl rfl rfl rfl) rfl ?_
  refine ROps.d (r := agg [i64 r46, i64 r47, sl r49.length (r49.map f32)]) (fs := []) (Γ' := [⟨1, some [i64 r2, i64 r3, sl r4.length (r4.map f32)]⟩, ⟨1, some [i64 r7, i64 r8, sl r9.length (r9.map f32)]⟩, ⟨1, some [i64 r10, i64 r11, sl r13.length (r13.map f32)]⟩, ⟨1, some [i64 r14, i64 r15, sl r17.length (r17.map f32)]⟩, ⟨1, some [i64 r20, i64 r21, sl r23.length (r23.map f32)]⟩, ⟨1, some [i64 r26, i64 r27, sl r29.length (r29.map f32)]⟩, ⟨2, some [i64 r42, i64 r43, sl r45.length (r45.map f32)]⟩, ⟨2, some [i64 r46, i64 r47, sl r49.length (r49.map f32)]⟩, ⟨1, some [i64 r38, i64 r39, sl r41.length (r41.map f32)]⟩, ⟨0, none⟩]) rfl rfl rfl (TOp.loadAgg_o rfl agg26 siz26 rfl rfl rfl rfl) rfl ?_
  refine ROps.d (r := tup [agg [i64 r50, i64 r51, sl r53.length (r53.map f32)], b r52]) (fs := []) (Γ' := [⟨1, some [i64 r2, i64 r3, sl r4.length (r4.map f32)]⟩, ⟨1, some [i64 r7, i64 r8, sl r9.length (r9.map f32)]⟩, ⟨1, some [i64 r10, i64 r11, sl r13.length (r13.map f32)]⟩, ⟨1, some [i64 r14, i64 r15, sl r17.length (r17.map f32)]⟩, ⟨1, some [i64 r20, i64 r21, sl r23.length (r23.map f32)]⟩, ⟨1, some [i64 r26, i64 r27, sl r29.length (r29.map f32)]⟩, ⟨2, some [i64 r42, i64 r43, sl r45.length (r45.map f32)]⟩, ⟨2, some [i64 r46, i64 r47, sl r49.length (r49.map f32)]⟩, ⟨1, some [i64 r38, i64 r39, sl r41.length (r41.map f32)]⟩, ⟨0, none⟩]) rfl rfl rfl (TOp.callS (CallAs.func ent11 rfl rfl) (ALes.cons aR (ALes.cons aR ALes.nil)) (lts_cons (lt_agg (lts_cons rfl (lts_cons rfl (lts_cons (lt_sl (fun _ => rfl)) lts_nil)))) (lts_cons (lt_agg (lts_cons rfl (lts_cons rfl (lts_cons (lt_sl (fun _ => rfl)) lts_nil)))) lts_nil)) (lt_tup (lts_cons (lt_agg (lts_cons rfl (lts_cons rfl (lts_cons (lt_sl (fun _ => rfl)) lts_nil)))) (lts_cons rfl lts_nil))) (i_MulMatrices_ok r2 r3 r4 r46 r47 r49 r50 r51 r52 r53 hf20) (Bor.tup (Bors.cons (Bor.agg (Bors.cons (Bor.pure rfl) (Bors.cons (Bor.pure rfl) (Bors.cons (Bor.own (f := f32) (fun _ => rfl) rfl rfl) Bors.nil)))) (Bors.cons (Bor.pure rfl) Bors.nil)))) rfl ?_
  refine zM (r := tup [agg [i64 r50, i64 r51, sl r53.length (r53.map f32)], b r52]) rfl rfl rfl rfl rfl ?_
  refine zL (r := agg [i64 r50, i64 r51, sl r53.length (r53.map f32)]) rfl rfl rfl (LOp.extract rfl rfl rfl) ?_
  refine zL (r := b r52) rfl rfl rfl (LOp.extract rfl rfl rfl) ?_
  refine ROps.d (r := optr 9 1 0) (fs := [(9, [i64 0, i64 0, nilsl])]) (Γ' := [⟨1, some [i64 r2, i64 r3, sl r4.length (r4.map f32)]⟩, ⟨1, some [i64 r7, i64 r8, sl r9.length (r9.map f32)]⟩, ⟨1, some [i64 r10, i64 r11, sl r13.length (r13.map f32)]⟩, ⟨1, some [i64 r14, i64 r15, sl r17.length (r17.map f32)]⟩, ⟨1, some [i64 r20, i64 r21, sl r23.length (r23.map f32)]⟩, ⟨1, some [i64 r26, i64 r27, sl r29.length (r29.map f32)]⟩, ⟨2, some [i64 r42, i64 r43, sl r45.length (r45.map f32)]⟩, ⟨2, some [i64 r46, i64 r47, sl r49.length (r49.map f32)]⟩, ⟨1, some [i64 r38, i64 r39, sl r41.length (r41.map f32)]⟩, ⟨1, some [i64 0, i64 0, nilsl]⟩]) rfl rfl rfl (TOp.alloc_o (g := ⟨0, none⟩) 9 rfl zer26 zok26 rfl) rfl ?_
  refine ROps.store_le (r := agg [i64 r50, i64 r51, sl r53.length (r53.map f32)]) (l' := [i64 r50, i64 r51, sl r53.length (r53.map f32)]) (Γ' := [⟨1, some [i64 r2, i64 r3, sl r4.length (r4.map f32)]⟩, ⟨1, some [i64 r7, i64 r8, sl r9.length (r9.map f32)]⟩, ⟨1, some [i64 r10, i64 r11, sl r13.length (r13.map f32)]⟩, ⟨1, some [i64 r14, i64 r15, sl r17.length (r17.map f32)]⟩, ⟨1, some [i64 r20, i64 r21, sl r23.length (r23.map f32)]⟩, ⟨1, some [i64 r26, i64 r27, sl r29.length (r29.map f32)]⟩, ⟨2, some [i64 r42, i64 r43, sl r45.length (r45.map f32)]⟩, ⟨2, some [i64 r46, i64 r47, sl r49.length (r49.map f32)]⟩, ⟨1, some [i64 r38, i64 r39, sl r41.length (r41.map f32)]⟩, ⟨1, some [i64 r50, i64 r51, sl r53.length (r53.map f32)]⟩]) rfl siz26 rfl rfl rfl aR rfl rfl rfl rfl (Nat.le_of_ble_eq_true rfl) rfl rfl ?_
  refine zA (r := b r52) rfl rfl rfl rfl rfl ?_
  refine zN ?_
  refine RunC.wl (τ' := [(1, sl a1.length (a1.map (ik .u8))), (5, optr 0 1 0), (6, i64 x6), (7, optr 1 1 0), (8, optr 2 1 0), (9, b r12), (10, optr 3 1 0), (11, b r16), (12, optr 4 1 0), (13, b r22), (14, optr 5 1 0), (15, b r28), (17, b r32), (19, b r36), (20, optr 8 1 0), (21, b r40), (22, optr 6 2 0), (23, b r44), (25, b r48), (26, optr 9 1 0), (27, b r52)]) (Γ' := [⟨1, some [i64 r2, i64 r3, sl r4.length (r4.map f32)]⟩, ⟨1, some [i64 r7, i64 r8, sl r9.length (r9.map f32)]⟩, ⟨1, some [i64 r10, i64 r11, sl r13.length (r13.map f32)]⟩, ⟨1, some [i64 r14, i64 r15, sl r17.length (r17.map f32)]⟩, ⟨1, some [i64 r20, i64 r21, sl r23.length (r23.map f32)]⟩, ⟨1, some [i64 r26, i64 r27, sl r29.length (r29.map f32)]⟩, ⟨2, some [i64 r42, i64 r43, sl r45.length (r45.map f32)]⟩, ⟨2, none⟩, ⟨1, some [i64 r38, i64 r39, sl r41.length (r41.map f32)]⟩, ⟨1, some [i64 r50, i64 r51, sl r53.length (r53.map f32)]⟩]) ⟨aR, aR, aR, aR, aR, aR, aR, aR, aR, aR, aR, aR, aR, aR, aR, aR, aR, aR, aR, aR, aR, trivial⟩ ⟨⟨rfl, .inr rfl⟩, ⟨rfl, .inr rfl⟩, ⟨rfl, .inr rfl⟩, ⟨rfl, .inr rfl⟩, ⟨rfl, .inr rfl⟩, ⟨rfl, .inr rfl⟩, ⟨rfl, .inr rfl⟩, ⟨rfl, .inl rfl⟩, ⟨rfl, .inr rfl⟩, ⟨rfl, .inr rfl⟩, trivial⟩ ?_
  iterate 2 (refine RunC.seq ?_)
  refine RunC.cutN (fun τ Γ => ( Le 761 τ Γ [(1, sl a1.length (a1.map (ik .u8))), (5, optr 0 1 0), (6, i64 x6), (7, optr 1 1 0), (8, optr 2 1 0), (10, optr 3 1 0), (12, optr 4 1 0), (26, optr 9 1 0), (208, b true)] [⟨1, some [i64 r2, i64 r3, sl r4.length (r4.map f32)]⟩, ⟨1, some [i64 r7, i64 r8, sl r9.length (r9.map f32)]⟩, ⟨1, some [i64 r10, i64 r11, sl r13.length (r13.map f32)]⟩, ⟨1, some [i64 r14, i64 r15, sl r17.length (r17.map f32)]⟩, ⟨1, some [i64 r20, i64 r21, sl r23.length (r23.map f32)]⟩, ⟨1, none⟩, ⟨2, none⟩, ⟨2, none⟩, ⟨1, none⟩, ⟨1, some [i64 r50, i64 r51, sl r53.length (r53.map f32)]⟩] ∧ w_FnMatrices_k2 = some q0) ∨ ( Le 761 τ Γ [(1, sl a1.length (a1.map (ik .u8))), (5, optr 0 1 0), (6, i64 x6), (7, optr 1 1 0), (8, optr 2 1 0), (10, optr 3 1 0), (12, optr 4 1 0), (26, optr 9 1 0), (208, b false)] [⟨1, some [i64 r2, i64 r3, sl r4.length (r4.map f32)]⟩, ⟨1, some [i64 r7, i64 r8, sl r9.length (r9.map f32)]⟩, ⟨1, some [i64 r10, i64 r11, sl r13.length (r13.map f32)]⟩, ⟨1, some [i64 r14, i64 r15, sl r17.length (r17.map f32)]⟩, ⟨1, some [i64 r20, i64 r21, sl r23.length (r23.map f32)]⟩, ⟨1, none⟩, ⟨2, none⟩, ⟨2, none⟩, ⟨1, none⟩, ⟨1, some [i64 r50, i64 r51, sl r53.length (r53.map f32)]⟩] ∧ w_FnMatrices_k4 a1 r2 r3 r4 x6 r9 r13 r17 r23 r53 = some q0)) ?_ ?_
  ·rcases bsel_some h with ⟨hc21, h⟩ | ⟨hc21, h⟩
   ·rcases bsel_some h with ⟨hc22, h⟩ | ⟨hc22, h⟩
    ·rcases bsel_some h with ⟨hc23, h⟩ | ⟨hc23, h⟩
     ·rcases bsel_some h with ⟨hc24, h⟩ | ⟨hc24, h⟩
      ·rcases bsel_some h with ⟨hc25, h⟩ | ⟨hc25, h⟩
       ·rcases bsel_some h with ⟨hc26, h⟩ | ⟨hc26, h⟩
        ·rcases bsel_some h with ⟨hc27, h⟩ | ⟨hc27, h⟩
         ·rcases bsel_some h with ⟨hc28, h⟩ | ⟨hc28, h⟩
          ·rcases bsel_some h with ⟨hc29, h⟩ | ⟨hc29, h⟩
           ·rcases bsel_some h with ⟨hc30, h⟩ | ⟨hc30, h⟩
            ·obtain ⟨r54, hf31, h⟩ := obind_some h
             rcases bsel_some h with ⟨hc32, h⟩ | ⟨hc32, h⟩
             ·obtain ⟨r55, hf33, h⟩ := obind_some h
              rcases bsel_some h with ⟨hc34, h⟩ | ⟨hc34, h⟩
              ·rcases bsel_some h with ⟨hc35, h⟩ | ⟨hc35, h⟩
               ·refine RunC.regionW ?_
                refine zL (r := b true) rfl rfl rfl (LOp.eqb (LOp.move rfl rfl) hc21) ?_
                refine zL (r := b false) rfl rfl rfl (LOp.eqb (LOp.not rfl rfl) rfl) ?_
                refine zM (r := b false) rfl rfl rfl rfl rfl ?_
                refine zL (r := b true) rfl rfl rfl (LOp.eqb (LOp.move rfl rfl) hc22) ?_
                refine zL (r := b false) rfl rfl rfl (LOp.eqb (LOp.not rfl rfl) rfl) ?_
                refine zL (r := b false) rfl rfl rfl (LOp.pick_false rfl rfl rfl) ?_
                refine zM (r := b false) rfl rfl rfl rfl rfl ?_
                refine zL (r := b true) rfl rfl rfl (LOp.eqb (LOp.move rfl rfl) hc23) ?_
                refine zL (r := b false) rfl rfl rfl (LOp.eqb (LOp.not rfl rfl) rfl) ?_
                refine zL (r := b false) rfl rfl rfl (LOp.pick_false rfl rfl rfl) ?_
                refine zM (r := b false) rfl rfl rfl rfl rfl ?_
                refine zL (r := b true) rfl rfl rfl (LOp.eqb (LOp.move rfl rfl) hc24) ?_
                refine zL (r := b false) rfl rfl rfl (LOp.eqb (LOp.not rfl rfl) rfl) ?_
                refine zL (r := b false) rfl rfl rfl (LOp.pick_false rfl rfl rfl) ?_
                refine zM (r := b false) rfl rfl rfl rfl rfl ?_
                refine zL (r := b true) rfl rfl rfl (LOp.eqb (LOp.move rfl rfl) hc25) ?_
                refine zL (r := b false) rfl rfl rfl (LOp.eqb (LOp.not rfl rfl) rfl) ?_
                refine zL (r := b false) rfl rfl rfl (LOp.pick_false rfl rfl rfl) ?_
                refine zM (r := b false) rfl rfl rfl rfl rfl ?_
                refine zL (r := b true) rfl rfl rfl (LOp.eqb (LOp.move rfl rfl) hc26) ?_
                refine zL (r := b false) rfl rfl rfl (LOp.eqb (LOp.not rfl rfl) rfl) ?_
                refine zL (r := b false) rfl rfl rfl (LOp.pick_false rfl rfl rfl) ?_
                refine zM (r := b false) rfl rfl rfl rfl rfl ?_
                refine zL (r := b true) rfl rfl rfl (LOp.eqb (LOp.move rfl rfl) hc27) ?_
                refine zL (r := b false) rfl rfl rfl (LOp.eqb (LOp.not rfl rfl) rfl) ?_
                refine zL (r := b false) rfl rfl rfl (LOp.pick_false rfl rfl rfl) ?_
                refine zM (r := b false) rfl rfl rfl rfl rfl ?_
                refine zL (r := b true) rfl rfl rfl (LOp.eqb (LOp.move rfl rfl) hc28) ?_
                refine zL (r := b false) rfl rfl rfl (LOp.eqb (LOp.not rfl rfl) rfl) ?_
                refine zL (r := b false) rfl rfl rfl (LOp.pick_false rfl rfl rfl) ?_
                refine zM (r := b false) rfl rfl rfl rfl rfl ?_
                refine zL (r := b true) rfl rfl rfl (LOp.eqb (LOp.move rfl rfl) hc29) ?_
                refine zL (r := b false) rfl rfl rfl (LOp.eqb (LOp.not rfl rfl) rfl) ?_
                refine zL (r := b false) rfl rfl rfl (LOp.pick_false rfl rfl rfl) ?_
                refine zM (r := b false) rfl rfl rfl rfl rfl ?_
                refine zL (r := b true) rfl rfl rfl (LOp.eqb (LOp.move rfl rfl) hc30) ?_
                refine zL (r := b false) rfl rfl rfl (LOp.eqb (LOp.not rfl rfl) rfl) ?_
                refine zL (r := b false) rfl rfl rfl (LOp.pick_false rfl rfl rfl) ?_
                refine zM (r := b false) rfl rfl rfl rfl rfl ?_
                refine ROps.d (r := agg [i64 r10, i64 r11, sl r13.length (r13.map f32)]) (fs := []) (Γ' := [⟨1, some [i64 r2, i64 r3, sl r4.length (r4.map f32)]⟩, ⟨1, some [i64 r7, i64 r8, sl r9.length (r9.map f32)]⟩, ⟨1, some [i64 r10, i64 r11, sl r13.length (r13.map f32)]⟩, ⟨1, some [i64 r14, i64 r15, sl r17.length (r17.map f32)]⟩, ⟨1, some [i64 r20, i64 r21, sl r23.length (r23.map f32)]⟩, ⟨1, some [i64 r26, i64 r27, sl r29.length (r29.map f32)]⟩, ⟨2, some [i64 r42, i64 r43, sl r45.length (r45.map f32)]⟩, ⟨2, none⟩, ⟨1, some [i64 r38, i64 r39, sl r41.length (r41.map f32)]⟩, ⟨1, some [i64 r50, i64 r51, sl r53.length (r53.map f32)]⟩]) rfl rfl rfl (TOp.loadAgg_o rfl agg26 siz26 rfl rfl rfl rfl) rfl ?_
                refine ROps.d (r := agg [i64 r26, i64 r27, sl r29.length (r29.map f32)]) (fs := []) (Γ' := [⟨1, some [i64 r2, i64 r3, sl r4.length (r4.map f32)]⟩, ⟨1, some [i64 r7, i64 r8, sl r9.length (r9.map f32)]⟩, ⟨1, some [i64 r10, i64 r11, sl r13.length (r13.map f32)]⟩, ⟨1, some [i64 r14, i64 r15, sl r17.length (r17.map f32)]⟩, ⟨1, some [i64 r20, i64 r21, sl r23.length (r23.map f32)]⟩, ⟨1, some [i64 r26, i64 r27, sl r29.length (r29.map f32)]⟩, ⟨2, some [i64 r42, i64 r43, sl r45.length (r45.map f32)]⟩, ⟨2, none⟩, ⟨1, some [i64 r38, i64 r39, sl r41.length (r41.map f32)]⟩, ⟨1, some [i64 r50, i64 r51, sl r53.length (r53.map f32)]⟩]) rfl rfl rfl (TOp.loadAgg_o rfl agg26 siz26 rfl rfl rfl rfl) rfl ?_
                refine ROps.d (r := b true) (fs := []) (Γ' := [⟨1, some [i64 r2, i64 r3, sl r4.length (r4.map f32)]⟩, ⟨1, some [i64 r7, i64 r8, sl r9.length (r9.map f32)]⟩, ⟨1, some [i64 r10, i64 r11, sl r13.length (r13.map f32)]⟩, ⟨1, some [i64 r14, i64 r15, sl r17.length (r17.map f32)]⟩, ⟨1, some [i64 r20, i64 r21, sl r23.length (r23.map f32)]⟩, ⟨1, some [i64 r26, i64 r27, sl r29.length (r29.map f32)]⟩, ⟨2, some [i64 r42, i64 r43, sl r45.length (r45.map f32)]⟩, ⟨2, none⟩, ⟨1, some [i64 r38, i64 r39, sl r41.length (r41.map f32)]⟩, ⟨1, some [i64 r50, i64 r51, sl r53.length (r53.map f32)]⟩]) rfl rfl rfl (TOp.eqb (TOp.callB (CallAs.func ent16 rfl rfl) (Bors.cons (Bor.agg (Bors.cons (Bor.pure rfl) (Bors.cons (Bor.pure rfl) (Bors.cons (Bor.sl (fun _ => rfl)) Bors.nil)))) (Bors.cons (Bor.agg (Bors.cons (Bor.pure rfl) (Bors.cons (Bor.pure rfl) (Bors.cons (Bor.sl (fun _ => rfl)) Bors.nil)))) Bors.nil)) rfl rfl (i_SameMatrix_ok r10 r11 r13 r26 r27 r29 r54 hf31)) hc32) rfl ?_
                refine zL (r := b false) rfl rfl rfl (LOp.eqb (LOp.not rfl rfl) rfl) ?_
                refine zL (r := b false) rfl rfl rfl (LOp.pick_false rfl rfl rfl) ?_
                refine zM (r := b false) rfl rfl rfl rfl rfl ?_
                refine ROps.d (r := agg [i64 r38, i64 r39, sl r41.length (r41.map f32)]) (fs := []) (Γ' := [⟨1, some [i64 r2, i64 r3, sl r4.length (r4.map f32)]⟩, ⟨1, some [i64 r7, i64 r8, sl r9.length (r9.map f32)]⟩, ⟨1, some [i64 r10, i64 r11, sl r13.length (r13.map f32)]⟩, ⟨1, some [i64 r14, i64 r15, sl r17.length (r17.map f32)]⟩, ⟨1, some [i64 r20, i64 r21, sl r23.length (r23.map f32)]⟩, ⟨1, some [i64 r26, i64 r27, sl r29.length (r29.map f32)]⟩, ⟨2, some [i64 r42, i64 r43, sl r45.length (r45.map f32)]⟩, ⟨2, none⟩, ⟨1, some [i64 r38, i64 r39, sl r41.length (r41.map f32)]⟩, ⟨1, some [i64 r50, i64 r51, sl r53.length (r53.map f32)]⟩]) rfl rfl rfl (TOp.loadAgg_o rfl agg26 siz26 rfl rfl rfl rfl) rfl ?_
                refine ROps.d (r := agg [i64 r42, i64 r43, sl r45.length (r45.map f32)]) (fs := []) (Γ' := [⟨1, some [i64 r2, i64 r3, sl r4.length (r4.map f32)]⟩, ⟨1, some [i64 r7, i64 r8, sl r9.length (r9.map f32)]⟩, ⟨1, some [i64 r10, i64 r11, sl r13.length (r13.map f32)]⟩, ⟨1, some [i64 r14, i64 r15, sl r17.length (r17.map f32)]⟩, ⟨1, some [i64 r20, i64 r21, sl r23.length (r23.map f32)]⟩, ⟨1, some [i64 r26, i64 r27, sl r29.length (r29.map f32)]⟩, ⟨2, some [i64 r42, i64 r43, sl r45.length (r45.map f32)]⟩, ⟨2, none⟩, ⟨1, some [i64 r38, i64 r39, sl r41.length (r41.map f32)]⟩, ⟨1, some [i64 r50, i64 r51, sl r53.length (r53.map f32)]⟩]) rfl rfl rfl (TOp.loadAgg_o rfl agg26 siz26 rfl rfl rfl rfl) rfl ?_
                refine ROps.d (r := b true) (fs := []) (Γ' := [⟨1, some [i64 r2, i64 r3, sl r4.length (r4.map f32)]⟩, ⟨1, some [i64 r7, i64 r8, sl r9.length (r9.map f32)]⟩, ⟨1, some [i64 r10, i64 r11, sl r13.length (r13.map f32)]⟩, ⟨1, some [i64 r14, i64 r15, sl r17.length (r17.map f32)]⟩, ⟨1, some [i64 r20, i64 r21, sl r23.length (r23.map f32)]⟩, ⟨1, some [i64 r26, i64 r27, sl r29.length (r29.map f32)]⟩, ⟨2, some [i64 r42, i64 r43, sl r45.length (r45.map f32)]⟩, ⟨2, none⟩, ⟨1, some [i64 r38, i64 r39, sl r41.length (r41.map f32)]⟩, ⟨1, some [i64 r50, i64 r51, sl r53.length (r53.map f32)]⟩]) rfl rfl rfl (TOp.eqb (TOp.callB (CallAs.func ent16 rfl rfl) (Bors.cons (Bor.agg (Bors.cons (Bor.pure rfl) (Bors.cons (Bor.pure rfl) (Bors.cons (Bor.sl (fun _ => rfl)) Bors.nil)))) (Bors.cons (Bor.agg (Bors.cons (Bor.pure rfl) (Bors.cons (Bor.pure rfl) (Bors.cons (Bor.sl (fun _ => rfl)) Bors.nil)))) Bors.nil)) rfl rfl (i_SameMatrix_ok r38 r39 r41 r42 r43 r45 r55 hf33)) hc34) rfl ?_
                refine zL (r := b false) rfl rfl rfl (LOp.eqb (LOp.not rfl rfl) rfl) ?_
                refine zL (r := b false) rfl rfl rfl (LOp.pick_false rfl rfl rfl) ?_
                refine zM (r := b false) rfl rfl rfl rfl rfl ?_
                refine zL (r := optr 4 1 2) rfl rfl rfl (LOp.fao und26 rfl siz24 rfl rfl rfl) ?_
                refine ROps.d (r := sl r23.length (r23.map f32)) (fs := []) (Γ' := [⟨1, some [i64 r2, i64 r3, sl r4.length (r4.map f32)]⟩, ⟨1, some [i64 r7, i64 r8, sl r9.length (r9.map f32)]⟩, ⟨1, some [i64 r10, i64 r11, sl r13.length (r13.map f32)]⟩, ⟨1, some [i64 r14, i64 r15, sl r17.length (r17.map f32)]⟩, ⟨1, some [i64 r20, i64 r21, sl r23.length (r23.map f32)]⟩, ⟨1, some [i64 r26, i64 r27, sl r29.length (r29.map f32)]⟩, ⟨2, some [i64 r42, i64 r43, sl r45.length (r45.map f32)]⟩, ⟨2, none⟩, ⟨1, some [i64 r38, i64 r39, sl r41.length (r41.map f32)]⟩, ⟨1, some [i64 r50, i64 r51, sl r53.length (r53.map f32)]⟩]) rfl rfl rfl (TOp.load1_o rfl rfl agg24 rfl rfl) rfl ?_
                refine zL (r := i64 (r23.length : Int)) rfl rfl rfl (LOp.len_sl und24 rfl rfl) ?_
                refine zL (r := optr 2 1 2) rfl rfl rfl (LOp.fao und26 rfl siz24 rfl rfl rfl) ?_
                refine ROps.d (r := sl r13.length (r13.map f32)) (fs := []) (Γ' := [⟨1, some [i64 r2, i64 r3, sl r4.length (r4.map f32)]⟩, ⟨1, some [i64 r7, i64 r8, sl r9.length (r9.map f32)]⟩, ⟨1, some [i64 r10, i64 r11, sl r13.length (r13.map f32)]⟩, ⟨1, some [i64 r14, i64 r15, sl r17.length (r17.map f32)]⟩, ⟨1, some [i64 r20, i64 r21, sl r23.length (r23.map f32)]⟩, ⟨1, some [i64 r26, i64 r27, sl r29.length (r29.map f32)]⟩, ⟨2, some [i64 r42, i64 r43, sl r45.length (r45.map f32)]⟩, ⟨2, none⟩, ⟨1, some [i64 r38, i64 r39, sl r41.length (r41.map f32)]⟩, ⟨1, some [i64 r50, i64 r51, sl r53.length (r53.map f32)]⟩]) rfl rfl rfl (TOp.load1_o rfl rfl agg24 rfl rfl) rfl ?_
                refine zL (r := i64 (r13.length : Int)) rfl rfl rfl (LOp.len_sl und24 rfl rfl) ?_
                refine zL (r := b true) rfl rfl rfl (LOp.eqb (LOp.neq rfl rfl rfl) hc35) ?_
                refine zL (r := b true) rfl rfl rfl (LOp.pick_false rfl rfl rfl) ?_
                refine zM (r := b true) rfl rfl rfl rfl rfl ?_
                iterate 7 (refine ROps.s rfl rfl rfl ?_)
                refine zL (r := b true) rfl rfl rfl (LOp.pick_true rfl rfl rfl) ?_
                refine zM (r := b true) rfl rfl rfl rfl rfl ?_
                iterate 7 (refine ROps.s rfl rfl rfl ?_)
                refine zL (r := b true) rfl rfl rfl (LOp.pick_true rfl rfl rfl) ?_
                refine zM (r := b true) rfl rfl rfl rfl rfl ?_
                iterate 5 (refine ROps.s rfl rfl rfl ?_)
                refine zL (r := b true) rfl rfl rfl (LOp.pick_true rfl rfl rfl) ?_
                refine zM (r := b true) rfl rfl rfl rfl rfl ?_
                iterate 4 (refine ROps.s rfl rfl rfl ?_)
                refine zL (r := b true) rfl rfl rfl (LOp.pick_true rfl rfl rfl) ?_
                refine zN ?_
                exact .inl ⟨(Le.of ⟨aR, aR, aR, aR, aR, aR, aR, aR, aR, trivial⟩ ⟨⟨rfl, .inr rfl⟩, ⟨rfl, .inr rfl⟩, ⟨rfl, .inr rfl⟩, ⟨rfl, .inr rfl⟩, ⟨rfl, .inr rfl⟩, ⟨rfl, .inl rfl⟩, ⟨rfl, .inl rfl⟩, ⟨rfl, .inl rfl⟩, ⟨rfl, .inl rfl⟩, ⟨rfl, .inr rfl⟩, trivial⟩), h⟩
               ·rcases bsel_some h with ⟨hc36, h⟩ | ⟨hc36, h⟩
                ·refine RunC.regionW ?_
                 refine zL (r := b true) rfl rfl rfl (LOp.eqb (LOp.move rfl rfl) hc21) ?_
                 refine zL (r := b false) rfl rfl rfl (LOp.eqb (LOp.not rfl rfl) rfl) ?_
                 refine zM (r := b false) rfl rfl rfl rfl rfl ?_
                 refine zL (r := b true) rfl rfl rfl (LOp.eqb (LOp.move rfl rfl) hc22) ?_
                 refine zL (r := b false) rfl rfl rfl (LOp.eqb (LOp.not rfl rfl) rfl) ?_
                 refine zL (r := b false) rfl rfl rfl (LOp.pick_false rfl rfl rfl) ?_
                 refine zM (r := b false) rfl rfl rfl rfl rfl ?_
                 refine zL (r := b true) rfl rfl rfl (LOp.eqb (LOp.move rfl rfl) hc23) ?_
                 refine zL (r := b false) rfl rfl rfl (LOp.eqb (LOp.not rfl rfl) rfl) ?_
                 refine zL (r := b false) rfl rfl rfl (LOp.pick_false rfl rfl rfl) ?_
                 refine zM (r := b false) rfl rfl rfl rfl rfl ?_
                 refine zL (r := b true) rfl rfl rfl (LOp.eqb (LOp.move rfl rfl) hc24) ?_
                 refine zL (r := b false) rfl rfl rfl (LOp.eqb (LOp.not rfl rfl) rfl) ?_
                 refine zL (r := b false) rfl rfl rfl (LOp.pick_false rfl rfl rfl) ?_
                 refine zM (r := b false) rfl rfl rfl rfl rfl ?_
                 refine zL (r := b true) rfl rfl rfl (LOp.eqb (LOp.move rfl rfl) hc25) ?_
                 refine zL (r := b false) rfl rfl rfl (LOp.eqb (LOp.not rfl rfl) rfl) ?_
                 refine zL (r := b false) rfl rfl rfl (LOp.pick_false rfl rfl rfl) ?_
                 refine zM (r := b false) rfl rfl rfl rfl rfl ?_
                 refine zL (r := b true) rfl rfl rfl (LOp.eqb (LOp.move rfl rfl) hc26) ?_
                 refine zL (r := b false) rfl rfl rfl (LOp.eqb (LOp.not rfl rfl) rfl) ?_
                 refine zL (r := b false) rfl rfl rfl (LOp.pick_false rfl rfl rfl) ?_
                 refine zM (r := b false) rfl rfl rfl rfl rfl ?_
                 refine zL (r := b true) rfl rfl rfl (LOp.eqb (LOp.move rfl rfl) hc27) ?_
                 refine zL (r := b false) rfl rfl rfl (LOp.eqb (LOp.not rfl rfl) rfl) ?_
                 refine zL (r := b false) rfl rfl rfl (LOp.pick_false rfl rfl rfl) ?_
                 refine zM (r := b false) rfl rfl rfl rfl rfl ?_
                 refine zL (r := b true) rfl rfl rfl (LOp.eqb (LOp.move rfl rfl) hc28) ?_
                 refine zL (r := b false) rfl rfl rfl (LOp.eqb (LOp.not rfl rfl) rfl) ?_
                 refine zL (r := b false) rfl rfl rfl (LOp.pick_false rfl rfl rfl) ?_
                 refine zM (r := b false) rfl rfl rfl rfl rfl ?_
                 refine zL (r := b true) rfl rfl rfl (LOp.eqb (LOp.move rfl rfl) hc29) ?_
                 refine zL (r := b false) rfl rfl rfl (LOp.eqb (LOp.not rfl rfl) rfl) ?_
                 refine zL (r := b false) rfl rfl rfl (LOp.pick_false rfl rfl rfl) ?_
                 refine zM (r := b false) rfl rfl rfl rfl rfl ?_
                 refine zL (r := b true) rfl rfl rfl (LOp.eqb (LOp.move rfl rfl) hc30) ?_
                 refine zL (r := b false) rfl rfl rfl (LOp.eqb (LOp.not rfl rfl) rfl) ?_
                 refine zL (r := b false) rfl rfl rfl (LOp.pick_false rfl rfl rfl) ?_
                 refine zM (r := b false) rfl rfl rfl rfl rfl ?_
                 refine ROps.d (r := agg [i64 r10, i64 r11, sl r13.length (r13.map f32)]) (fs := []) (Γ' := [⟨1, some [i64 r2, i64 r3, sl r4.length (r4.map f32)]⟩, ⟨1, some [i64 r7, i64 r8, sl r9.length (r9.map f32)]⟩, ⟨1, some [i64 r10, i64 r11, sl r13.length (r13.map f32)]⟩, ⟨1, some [i64 r14, i64 r15, sl r17.length (r17.map f32)]⟩, ⟨1, some [i64 r20, i64 r21, sl r23.length (r23.map f32)]⟩, ⟨1, some [i64 r26, i64 r27, sl r29.length (r29.map f32)]⟩, ⟨2, some [i64 r42, i64 r43, sl r45.length (r45.map f32)]⟩, ⟨2, none⟩, ⟨1, some [i64 r38, i64 r39, sl r41.length (r41.map f32)]⟩, ⟨1, some [i64 r50, i64 r51, sl r53.length (r53.map f32)]⟩]) rfl rfl rfl (TOp.loadAgg_o rfl agg26 siz26 rfl rfl rfl rfl) rfl ?_
                 refine ROps.d (r := agg [i64 r26, i64 r27, sl r29.length (r29.map f32)]) (fs := []) (Γ' := [⟨1, some [i64 r2, i64 r3, sl r4.length (r4.map f32)]⟩, ⟨1, some [i64 r7, i64 r8, sl r9.length (r9.map f32)]⟩, ⟨1, some [i64 r10, i64 r11, sl r13.length (r13.map f32)]⟩, ⟨1, some [i64 r14, i64 r15, sl r17.length (r17.map f32)]⟩, ⟨1, some [i64 r20, i64 r21, sl r23.length (r23.map f32)]⟩, ⟨1, some [i64 r26, i64 r27, sl r29.length (r29.map f32)]⟩, ⟨2, some [i64 r42, i64 r43, sl r45.length (r45.map f32)]⟩, ⟨2, none⟩, ⟨1, some [i64 r38, i64 r39, sl r41.length (r41.map f32)]⟩, ⟨1, some [i64 r50, i64 r51, sl r53.length (r53.map f32)]⟩]) rfl rfl rfl (TOp.loadAgg_o rfl agg26 siz26 rfl rfl rfl rfl) rfl ?_
                 refine ROps.d (r := b true) (fs := []) (Γ' := [⟨1, some [i64 r2, i64 r3, sl r4.length (r4.map f32)]⟩, ⟨1, some [i64 r7, i64 r8, sl r9.length (r9.map f32)]⟩, ⟨1, some [i64 r10, i64 r11, sl r13.length (r13.map f32)]⟩, ⟨1, some [i64 r14, i64 r15, sl r17.length (r17.map f32)]⟩, ⟨1, some [i64 r20, i64 r21, sl r23.length (r23.map f32)]⟩, ⟨1, some [i64 r26, i64 r27, sl r29.length (r29.map f32)]⟩, ⟨2, some [i64 r42, i64 r43, sl r45.length (r45.map f32)]⟩, ⟨2, none⟩, ⟨1, some [i64 r38, i64 r39, sl r41.length (r41.map f32)]⟩, ⟨1, some [i64 r50, i64 r51, sl r53.length (r53.map f32)]⟩]) rfl rfl rfl (TOp.eqb (TOp.callB (CallAs.func ent16 rfl rfl) (Bors.cons (Bor.agg (Bors.cons (Bor.pure rfl) (Bors.cons (Bor.pure rfl) (Bors.cons (Bor.sl (fun _ => rfl)) Bors.nil)))) (Bors.cons (Bor.agg (Bors.cons (Bor.pure rfl) (Bors.cons (Bor.pure rfl) (Bors.cons (Bor.sl (fun _ => rfl)) Bors.nil)))) Bors.nil)) rfl rfl (i_SameMatrix_ok r10 r11 r13 r26 r27 r29 r54 hf31)) hc32) rfl ?_
                 refine zL (r := b false) rfl rfl rfl (LOp.eqb (LOp.not rfl rfl) rfl) ?_
                 refine zL (r := b false) rfl rfl rfl (LOp.pick_false rfl rfl rfl) ?_
                 refine zM (r := b false) rfl rfl rfl rfl rfl ?_
                 refine ROps.d (r := agg [i64 r38, i64 r39, sl r41.length (r41.map f32)]) (fs := []) (Γ' := [⟨1, some [i64 r2, i64 r3, sl r4.length (r4.map f32)]⟩, ⟨1, some [i64 r7, i64 r8, sl r9.length (r9.map f32)]⟩, ⟨1, some [i64 r10, i64 r11, sl r13.length (r13.map f32)]⟩, ⟨1, some [i64 r14, i64 r15, sl r17.length (r17.map f32)]⟩, ⟨1, some [i64 r20, i64 r21, sl r23.length (r23.map f32)]⟩, ⟨1, some [i64 r26, i64 r27, sl r29.length (r29.map f32)]⟩, ⟨2, some [i64 r42, i64 r43, sl r45.length (r45.map f32)]⟩, ⟨2, none⟩, ⟨1, some [i64 r38, i64 r39, sl r41.length (r41.map f32)]⟩, ⟨1, some [i64 r50, i64 r51, sl r53.length (r53.map f32)]⟩]) rfl rfl rfl (TOp.loadAgg_o rfl agg26 siz26 rfl rfl rfl rfl) rfl ?_
                 refine ROps.d (r := agg [i64 r42, i64 r43, sl r45.length (r45.map f32)]) (fs := []) (Γ' := [⟨1, some [i64 r2, i64 r3, sl r4.length (r4.map f32)]⟩, ⟨1, some [i64 r7, i64 r8, sl r9.length (r9.map f32)]⟩, ⟨1, some [i64 r10, i64 r11, sl r13.length (r13.map f32)]⟩, ⟨1, some [i64 r14, i64 r15, sl r17.length (r17.map f32)]⟩, ⟨1, some [i64 r20, i64 r21, sl r23.length (r23.map f32)]⟩, ⟨1, some [i64 r26, i64 r27, sl r29.length (r29.map f32)]⟩, ⟨2, some [i64 r42, i64 r43, sl r45.length (r45.map f32)]⟩, ⟨2, none⟩, ⟨1, some [i64 r38, i64 r39, sl r41.length (r41.map f32)]⟩, ⟨1, some [i64 r50, i64 r51, sl r53.length (r53.map f32)]⟩]) rfl rfl rfl (TOp.loadAgg_o rfl agg26 siz26 rfl rfl rfl rfl) rfl ?_
                 refine ROps.d (r := b true) (fs := []) (Γ' := [⟨1, some [i64 r2, i64 r3, sl r4.length (r4.map f32)]⟩, ⟨1, some [i64 r7, i64 r8, sl r9.length (r9.map f32)]⟩, ⟨1, some [i64 r10, i64 r11, sl r13.length (r13.map f32)]⟩, ⟨1, some [i64 r14, i64 r15, sl r17.length (r17.map f32)]⟩, ⟨1, some [i64 r20, i64 r21, sl r23.length (r23.map f32)]⟩, ⟨1, some [i64 r26, i64 r27, sl r29.length (r29.map f32)]⟩, ⟨2, some [i64 r42, i64 r43, sl r45.length (r45.map f32)]⟩, ⟨2, none⟩, ⟨1, some [i64 r38, i64 r39, sl r41.length (r41.map f32)]⟩, ⟨1, some [i64 r50, i64 r51, sl r53.length (r53.map f32)]⟩]) rfl rfl rfl (TOp.eqb (TOp.callB (CallAs.func ent16 rfl rfl) (Bors.cons (Bor.agg (Bors.cons (Bor.pure rfl) (Bors.cons (Bor.pure rfl) (Bors.cons (Bor.sl (fun _ => rfl)) Bors.nil)))) (Bors.cons (Bor.agg (Bors.cons (Bor.pure rfl) (Bors.cons (Bor.pure rfl) (Bors.cons (Bor.sl (fun _ => rfl)) Bors.nil)))) Bors.nil)) rfl rfl (i_SameMatrix_ok r38 r39 r41 r42 r43 r45 r55 hf33)) hc34) rfl ?_
                 refine zL (r := b false) rfl rfl rfl (LOp.eqb (LOp.not rfl rfl) rfl) ?_
                 refine zL (r := b false) rfl rfl rfl (LOp.pick_false rfl rfl rfl) ?_
                 refine zM (r := b false) rfl rfl rfl rfl rfl ?_
                 refine zL (r := optr 4 1 2) rfl rfl rfl (LOp.fao und26 rfl siz24 rfl rfl rfl) ?_
                 refine ROps.d (r := sl r23.length (r23.map f32)) (fs := []) (Γ' := [⟨1, some [i64 r2, i64 r3, sl r4.length (r4.map f32)]⟩, ⟨1, some [i64 r7, i64 r8, sl r9.length (r9.map f32)]⟩, ⟨1, some [i64 r10, i64 r11, sl r13.length (r13.map f32)]⟩, ⟨1, some [i64 r14, i64 r15, sl r17.length (r17.map f32)]⟩, ⟨1, some [i64 r20, i64 r21, sl r23.length (r23.map f32)]⟩, ⟨1, some [i64 r26, i64 r27, sl r29.length (r29.map f32)]⟩, ⟨2, some [i64 r42, i64 r43, sl r45.length (r45.map f32)]⟩, ⟨2, none⟩, ⟨1, some [i64 r38, i64 r39, sl r41.length (r41.map f32)]⟩, ⟨1, some [i64 r50, i64 r51, sl r53.length (r53.map f32)]⟩]) rfl rfl rfl (TOp.load1_o rfl rfl agg24 rfl rfl) rfl ?_
                 refine zL (r := i64 (r23.length : Int)) rfl rfl rfl (LOp.len_sl und24 rfl rfl) ?_
                 refine zL (r := optr 2 1 2) rfl rfl rfl (LOp.fao und26 rfl siz24 rfl rfl rfl) ?_
                 refine ROps.d (r := sl r13.length (r13.map f32)) (fs := []) (Γ' := [⟨1, some [i64 r2, i64 r3, sl r4.length (r4.map f32)]⟩, ⟨1, some [i64 r7, i64 r8, sl r9.length (r9.map f32)]⟩, ⟨1, some [i64 r10, i64 r11, sl r13.length (r13.map f32)]⟩, ⟨1, some [i64 r14, i64 r15, sl r17.length (r17.map f32)]⟩, ⟨1, some [i64 r20, i64 r21, sl r23.length (r23.map f32)]⟩, ⟨1, some [i64 r26, i64 r27, sl r29.length (r29.map f32)]⟩, ⟨2, some [i64 r42, i64 r43, sl r45.length (r45.map f32)]⟩, ⟨2, none⟩, ⟨1, some [i64 r38, i64 r39, sl r41.length (r41.map f32)]⟩, ⟨1, some [i64 r50, i64 r51, sl r53.length (r53.map f32)]⟩]) rfl rfl rfl (TOp.load1_o rfl rfl agg24 rfl rfl) rfl ?_
                 refine zL (r := i64 (r13.length : Int)) rfl rfl rfl (LOp.len_sl und24 rfl rfl) ?_
                 refine zL (r := b false) rfl rfl rfl (LOp.eqb (LOp.neq rfl rfl rfl) hc35) ?_
                 refine zL (r := b false) rfl rfl rfl (LOp.pick_false rfl rfl rfl) ?_
                 refine zM (r := b false) rfl rfl rfl rfl rfl ?_
                 refine zL (r := optr 3 1 2) rfl rfl rfl (LOp.fao und26 rfl siz24 rfl rfl rfl) ?_
                 refine ROps.d (r := sl r17.length (r17.map f32)) (fs := []) (Γ' := [⟨1, some [i64 r2, i64 r3, sl r4.length (r4.map f32)]⟩, ⟨1, some [i64 r7, i64 r8, sl r9.length (r9.map f32)]⟩, ⟨1, some [i64 r10, i64 r11, sl r13.length (r13.map f32)]⟩, ⟨1, some [i64 r14, i64 r15, sl r17.length (r17.map f32)]⟩, ⟨1, some [i64 r20, i64 r21, sl r23.length (r23.map f32)]⟩, ⟨1, some [i64 r26, i64 r27, sl r29.length (r29.map f32)]⟩, ⟨2, some [i64 r42, i64 r43, sl r45.length (r45.map f32)]⟩, ⟨2, none⟩, ⟨1, some [i64 r38, i64 r39, sl r41.length (r41.map f32)]⟩, ⟨1, some [i64 r50, i64 r51, sl r53.length (r53.map f32)]⟩]) rfl rfl rfl (TOp.load1_o rfl rfl agg24 rfl rfl) rfl ?_
                 refine zL (r := i64 (r17.length : Int)) rfl rfl rfl (LOp.len_sl und24 rfl rfl) ?_
                 refine zL (r := optr 2 1 2) rfl rfl rfl (LOp.fao und26 rfl siz24 rfl rfl rfl) ?_
                 refine ROps.d (r := sl r13.length (r13.map f32)) (fs := []) (Γ' := [⟨1, some [i64 r2, i64 r3, sl r4.length (r4.map f32)]⟩, ⟨1, some [i64 r7, i64 r8, sl r9.length (r9.map f32)]⟩, ⟨1, some [i64 r10, i64 r11, sl r13.length (r13.map f32)]⟩, ⟨1, some [i64 r14, i64 r15, sl r17.length (r17.map f32)]⟩, ⟨1, some [i64 r20, i64 r21, sl r23.length (r23.map f32)]⟩, ⟨1, some [i64 r26, i64 r27, sl r29.length (r29.map f32)]⟩, ⟨2, some [i64 r42, i64 r43, sl r45.length (r45.map f32)]⟩, ⟨2, none⟩, ⟨1, some [i64 r38, i64 r39, sl r41.length (r41.map f32)]⟩, ⟨1, some [i64 r50, i64 r51, sl r53.length (r53.map f32)]⟩]) rfl rfl rfl (TOp.load1_o rfl rfl agg24 rfl rfl) rfl ?_
                 refine zL (r := i64 (r13.length : Int)) rfl rfl rfl (LOp.len_sl und24 rfl rfl) ?_
                 refine zL (r := b true) rfl rfl rfl (LOp.eqb (LOp.neq rfl rfl rfl) hc36) ?_
                 refine zL (r := b true) rfl rfl rfl (LOp.pick_false rfl rfl rfl) ?_
                 refine zM (r := b true) rfl rfl rfl rfl rfl ?_
                 iterate 7 (refine ROps.s rfl rfl rfl ?_)
                 refine zL (r := b true) rfl rfl rfl (LOp.pick_true rfl rfl rfl) ?_
                 refine zM (r := b true) rfl rfl rfl rfl rfl ?_
                 iterate 5 (refine ROps.s rfl rfl rfl ?_)
                 refine zL (r := b true) rfl rfl rfl (LOp.pick_true rfl rfl rfl) ?_
                 refine zM (r := b true) rfl rfl rfl rfl rfl ?_
                 iterate 4 (refine ROps.s rfl rfl rfl ?_)
                 refine zL (r := b true) rfl rfl rfl (LOp.pick_true rfl rfl rfl) ?_
                 refine zN ?_
                 exact .inl ⟨(Le.of ⟨aR, aR, aR, aR, aR, aR, aR, aR, aR, trivial⟩ ⟨⟨rfl, .inr rfl⟩, ⟨rfl, .inr rfl⟩, ⟨rfl, .inr rfl⟩, ⟨rfl, .inr rfl⟩, ⟨rfl, .inr rfl⟩, ⟨rfl, .inl rfl⟩, ⟨rfl, .inl rfl⟩, ⟨rfl, .inl rfl⟩, ⟨rfl, .inl rfl⟩, ⟨rfl, .inr rfl⟩, trivial⟩), h⟩
                ·rcases bsel_some h with ⟨hc37, h⟩ | ⟨hc37, h⟩
                 ·refine RunC.regionW ?_
                  refine zL (r := b true) rfl rfl rfl (LOp.eqb (LOp.move rfl rfl) hc21) ?_
                  refine zL (r := b false) rfl rfl rfl (LOp.eqb (LOp.not rfl rfl) rfl) ?_
                  refine zM (r := b false) rfl rfl rfl rfl rfl ?_
                  refine zL (r := b true) rfl rfl rfl (LOp.eqb (LOp.move rfl rfl) hc22) ?_
                  refine zL (r := b false) rfl rfl rfl (LOp.eqb (LOp.not rfl rfl) rfl) ?_
                  refine zL (r := b false) rfl rfl rfl (LOp.pick_false rfl rfl rfl) ?_
                  refine zM (r := b false) rfl rfl rfl rfl rfl ?_
                  refine zL (r := b true) rfl rfl rfl (LOp.eqb (LOp.move rfl rfl) hc23) ?_
                  refine zL (r := b false) rfl rfl rfl (LOp.eqb (LOp.not rfl rfl) rfl) ?_
                  refine zL (r := b false) rfl rfl rfl (LOp.pick_false rfl rfl rfl) ?_
                  refine zM (r := b false) rfl rfl rfl rfl rfl ?_
                  refine zL (r := b true) rfl rfl rfl (LOp.eqb (LOp.move rfl rfl) hc24) ?_
                  refine zL (r := b false) rfl rfl rfl (LOp.eqb (LOp.not rfl rfl) rfl) ?_
                  refine zL (r := b false) rfl rfl rfl (LOp.pick_false rfl rfl rfl) ?_
                  refine zM (r := b false) rfl rfl rfl rfl rfl ?_
                  refine zL (r := b true) rfl rfl rfl (LOp.eqb (LOp.move rfl rfl) hc25) ?_
                  refine zL (r := b false) rfl rfl rfl (LOp.eqb (LOp.not rfl rfl) rfl) ?_
                  refine zL (r := b false) rfl rfl rfl (LOp.pick_false rfl rfl rfl) ?_
                  refine zM (r := b false) rfl rfl rfl rfl rfl ?_
                  refine zL (r := b true) rfl rfl rfl (LOp.eqb (LOp.move rfl rfl) hc26) ?_
                  refine zL (r := b false) rfl rfl rfl (LOp.eqb (LOp.not rfl rfl) rfl) ?_
                  refine zL (r := b false) rfl rfl rfl (LOp.pick_false rfl rfl rfl) ?_
                  refine zM (r := b false) rfl rfl rfl rfl rfl ?_
                  refine zL (r := b true) rfl rfl rfl (LOp.eqb (LOp.move rfl rfl) hc27) ?_
                  refine zL (r := b false) rfl rfl rfl (LOp.eqb (LOp.not rfl rfl) rfl) ?_
                  refine zL (r := b false) rfl rfl rfl (LOp.pick_false rfl rfl rfl) ?_
                  refine zM (r := b false) rfl rfl rfl rfl rfl ?_
                  refine zL (r := b true) rfl rfl rfl (LOp.eqb (LOp.move rfl rfl) hc28) ?_
                  refine zL (r := b false) rfl rfl rfl (LOp.eqb (LOp.not rfl rfl) rfl) ?_
                  refine zL (r := b false) rfl rfl rfl (LOp.pick_false rfl rfl rfl) ?_
                  refine zM (r := b false) rfl rfl rfl rfl rfl ?_
                  refine zL (r := b true) rfl rfl rfl (LOp.eqb (LOp.move rfl rfl) hc29) ?_
                  refine zL (r := b false) rfl rfl rfl (LOp.eqb (LOp.not rfl rfl) rfl) ?_
                  refine zL (r := b false) rfl rfl rfl (LOp.pick_false rfl rfl rfl) ?_
                  refine zM (r := b false) rfl rfl rfl rfl rfl ?_
                  refine zL (r := b true) rfl rfl rfl (LOp.eqb (LOp.move rfl rfl) hc30) ?_
                  refine zL (r := b false) rfl rfl rfl (LOp.eqb (LOp.not rfl rfl) rfl) ?_
                  refine zL (r := b false) rfl rfl rfl (LOp.pick_false rfl rfl rfl) ?_
                  refine zM (r := b false) rfl rfl rfl rfl rfl ?_
                  refine ROps.d (r := agg [i64 r10, i64 r11, sl r13.length (r13.map f32)]) (fs := []) (Γ' := [⟨1, some [i64 r2, i64 r3, sl r4.length (r4.map f32)]⟩, ⟨1, some [i64 r7, i64 r8, sl r9.length (r9.map f32)]⟩, ⟨1, some [i64 r10, i64 r11, sl r13.length (r13.map f32)]⟩, ⟨1, some [i64 r14, i64 r15, sl r17.length (r17.map f32)]⟩, ⟨1, some [i64 r20, i64 r21, sl r23.length (r23.map f32)]⟩, ⟨1, some [i64 r26, i64 r27, sl r29.length (r29.map f32)]⟩, ⟨2, some [i64 r42, i64 r43, sl r45.length (r45.map f32)]⟩, ⟨2, none⟩, ⟨1, some [i64 r38, i64 r39, sl r41.length (r41.map f32)]⟩, ⟨1, some [i64 r50, i64 r51, sl r53.length (r53.map f32)]⟩]) rfl rfl rfl (TOp.loadAgg_o rfl agg26 siz26 rfl rfl rfl rfl) rfl ?_
                  refine ROps.d (r := agg [i64 r26, i64 r27, sl r29.length (r29.map f32)]) (fs := []) (Γ' := [⟨1, some [i64 r2, i64 r3, sl r4.length (r4.map f32)]⟩, ⟨1, some [i64 r7, i64 r8, sl r9.length (r9.map f32)]⟩, ⟨1, some [i64 r10, i64 r11, sl r13.length (r13.map f32)]⟩, ⟨1, some [i64 r14, i64 r15, sl r17.length (r17.map f32)]⟩, ⟨1, some [i64 r20, i64 r21, sl r23.length (r23.map f32)]⟩, ⟨1, some [i64 r26, i64 r27, sl r29.length (r29.map f32)]⟩, ⟨2, some [i64 r42, i64 r43, sl r45.length (r45.map f32)]⟩, ⟨2, none⟩, ⟨1, some [i64 r38, i64 r39, sl r41.length (r41.map f32)]⟩, ⟨1, some [i64 r50, i64 r51, sl r53.length (r53.map f32)]⟩]) rfl rfl rfl (TOp.loadAgg_o rfl agg26 siz26 rfl rfl rfl rfl) rfl ?_
                  refine ROps.d (r := b true) (fs := []) (Γ' := [⟨1, some [i64 r2, i64 r3, sl r4.length (r4.map f32)]⟩, ⟨1, some [i64 r7, i64 r8, sl r9.length (r9.map f32)]⟩, ⟨1, some [i64 r10, i64 r11, sl r13.length (r13.map f32)]⟩, ⟨1, some [i64 r14, i64 r15, sl r17.length (r17.map f32)]⟩, ⟨1, some [i64 r20, i64 r21, sl r23.length (r23.map f32)]⟩, ⟨1, some [i64 r26, i64 r27, sl r29.length (r29.map f32)]⟩, ⟨2, some [i64 r42, i64 r43, sl r45.length (r45.map f32)]⟩, ⟨2, none⟩, ⟨1, some [i64 r38, i64 r39, sl r41.length (r41.map f32)]⟩, ⟨1, some [i64 r50, i64 r51, sl r53.length (r53.map f32)]⟩]) rfl rfl rfl (TOp.eqb (TOp.callB (CallAs.func ent16 rfl rfl) (Bors.cons (Bor.agg (Bors.cons (Bor.pure rfl) (Bors.cons (Bor.pure rfl) (Bors.cons (Bor.sl (fun _ => rfl)) Bors.nil)))) (Bors.cons (Bor.agg (Bors.cons (Bor.pure rfl) (Bors.cons (Bor.pure rfl) (Bors.cons (Bor.sl (fun _ => rfl)) Bors.nil)))) Bors.nil)) rfl rfl (i_SameMatrix_ok r10 r11 r13 r26 r27 r29 r54 hf31)) hc32) rfl ?_
                  refine zL (r := b false) rfl rfl rfl (LOp.eqb (LOp.not rfl rfl) rfl) ?_
                  refine zL (r := b false) rfl rfl rfl (LOp.pick_false rfl rfl rfl) ?_
                  refine zM (r := b false) rfl rfl rfl rfl rfl ?_
                  refine ROps.d (r := agg [i64 r38, i64 r39, sl r41.length (r41.map f32)]) (fs := []) (Γ' := [⟨1, some [i64 r2, i64 r3, sl r4.length (r4.map f32)]⟩, ⟨1, some [i64 r7, i64 r8, sl r9.length (r9.map f32)]⟩, ⟨1, some [i64 r10, i64 r11, sl r13.length (r13.map f32)]⟩, ⟨1, some [i64 r14, i64 r15, sl r17.length (r17.map f32)]⟩, ⟨1, some [i64 r20, i64 r21, sl r23.length (r23.map f32)]⟩, ⟨1, some [i64 r26, i64 r27, sl r29.length (r29.map f32)]⟩, ⟨2, some [i64 r42, i64 r43, sl r45.length (r45.map f32)]⟩, ⟨2, none⟩, ⟨1, some [i64 r38, i64 r39, sl r41.length (r41.map f32)]⟩, ⟨1, some [i64 r50, i64 r51, sl r53.length (r53.map f32)]⟩]) rfl rfl rfl (TOp.loadAgg_o rfl agg26 siz26 rfl rfl rfl rfl) rfl ?_
                  refine ROps.d (r := agg [i64 r42, i64 r43, sl r45.length (r45.map f32)]) (fs := []) (Γ' := [⟨1, some [i64 r2, i64 r3, sl r4.length (r4.map f32)]⟩, ⟨1, some [i64 r7, i64 r8, sl r9.length (r9.map f32)]⟩, ⟨1, some [i64 r10, i64 r11, sl r13.length (r13.map f32)]⟩, ⟨1, some [i64 r14, i64 r15, sl r17.length (r17.map f32)]⟩, ⟨1, some [i64 r20, i64 r21, sl r23.length (r23.map f32)]⟩, ⟨1, some [i64 r26, i64 r27, sl r29.length (r29.map f32)]⟩, ⟨2, some [i64 r42, i64 r43, sl r45.length (r45.map f32)]⟩, ⟨2, none⟩, ⟨1, some [i64 r38, i64 r39, sl r41.length (r41.map f32)]⟩, ⟨1, some [i64 r50, i64 r51, sl r53.length (r53.map f32)]⟩]) rfl rfl rfl (TOp.loadAgg_o rfl agg26 siz26 rfl rfl rfl rfl) rfl ?_
                  refine ROps.d (r := b true) (fs := []) (Γ' := [⟨1, some [i64 r2, i64 r3, sl r4.length (r4.map f32)]⟩, ⟨1, some [i64 r7, i64 r8, sl r9.length (r9.map f32)]⟩, ⟨1, some [i64 r10, i64 r11, sl r13.length (r13.map f32)]⟩, ⟨1, some [i64 r14, i64 r15, sl r17.length (r17.map f32)]⟩, ⟨1, some [i64 r20, i64 r21, sl r23.length (r23.map f32)]⟩, ⟨1, some [i64 r26, i64 r27, sl r29.length (r29.map f32)]⟩, ⟨2, some [i64 r42, i64 r43, sl r45.length (r45.map f32)]⟩, ⟨2, none⟩, ⟨1, some [i64 r38, i64 r39, sl r41.length (r41.map f32)]⟩, ⟨1, some [i64 r50, i64 r51, sl r53.length (r53.map f32)]⟩]) rfl rfl rfl (TOp.eqb (TOp.callB (CallAs.func ent16 rfl rfl) (Bors.cons (Bor.agg (Bors.cons (Bor.pure rfl) (Bors.cons (Bor.pure rfl) (Bors.cons (Bor.sl (fun _ => rfl)) Bors.nil)))) (Bors.cons (Bor.agg (Bors.cons (Bor.pure rfl) (Bors.cons (Bor.pure rfl) (Bors.cons (Bor.sl (fun _ => rfl)) Bors.nil)))) Bors.nil)) rfl rfl (i_SameMatrix_ok r38 r39 r41 r42 r43 r45 r55 hf33)) hc34) rfl ?_
                  refine zL (r := b false) rfl rfl rfl (LOp.eqb (LOp.not rfl rfl) rfl) ?_
                  refine zL (r := b false) rfl rfl rfl (LOp.pick_false rfl rfl rfl) ?_
                  refine zM (r := b false) rfl rfl rfl rfl rfl ?_
                  refine zL (r := optr 4 1 2) rfl rfl rfl (LOp.fao und26 rfl siz24 rfl rfl rfl) ?_
                  refine ROps.d (r := sl r23.length (r23.map f32)) (fs := []) (Γ' := [⟨1, some [i64 r2, i64 r3, sl r4.length (r4.map f32)]⟩, ⟨1, some [i64 r7, i64 r8, sl r9.length (r9.map f32)]⟩, ⟨1, some [i64 r10, i64 r11, sl r13.length (r13.map f32)]⟩, ⟨1, some [i64 r14, i64 r15, sl r17.length (r17.map f32)]⟩, ⟨1, some [i64 r20, i64 r21, sl r23.length (r23.map f32)]⟩, ⟨1, some [i64 r26, i64 r27, sl r29.length (r29.map f32)]⟩, ⟨2, some [i64 r42, i64 r43, sl r45.length (r45.map f32)]⟩, ⟨2, none⟩, ⟨1, some [i64 r38, i64 r39, sl r41.length (r41.map f32)]⟩, ⟨1, some [i64 r50, i64 r51, sl r53.length (r53.map f32)]⟩]) rfl rfl rfl (TOp.load1_o rfl rfl agg24 rfl rfl) rfl ?_
                  refine zL (r := i64 (r23.length : Int)) rfl rfl rfl (LOp.len_sl und24 rfl rfl) ?_
                  refine zL (r := optr 2 1 2) rfl rfl rfl (LOp.fao und26 rfl siz24 rfl rfl rfl) ?_
                  refine ROps.d (r := sl r13.length (r13.map f32)) (fs := []) (Γ' := [⟨1, some [i64 r2, i64 r3, sl r4.length (r4.map f32)]⟩, ⟨1, some [i64 r7, i64 r8, sl r9.length (r9.map f32)]⟩, ⟨1, some [i64 r10, i64 r11, sl r13.length (r13.map f32)]⟩, ⟨1, some [i64 r14, i64 r15, sl r17.length (r17.map f32)]⟩, ⟨1, some [i64 r20, i64 r21, sl r23.length (r23.map f32)]⟩, ⟨1, some [i64 r26, i64 r27, sl r29.length (r29.map f32)]⟩, ⟨2, some [i64 r42, i64 r43, sl r45.length (r45.map f32)]⟩, ⟨2, none⟩, ⟨1, some [i64 r38, i64 r39, sl r41.length (r41.map f32)]⟩, ⟨1, some [i64 r50, i64 r51, sl r53.length (r53.map f32)]⟩]) rfl rfl rfl (TOp.load1_o rfl rfl agg24 rfl rfl) rfl ?_
                  refine zL (r := i64 (r13.length : Int)) rfl rfl rfl (LOp.len_sl und24 rfl rfl) ?_
                  refine zL (r := b false) rfl rfl rfl (LOp.eqb (LOp.neq rfl rfl rfl) hc35) ?_
                  refine zL (r := b false) rfl rfl rfl (LOp.pick_false rfl rfl rfl) ?_
                  refine zM (r := b false) rfl rfl rfl rfl rfl ?_
                  refine zL (r := optr 3 1 2) rfl rfl rfl (LOp.fao und26 rfl siz24 rfl rfl rfl) ?_
                  refine ROps.d (r := sl r17.length (r17.map f32)) (fs := []) (Γ' := [⟨1, some [i64 r2, i64 r3, sl r4.length (r4.map f32)]⟩, ⟨1, some [i64 r7, i64 r8, sl r9.length (r9.map f32)]⟩, ⟨1, some [i64 r10, i64 r11, sl r13.length (r13.map f32)]⟩, ⟨1, some [i64 r14, i64 r15, sl r17.length (r17.map f32)]⟩, ⟨1, some [i64 r20, i64 r21, sl r23.length (r23.map f32)]⟩, ⟨1, some [i64 r26, i64 r27, sl r29.length (r29.map f32)]⟩, ⟨2, some [i64 r42, i64 r43, sl r45.length (r45.map f32)]⟩, ⟨2, none⟩, ⟨1, some [i64 r38, i64 r39, sl r41.length (r41.map f32)]⟩, ⟨1, some [i64 r50, i64 r51, sl r53.length (r53.map f32)]⟩]) rfl rfl rfl (TOp.load1_o rfl rfl agg24 rfl rfl) rfl ?_
                  refine zL (r := i64 (r17.length : Int)) rfl rfl rfl (LOp.len_sl und24 rfl rfl) ?_
                  refine zL (r := optr 2 1 2) rfl rfl rfl (LOp.fao und26 rfl siz24 rfl rfl rfl) ?_
                  refine ROps.d (r := sl r13.length (r13.map f32)) (fs := []) (Γ' := [⟨1, some [i64 r2, i64 r3, sl r4.length (r4.map f32)]⟩, ⟨1, some [i64 r7, i64 r8, sl r9.length (r9.map f32)]⟩, ⟨1, some [i64 r10, i64 r11, sl r13.length (r13.map f32)]⟩, ⟨1, some [i64 r14, i64 r15, sl r17.length (r17.map f32)]⟩, ⟨1, some [i64 r20, i64 r21, sl r23.length (r23.map f32)]⟩, ⟨1, some [i64 r26, i64 r27, sl r29.length (r29.map f32)]⟩, ⟨2, some [i64 r42, i64 r43, sl r45.length (r45.map f32)]⟩, ⟨2, none⟩, ⟨1, some [i64 r38, i64 r39, sl r41.length (r41.map f32)]⟩, ⟨1, some [i64 r50, i64 r51, sl r53.length (r53.map f32)]⟩]) rfl rfl rfl (TOp.load1_o rfl rfl agg24 rfl rfl) rfl ?_
                  refine zL (r := i64 (r13.length : Int)) rfl rfl rfl (LOp.len_sl und24 rfl rfl) ?_
                  refine zL (r := b false) rfl rfl rfl (LOp.eqb (LOp.neq rfl rfl rfl) hc36) ?_
                  refine zL (r := b false) rfl rfl rfl (LOp.pick_false rfl rfl rfl) ?_
                  refine zM (r := b false) rfl rfl rfl rfl rfl ?_
                  refine zL (r := optr 9 1 2) rfl rfl rfl (LOp.fao und26 rfl siz24 rfl rfl rfl) ?_
                  refine ROps.d (r := sl r53.length (r53.map f32)) (fs := []) (Γ' := [⟨1, some [i64 r2, i64 r3, sl r4.length (r4.map f32)]⟩, ⟨1, some [i64 r7, i64 r8, sl r9.length (r9.map f32)]⟩, ⟨1, some [i64 r10, i64 r11, sl r13.length (r13.map f32)]⟩, ⟨1, some [i64 r14, i64 r15, sl r17.length (r17.map f32)]⟩, ⟨1, some [i64 r20, i64 r21, sl r23.length (r23.map f32)]⟩, ⟨1, some [i64 r26, i64 r27, sl r29.length (r29.map f32)]⟩, ⟨2, some [i64 r42, i64 r43, sl r45.length (r45.map f32)]⟩, ⟨2, none⟩, ⟨1, some [i64 r38, i64 r39, sl r41.length (r41.map f32)]⟩, ⟨1, some [i64 r50, i64 r51, sl r53.length (r53.map f32)]⟩]) rfl rfl rfl (TOp.load1_o rfl rfl agg24 rfl rfl) rfl ?_
                  refine zL (r := i64 (r53.length : Int)) rfl rfl rfl (LOp.len_sl und24 rfl rfl) ?_
                  refine zL (r := optr 0 1 2) rfl rfl rfl (LOp.fao und26 rfl siz24 rfl rfl rfl) ?_
                  refine ROps.d (r := sl r4.length (r4.map f32)) (fs := []) (Γ' := [⟨1, some [i64 r2, i64 r3, sl r4.length (r4.map f32)]⟩, ⟨1, some [i64 r7, i64 r8, sl r9.length (r9.map f32)]⟩, ⟨1, some [i64 r10, i64 r11, sl r13.length (r13.map f32)]⟩, ⟨1, some [i64 r14, i64 r15, sl r17.length (r17.map f32)]⟩, ⟨1, some [i64 r20, i64 r21, sl r23.length (r23.map f32)]⟩, ⟨1, some [i64 r26, i64 r27, sl r29.length (r29.map f32)]⟩, ⟨2, some [i64 r42, i64 r43, sl r45.length (r45.map f32)]⟩, ⟨2, none⟩, ⟨1, some [i64 r38, i64 r39, sl r41.length (r41.map f32)]⟩, ⟨1, some [i64 r50, i64 r51, sl r53.length (r53.map f32)]⟩]) rfl rfl rfl (TOp.load1_o rfl rfl agg24 rfl rfl) rfl ?_
                  refine zL (r := i64 (r4.length : Int)) rfl rfl rfl (LOp.len_sl und24 rfl rfl) ?_
                  refine zL (r := b true) rfl rfl rfl (LOp.eqb (LOp.neq rfl rfl rfl) hc37) ?_
                  refine zL (r := b true) rfl rfl rfl (LOp.pick_false rfl rfl rfl) ?_
                  refine zM (r := b true) rfl rfl rfl rfl rfl ?_
                  iterate 5 (refine ROps.s rfl rfl rfl ?_)
                  refine zL (r := b true) rfl rfl rfl (LOp.pick_true rfl rfl rfl) ?_
                  refine zM (r := b true) rfl rfl rfl rfl rfl ?_
                  iterate 4 (refine ROps.s rfl rfl rfl ?_)
                  refine zL (r := b true) rfl rfl rfl (LOp.pick_true rfl rfl rfl) ?_
                  refine zN ?_
                  exact .inl ⟨(Le.of ⟨aR, aR, aR, aR, aR, aR, aR, aR, aR, trivial⟩ ⟨⟨rfl, .inr rfl⟩, ⟨rfl, .inr rfl⟩, ⟨rfl, .inr rfl⟩, ⟨rfl, .inr rfl⟩, ⟨rfl, .inr rfl⟩, ⟨rfl, .inl rfl⟩, ⟨rfl, .inl rfl⟩, ⟨rfl, .inl rfl⟩, ⟨rfl, .inl rfl⟩, ⟨rfl, .inr rfl⟩, trivial⟩), h⟩
                 ·rcases bsel_some h with ⟨hc38, h⟩ | ⟨hc38, h⟩
                  ·refine RunC.regionW ?_
                   refine zL (r := b true) rfl rfl rfl (LOp.eqb (LOp.move rfl rfl) hc21) ?_
                   refine zL (r := b false) rfl rfl rfl (LOp.eqb (LOp.not rfl rfl) rfl) ?_
                   refine zM (r := b false) rfl rfl rfl rfl rfl ?_
                   refine zL (r := b true) rfl rfl rfl (LOp.eqb (LOp.move rfl rfl) hc22) ?_
                   refine zL (r := b false) rfl rfl rfl (LOp.eqb (LOp.not rfl rfl) rfl) ?_
                   refine zL (r := b false) rfl rfl rfl (LOp.pick_false rfl rfl rfl) ?_
                   refine zM (r := b false) rfl rfl rfl rfl rfl ?_
                   refine zL (r := b true) rfl rfl rfl (LOp.eqb (LOp.move rfl rfl) hc23) ?_
                   refine zL (r := b false) rfl rfl rfl (LOp.eqb (LOp.not rfl rfl) rfl) ?_
                   refine zL (r := b false) rfl rfl rfl (LOp.pick_false rfl rfl rfl) ?_
                   refine zM (r := b false) rfl rfl rfl rfl rfl ?_
                   refine zL (r := b true) rfl rfl rfl (LOp.eqb (LOp.move rfl rfl) hc24) ?_
                   refine zL (r := b false) rfl rfl rfl (LOp.eqb (LOp.not rfl rfl) rfl) ?_
                   refine zL (r := b false) rfl rfl rfl (LOp.pick_false rfl rfl rfl) ?_
                   refine zM (r := b false) rfl rfl rfl rfl rfl ?_
                   refine zL (r := b true) rfl rfl rfl (LOp.eqb (LOp.move rfl rfl) hc25) ?_
                   refine zL (r := b false) rfl rfl rfl (LOp.eqb (LOp.not rfl rfl) rfl) ?_
                   refine zL (r := b false) rfl rfl rfl (LOp.pick_false rfl rfl rfl) ?_
                   refine zM (r := b false) rfl rfl rfl rfl rfl ?_
                   refine zL (r := b true) rfl rfl rfl (LOp.eqb (LOp.move rfl rfl) hc26) ?_
                   refine zL (r := b false) rfl rfl rfl (LOp.eqb (LOp.not rfl rfl) rfl) ?_
                   refine zL (r := b false) rfl rfl rfl (LOp.pick_false rfl rfl rfl) ?_
                   refine zM (r := b false) rfl rfl rfl rfl rfl ?_
                   refine zL (r := b true) rfl rfl rfl (LOp.eqb (LOp.move rfl rfl) hc27) ?_
                   refine zL (r := b false) rfl rfl rfl (LOp.eqb (LOp.not rfl rfl) rfl) ?_
                   refine zL (r := b false) rfl rfl rfl (LOp.pick_false rfl rfl rfl) ?_
                   refine zM (r := b false) rfl rfl rfl rfl rfl ?_
                   refine zL (r := b true) rfl rfl rfl (LOp.eqb (LOp.move rfl rfl) hc28) ?_
                   refine zL (r := b false) rfl rfl rfl (LOp.eqb (LOp.not rfl rfl) rfl) ?_
                   refine zL (r := b false) rfl rfl rfl (LOp.pick_false rfl rfl rfl) ?_
                   refine zM (r := b false) rfl rfl rfl rfl rfl ?_
                   refine zL (r := b true) rfl rfl rfl (LOp.eqb (LOp.move rfl rfl) hc29) ?_
                   refine zL (r := b false) rfl rfl rfl (LOp.eqb (LOp.not rfl rfl) rfl) ?_
                   refine zL (r := b false) rfl rfl rfl (LOp.pick_false rfl rfl rfl) ?_
                   refine zM (r := b false) rfl rfl rfl rfl rfl ?_
                   refine zL (r := b true) rfl rfl rfl (LOp.eqb (LOp.move rfl rfl) hc30) ?_
                   refine zL (r := b false) rfl rfl rfl (LOp.eqb (LOp.not rfl rfl) rfl) ?_
                   refine zL (r := b false) rfl rfl rfl (LOp.pick_false rfl rfl rfl) ?_
                   refine zM (r := b false) rfl rfl rfl rfl rfl ?_
                   refine ROps.d (r := agg [i64 r10, i64 r11, sl r13.length (r13.map f32)]) (fs := []) (Γ' := [⟨1, some [i64 r2, i64 r3, sl r4.length (r4.map f32)]⟩, ⟨1, some [i64 r7, i64 r8, sl r9.length (r9.map f32)]⟩, ⟨1, some [i64 r10, i64 r11, sl r13.length (r13.map f32)]⟩, ⟨1, some [i64 r14, i64 r15, sl r17.length (r17.map f32)]⟩, ⟨1, some [i64 r20, i64 r21, sl r23.length (r23.map f32)]⟩, ⟨1, some [i64 r26, i64 r27, sl r29.length (r29.map f32)]⟩, ⟨2, some [i64 r42, i64 r43, sl r45.length (r45.map f32)]⟩, ⟨2, none⟩, ⟨1, some [i64 r38, i64 r39, sl r41.length (r41.map f32)]⟩, ⟨1, some [i64 r50, i64 r51, sl r53.length (r53.map f32)]⟩]) rfl rfl rfl (TOp.loadAgg_o rfl agg26 siz26 rfl rfl rfl rfl) rfl ?_
                   refine ROps.d (r := agg [i64 r26, i64 r27, sl r29.length (r29.map f32)]) (fs := []) (Γ' := [⟨1, some [i64 r2, i64 r3, sl r4.length (r4.map f32)]⟩, ⟨1, some [i64 r7, i64 r8, sl r9.length (r9.map f32)]⟩, ⟨1, some [i64 r10, i64 r11, sl r13.length (r13.map f32)]⟩, ⟨1, some [i64 r14, i64 r15, sl r17.length (r17.map f32)]⟩, ⟨1, some [i64 r20, i64 r21, sl r23.length (r23.map f32)]⟩, ⟨1, some [i64 r26, i64 r27, sl r29.length (r29.map f32)]⟩, ⟨2, some [i64 r42, i64 r43, sl r45.length (r45.map f32)]⟩, ⟨2, none⟩, ⟨1, some [i64 r38, i64 r39, sl r41.length (r41.map f32)]⟩, ⟨1, some [i64 r50, i64 r51, sl r53.length (r53.map f32)]⟩]) rfl rfl rfl (TOp.loadAgg_o rfl agg26 siz26 rfl rfl rfl rfl) rfl ?_
                   refine ROps.d (r := b true) (fs := []) (Γ' := [⟨1, some [i64 r2, i64 r3, sl r4.length (r4.map f32)]⟩, ⟨1, some [i64 r7, i64 r8, sl r9.length (r9.map f32)]⟩, ⟨1, some [i64 r10, i64 r11, sl r13.length (r13.map f32)]⟩, ⟨1, some [i64 r14, i64 r15, sl r17.length (r17.map f32)]⟩, ⟨1, some [i64 r20, i64 r21, sl r23.length (r23.map f32)]⟩, ⟨1, some [i64 r26, i64 r27, sl r29.length (r29.map f32)]⟩, ⟨2, some [i64 r42, i64 r43, sl r45.length (r45.map f32)]⟩, ⟨2, none⟩, ⟨1, some [i64 r38, i64 r39, sl r41.length (r41.map f32)]⟩, ⟨1, some [i64 r50, i64 r51, sl r53.length (r53.map f32)]⟩]) rfl rfl rfl (TOp.eqb (TOp.callB (CallAs.func ent16 rfl rfl) (Bors.cons (Bor.agg (Bors.cons (Bor.pure rfl) (Bors.cons (Bor.pure rfl) (Bors.cons (Bor.sl (fun _ => rfl)) Bors.nil)))) (Bors.cons (Bor.agg (Bors.cons (Bor.pure rfl) (Bors.cons (Bor.pure rfl) (Bors.cons (Bor.sl (fun _ => rfl)) Bors.nil)))) Bors.nil)) rfl rfl (i_SameMatrix_ok r10 r11 r13 r26 r27 r29 r54 hf31)) hc32) rfl ?_
                   refine zL (r := b false) rfl rfl rfl (LOp.eqb (LOp.not rfl rfl) rfl) ?_
                   refine zL (r := b false) rfl rfl rfl (LOp.pick_false rfl rfl rfl) ?_
                   refine zM (r := b false) rfl rfl rfl rfl rfl ?_
                   refine ROps.d (r := agg [i64 r38, i64 r39, sl r41.length (r41.map f32)]) (fs := []) (Γ' := [⟨1, some [i64 r2, i64 r3, sl r4.length (r4.map f32)]⟩, ⟨1, some [i64 r7, i64 r8, sl r9.length (r9.map f32)]⟩, ⟨1, some [i64 r10, i64 r11, sl r13.length (r13.map f32)]⟩, ⟨1, some [i64 r14, i64 r15, sl r17.length (r17.map f32)]⟩, ⟨1, some [i64 r20, i64 r21, sl r23.length (r23.map f32)]⟩, ⟨1, some [i64 r26, i64 r27, sl r29.length (r29.map f32)]⟩, ⟨2, some [i64 r42, i64 r43, sl r45.length (r45.map f32)]⟩, ⟨2, none⟩, ⟨1, some [i64 r38, i64 r39, sl r41.length (r41.map f32)]⟩, ⟨1, some [i64 r50, i64 r51, sl r53.length (r53.map f32)]⟩]) rfl rfl rfl (TOp.loadAgg_o rfl agg26 siz26 rfl rfl rfl rfl) rfl ?_
                   refine ROps.d (r := agg [i64 r42, i64 r43, sl r45.length (r45.map f32)]) (fs := []) (Γ' := [⟨1, some [i64 r2, i64 r3, sl r4.length (r4.map f32)]⟩, ⟨1, some [i64 r7, i64 r8, sl r9.length (r9.map f32)]⟩, ⟨1, some [i64 r10, i64 r11, sl r13.length (r13.map f32)]⟩, ⟨1, some [i64 r14, i64 r15, sl r17.length (r17.map f32)]⟩, ⟨1, some [i64 r20, i64 r21, sl r23.length (r23.map f32)]⟩, ⟨1, some [i64 r26, i64 r27, sl r29.length (r29.map f32)]⟩, ⟨2, some [i64 r42, i64 r43, sl r45.length (r45.map f32)]⟩, ⟨2, none⟩, ⟨1, some [i64 r38, i64 r39, sl r41.length (r41.map f32)]⟩, ⟨1, some [i64 r50, i64 r51, sl r53.length (r53.map f32)]⟩]) rfl rfl rfl (TOp.loadAgg_o rfl agg26 siz26 rfl rfl rfl rfl) rfl ?_
                   refine ROps.d (r := b true) (fs := []) (Γ' := [⟨1, some [i64 r2, i64 r3, sl r4.length (r4.map f32)]⟩, ⟨1, some [i64 r7, i64 r8, sl r9.length (r9.map f32)]⟩, ⟨1, some [i64 r10, i64 r11, sl r13.length (r13.map f32)]⟩, ⟨1, some [i64 r14, i64 r15, sl r17.length (r17.map f32)]⟩, ⟨1, some [i64 r20, i64 r21, sl r23.length (r23.map f32)]⟩, ⟨1, some [i64 r26, i64 r27, sl r29.length (r29.map f32)]⟩, ⟨2, some [i64 r42, i64 r43, sl r45.length (r45.map f32)]⟩, ⟨2, none⟩, ⟨1, some [i64 r38, i64 r39, sl r41.length (r41.map f32)]⟩, ⟨1, some [i64 r50, i64 r51, sl r53.length (r53.map f32)]⟩]) rfl rfl rfl (TOp.eqb (TOp.callB (CallAs.func ent16 rfl rfl) (Bors.cons (Bor.agg (Bors.cons (Bor.pure rfl) (Bors.cons (Bor.pure rfl) (Bors.cons (Bor.sl (fun _ => rfl)) Bors.nil)))) (Bors.cons (Bor.agg (Bors.cons (Bor.pure rfl) (Bors.cons (Bor.pure rfl) (Bors.cons (Bor.sl (fun _ => rfl)) Bors.nil)))) Bors.nil)) rfl rfl (i_SameMatrix_ok r38 r39 r41 r42 r43 r45 r55 hf33)) hc34) rfl ?_
                   refine zL (r := b false) rfl rfl rfl (LOp.eqb (LOp.not rfl rfl) rfl) ?_
                   refine zL (r := b false) rfl rfl rfl (LOp.pick_false rfl rfl rfl) ?_
                   refine zM (r := b false) rfl rfl rfl rfl rfl ?_
                   refine zL (r := optr 4 1 2) rfl rfl rfl (LOp.fao und26 rfl siz24 rfl rfl rfl) ?_
                   refine ROps.d (r := sl r23.length (r23.map f32)) (fs := []) (Γ' := [⟨1, some [i64 r2, i64 r3, sl r4.length (r4.map f32)]⟩, ⟨1, some [i64 r7, i64 r8, sl r9.length (r9.map f32)]⟩, ⟨1, some [i64 r10, i64 r11, sl r13.length (r13.map f32)]⟩, ⟨1, some [i64 r14, i64 r15, sl r17.length (r17.map f32)]⟩, ⟨1, some [i64 r20, i64 r21, sl r23.length (r23.map f32)]⟩, ⟨1, some [i64 r26, i64 r27, sl r29.length (r29.map f32)]⟩, ⟨2, some [i64 r42, i64 r43, sl r45.length (r45.map f32)]⟩, ⟨2, none⟩, ⟨1, some [i64 r38, i64 r39, sl r41.length (r41.map f32)]⟩, ⟨1, some [i64 r50, i64 r51, sl r53.length (r53.map f32)]⟩]) rfl rfl rfl (TOp.load1_o rfl rfl agg24 rfl rfl) rfl ?_
                   refine zL (r := i64 (r23.length : Int)) rfl rfl rfl (LOp.len_sl und24 rfl rfl) ?_
                   refine zL (r := optr 2 1 2) rfl rfl rfl (LOp.fao und26 rfl siz24 rfl rfl rfl) ?_
                   refine ROps.d (r := sl r13.length (r13.map f32)) (fs := []) (Γ' := [⟨1, some [i64 r2, i64 r3, sl r4.length (r4.map f32)]⟩, ⟨1, some [i64 r7, i64 r8, sl r9.length (r9.map f32)]⟩, ⟨1, some [i64 r10, i64 r11, sl r13.length (r13.map f32)]⟩, ⟨1, some [i64 r14, i64 r15, sl r17.length (r17.map f32)]⟩, ⟨1, some [i64 r20, i64 r21, sl r23.length (r23.map f32)]⟩, ⟨1, some [i64 r26, i64 r27, sl r29.length (r29.map f32)]⟩, ⟨2, some [i64 r42, i64 r43, sl r45.length (r45.map f32)]⟩, ⟨2, none⟩, ⟨1, some [i64 r38, i64 r39, sl r41.length (r41.map f32)]⟩, ⟨1, some [i64 r50, i64 r51, sl r53.length (r53.map f32)]⟩]) rfl rfl rfl (TOp.load1_o rfl rfl agg24 rfl rfl) rfl ?_
                   refine zL (r := i64 (r13.length : Int)) rfl rfl rfl (LOp.len_sl und24 rfl rfl) ?_
                   refine zL (r := b false) rfl rfl rfl (LOp.eqb (LOp.neq rfl rfl rfl) hc35) ?_
                   refine zL (r := b false) rfl rfl rfl (LOp.pick_false rfl rfl rfl) ?_
                   refine zM (r := b false) rfl rfl rfl rfl rfl ?_
                   refine zL (r := optr 3 1 2) rfl rfl rfl (LOp.fao und26 rfl siz24 rfl rfl rfl) ?_
                   refine ROps.d (r := sl r17.length (r17.map f32)) (fs := []) (Γ' := [⟨1, some [i64 r2, i64 r3, sl r4.length (r4.map f32)]⟩, ⟨1, some [i64 r7, i64 r8, sl r9.length (r9.map f32)]⟩, ⟨1, some [i64 r10, i64 r11, sl r13.length (r13.map f32)]⟩, ⟨1, some [i64 r14, i64 r15, sl r17.length (r17.map f32)]⟩, ⟨1, some [i64 r20, i64 r21, sl r23.length (r23.map f32)]⟩, ⟨1, some [i64 r26, i64 r27, sl r29.length (r29.map f32)]⟩, ⟨2, some [i64 r42, i64 r43, sl r45.length (r45.map f32)]⟩, ⟨2, none⟩, ⟨1, some [i64 r38, i64 r39, sl r41.length (r41.map f32)]⟩, ⟨1, some [i64 r50, i64 r51, sl r53.length (r53.map f32)]⟩]) rfl rfl rfl (TOp.load1_o rfl rfl agg24 rfl rfl) rfl ?_
                   refine zL (r := i64 (r17.length : Int)) rfl rfl rfl (LOp.len_sl und24 rfl rfl) ?_
                   refine zL (r := optr 2 1 2) rfl rfl rfl (LOp.fao und26 rfl siz24 rfl rfl rfl) ?_
                   refine ROps.d (r := sl r13.length (r13.map f32)) (fs := []) (Γ' := [⟨1, some [i64 r2, i64 r3, sl r4.length (r4.map f32)]⟩, ⟨1, some [i64 r7, i64 r8, sl r9.length (r9.map f32)]⟩, ⟨1, some [i64 r10, i64 r11, sl r13.length (r13.map f32)]⟩, ⟨1, some [i64 r14, i64 r15, sl r17.length (r17.map f32)]⟩, ⟨1, some [i64 r20, i64 r21, sl r23.length (r23.map f32)]⟩, ⟨1, some [i64 r26, i64 r27, sl r29.length (r29.map f32)]⟩, ⟨2, some [i64 r42, i64 r43, sl r45.length (r45.map f32)]⟩, ⟨2, none⟩, ⟨1, some [i64 r38, i64 r39, sl r41.length (r41.map f32)]⟩, ⟨1, some [i64 r50, i64 r51, sl r53.length (r53.map f32)]⟩]) rfl rfl rfl (TOp.load1_o rfl rfl agg24 rfl rfl) rfl ?_
                   refine zL (r := i64 (r13.length : Int)) rfl rfl rfl (LOp.len_sl und24 rfl rfl) ?_
                   refine zL (r := b false) rfl rfl rfl (LOp.eqb (LOp.neq rfl rfl rfl) hc36) ?_
                   refine zL (r := b false) rfl rfl rfl (LOp.pick_false rfl rfl rfl) ?_
                   refine zM (r := b false) rfl rfl rfl rfl rfl ?_
                   refine zL (r := optr 9 1 2) rfl rfl rfl (LOp.fao und26 rfl siz24 rfl rfl rfl) ?_
                   refine ROps.d (r := sl r53.length (r53.map f32)) (fs := []) (Γ' := [⟨1, some [i64 r2, i64 r3, sl r4.length (r4.map f32)]⟩, ⟨1, some [i64 r7, i64 r8, sl r9.length (r9.map f32)]⟩, ⟨1, some [i64 r10, i64 r11, sl r13.length (r13.map f32)]⟩, ⟨1, some [i64 r14, i64 r15, sl r17.length (r17.map f32)]⟩, ⟨1, some [i64 r20, i64 r21, sl r23.length (r23.map f32)]⟩, ⟨1, some [i64 r26, i64 r27, sl r29.length (r29.map f32)]⟩, ⟨2, some [i64 r42, i64 r43, sl r45.length (r45.map f32)]⟩, ⟨2, none⟩, ⟨1, some [i64 r38, i64 r39, sl r41.length (r41.map f32)]⟩, ⟨1, some [i64 r50, i64 r51, sl r53.length (r53.map f32)]⟩]) rfl rfl rfl (TOp.load1_o rfl rfl agg24 rfl rfl) rfl ?_
                   refine zL (r := i64 (r53.length : Int)) rfl rfl rfl (LOp.len_sl und24 rfl rfl) ?_
                   refine zL (r := optr 0 1 2) rfl rfl rfl (LOp.fao und26 rfl siz24 rfl rfl rfl) ?_
                   refine ROps.d (r := sl r4.length (r4.map f32)) (fs := []) (Γ' := [⟨1, some [i64 r2, i64 r3, sl r4.length (r4.map f32)]⟩, ⟨1, some [i64 r7, i64 r8, sl r9.length (r9.map f32)]⟩, ⟨1, some [i64 r10, i64 r11, sl r13.length (r13.map f32)]⟩, ⟨1, some [i64 r14, i64 r15, sl r17.length (r17.map f32)]⟩, ⟨1, some [i64 r20, i64 r21, sl r23.length (r23.map f32)]⟩, ⟨1, some [i64 r26, i64 r27, sl r29.length (r29.map f32)]⟩, ⟨2, some [i64 r42, i64 r43, sl r45.length (r45.map f32)]⟩, ⟨2, none⟩, ⟨1, some [i64 r38, i64 r39, sl r41.length (r41.map f32)]⟩, ⟨1, some [i64 r50, i64 r51, sl r53.length (r53.map f32)]⟩]) rfl rfl rfl (TOp.load1_o rfl rfl agg24 rfl rfl) rfl ?_
                   refine zL (r := i64 (r4.length : Int)) rfl rfl rfl (LOp.len_sl und24 rfl rfl) ?_
                   refine zL (r := b false) rfl rfl rfl (LOp.eqb (LOp.neq rfl rfl rfl) hc37) ?_
                   refine zL (r := b false) rfl rfl rfl (LOp.pick_false rfl rfl rfl) ?_
                   refine zM (r := b false) rfl rfl rfl rfl rfl ?_
                   refine zL (r := optr 2 1 0) rfl rfl rfl (LOp.fao und26 rfl siz2 rfl rfl rfl) ?_
                   refine ROps.d (r := i64 r10) (fs := []) (Γ' := [⟨1, some [i64 r2, i64 r3, sl r4.length (r4.map f32)]⟩, ⟨1, some [i64 r7, i64 r8, sl r9.length (r9.map f32)]⟩, ⟨1, some [i64 r10, i64 r11, sl r13.length (r13.map f32)]⟩, ⟨1, some [i64 r14, i64 r15, sl r17.length (r17.map f32)]⟩, ⟨1, some [i64 r20, i64 r21, sl r23.length (r23.map f32)]⟩, ⟨1, some [i64 r26, i64 r27, sl r29.length (r29.map f32)]⟩, ⟨2, some [i64 r42, i64 r43, sl r45.length (r45.map f32)]⟩, ⟨2, none⟩, ⟨1, some [i64 r38, i64 r39, sl r41.length (r41.map f32)]⟩, ⟨1, some [i64 r50, i64 r51, sl r53.length (r53.map f32)]⟩]) rfl rfl rfl (TOp.load1_o rfl rfl agg2 rfl rfl) rfl ?_
                   refine zL (r := optr 0 1 0) rfl rfl rfl (LOp.fao und26 rfl siz2 rfl rfl rfl) ?_
                   refine ROps.d (r := i64 r2) (fs := []) (Γ' := [⟨1, some [i64 r2, i64 r3, sl r4.length (r4.map f32)]⟩, ⟨1, some [i64 r7, i64 r8, sl r9.length (r9.map f32)]⟩, ⟨1, some [i64 r10, i64 r11, sl r13.length (r13.map f32)]⟩, ⟨1, some [i64 r14, i64 r15, sl r17.length (r17.map f32)]⟩, ⟨1, some [i64 r20, i64 r21, sl r23.length (r23.map f32)]⟩, ⟨1, some [i64 r26, i64 r27, sl r29.length (r29.map f32)]⟩, ⟨2, some [i64 r42, i64 r43, sl r45.length (r45.map f32)]⟩, ⟨2, none⟩, ⟨1, some [i64 r38, i64 r39, sl r41.length (r41.map f32)]⟩, ⟨1, some [i64 r50, i64 r51, sl r53.length (r53.map f32)]⟩]) rfl rfl rfl (TOp.load1_o rfl rfl agg2 rfl rfl) rfl ?_
                   refine zL (r := b true) rfl rfl rfl (LOp.eqb (LOp.neq rfl rfl rfl) hc38) ?_
                   refine zL (r := b true) rfl rfl rfl (LOp.pick_false rfl rfl rfl) ?_
                   refine zM (r := b true) rfl rfl rfl rfl rfl ?_
                   iterate 4 (refine ROps.s rfl rfl rfl ?_)
                   refine zL (r := b true) rfl rfl rfl (LOp.pick_true rfl rfl rfl) ?_
                   refine zN ?_
                   exact .inl ⟨(Le.of ⟨aR, aR, aR, aR, aR, aR, aR, aR, aR, trivial⟩ ⟨⟨rfl, .inr rfl⟩, ⟨rfl, .inr rfl⟩, ⟨rfl, .inr rfl⟩, ⟨rfl, .inr rfl⟩, ⟨rfl, .inr rfl⟩, ⟨rfl, .inl rfl⟩, ⟨rfl, .inl rfl⟩, ⟨rfl, .inl rfl⟩, ⟨rfl, .inl rfl⟩, ⟨rfl, .inr rfl⟩, trivial⟩), h⟩
                  ·rcases bsel_some h with ⟨hc39, h⟩ | ⟨hc39, h⟩
                   ·refine RunC.regionW ?_
                    refine zL (r := b true) rfl rfl rfl (LOp.eqb (LOp.move rfl rfl) hc21) ?_
                    refine zL (r := b false) rfl rfl rfl (LOp.eqb (LOp.not rfl rfl) rfl) ?_
                    refine zM (r := b false) rfl rfl rfl rfl rfl ?_
                    refine zL (r := b true) rfl rfl rfl (LOp.eqb (LOp.move rfl rfl) hc22) ?_
                    refine zL (r := b false) rfl rfl rfl (LOp.eqb (LOp.not rfl rfl) rfl) ?_
                    refine zL (r := b false) rfl rfl rfl (LOp.pick_false rfl rfl rfl) ?_
                    refine zM (r := b false) rfl rfl rfl rfl rfl ?_
                    refine zL (r := b true) rfl rfl rfl (LOp.eqb (LOp.move rfl rfl) hc23) ?_
                    refine zL (r := b false) rfl rfl rfl (LOp.eqb (LOp.not rfl rfl) rfl) ?_
                    refine zL (r := b false) rfl rfl rfl (LOp.pick_false rfl rfl rfl) ?_
                    refine zM (r := b false) rfl rfl rfl rfl rfl ?_
                    refine zL (r := b true) rfl rfl rfl (LOp.eqb (LOp.move rfl rfl) hc24) ?_
                    refine zL (r := b false) rfl rfl rfl (LOp.eqb (LOp.not rfl rfl) rfl) ?_
                    refine zL (r := b false) rfl rfl rfl (LOp.pick_false rfl rfl rfl) ?_
                    refine zM (r := b false) rfl rfl rfl rfl rfl ?_
                    refine zL (r := b true) rfl rfl rfl (LOp.eqb (LOp.move rfl rfl) hc25) ?_
                    refine zL (r := b false) rfl rfl rfl (LOp.eqb (LOp.not rfl rfl) rfl) ?_
                    refine zL (r := b false) rfl rfl rfl (LOp.pick_false rfl rfl rfl) ?_
                    refine zM (r := b false) rfl rfl rfl rfl rfl ?_
                    refine zL (r := b true) rfl rfl rfl (LOp.eqb (LOp.move rfl rfl) hc26) ?_
                    refine zL (r := b false) rfl rfl rfl (LOp.eqb (LOp.not rfl rfl) rfl) ?_
                    refine zL (r := b false) rfl rfl rfl (LOp.pick_false rfl rfl rfl) ?_
                    refine zM (r := b false) rfl rfl rfl rfl rfl ?_
                    refine zL (r := b true) rfl rfl rfl (LOp.eqb (LOp.move rfl rfl) hc27) ?_
                    refine zL (r := b false) rfl rfl rfl (LOp.eqb (LOp.not rfl rfl) rfl) ?_
                    refine zL (r := b false) rfl rfl rfl (LOp.pick_false rfl rfl rfl) ?_
                    refine zM (r := b false) rfl rfl rfl rfl rfl ?_
                    refine zL (r := b true) rfl rfl rfl (LOp.eqb (LOp.move rfl rfl) hc28) ?_
                    refine zL (r := b false) rfl rfl rfl (LOp.eqb (LOp.not rfl rfl) rfl) ?_
                    refine zL (r := b false) rfl rfl rfl (LOp.pick_false rfl rfl rfl) ?_
                    refine zM (r := b false) rfl rfl rfl rfl rfl ?_
                    refine zL (r := b true) rfl rfl rfl (LOp.eqb (LOp.move rfl rfl) hc29) ?_
                    refine zL (r := b false) rfl rfl rfl (LOp.eqb (LOp.not rfl rfl) rfl) ?_
                    refine zL (r := b false) rfl rfl rfl (LOp.pick_false rfl rfl rfl) ?_
                    refine zM (r := b false) rfl rfl rfl rfl rfl ?_
                    refine zL (r := b true) rfl rfl rfl (LOp.eqb (LOp.move rfl rfl) hc30) ?_
                    refine zL (r := b false) rfl rfl rfl (LOp.eqb (LOp.not rfl rfl) rfl) ?_
                    refine zL (r := b false) rfl rfl rfl (LOp.pick_false rfl rfl rfl) ?_
                    refine zM (r := b false) rfl rfl rfl rfl rfl ?_
                    refine ROps.d (r := agg [i64 r10, i64 r11, sl r13.length (r13.map f32)]) (fs := []) (Γ' := [⟨1, some [i64 r2, i64 r3, sl r4.length (r4.map f32)]⟩, ⟨1, some [i64 r7, i64 r8, sl r9.length (r9.map f32)]⟩, ⟨1, some [i64 r10, i64 r11, sl r13.length (r13.map f32)]⟩, ⟨1, some [i64 r14, i64 r15, sl r17.length (r17.map f32)]⟩, ⟨1, some [i64 r20, i64 r21, sl r23.length (r23.map f32)]⟩, ⟨1, some [i64 r26, i64 r27, sl r29.length (r29.map f32)]⟩, ⟨2, some [i64 r42, i64 r43, sl r45.length (r45.map f32)]⟩, ⟨2, none⟩, ⟨1, some [i64 r38, i64 r39, sl r41.length (r41.map f32)]⟩, ⟨1, some [i64 r50, i64 r51, sl r53.length (r53.map f32)]⟩]) rfl rfl rfl (TOp.loadAgg_o rfl agg26 siz26 rfl rfl rfl rfl) rfl ?_
                    refine ROps.d (r := agg [i64 r26, i64 r27, sl r29.length (r29.map f32)]) (fs := []) (Γ' := [⟨1, some [i64 r2, i64 r3, sl r4.length (r4.map f32)]⟩, ⟨1, some [i64 r7, i64 r8, sl r9.length (r9.map f32)]⟩, ⟨1, some [i64 r10, i64 r11, sl r13.length (r13.map f32)]⟩, ⟨1, some [i64 r14, i64 r15, sl r17.length (r17.map f32)]⟩, ⟨1, some [i64 r20, i64 r21, sl r23.length (r23.map f32)]⟩, ⟨1, some [i64 r26, i64 r27, sl r29.length (r29.map f32)]⟩, ⟨2, some [i64 r42, i64 r43, sl r45.length (r45.map f32)]⟩, ⟨2, none⟩, ⟨1, some [i64 r38, i64 r39, sl r41.length (r41.map f32)]⟩, ⟨1, some [i64 r50, i64 r51, sl r53.length (r53.map f32)]⟩]) rfl rfl rfl (TOp.loadAgg_o rfl agg26 siz26 rfl rfl rfl rfl) rfl ?_
                    refine ROps.d (r := b true) (fs := []) (Γ' := [⟨1, some [i64 r2, i64 r3, sl r4.length (r4.map f32)]⟩, ⟨1, some [i64 r7, i64 r8, sl r9.length (r9.map f32)]⟩, ⟨1, some [i64 r10, i64 r11, sl r13.length (r13.map f32)]⟩, ⟨1, some [i64 r14, i64 r15, sl r17.length (r17.map f32)]⟩, ⟨1, some [i64 r20, i64 r21, sl r23.length (r23.map f32)]⟩, ⟨1, some [i64 r26, i64 r27, sl r29.length (r29.map f32)]⟩, ⟨2, some [i64 r42, i64 r43, sl r45.length (r45.map f32)]⟩, ⟨2, none⟩, ⟨1, some [i64 r38, i64 r39, sl r41.length (r41.map f32)]⟩, ⟨1, some [i64 r50, i64 r51, sl r53.length (r53.map f32)]⟩]) rfl rfl rfl (TOp.eqb (TOp.callB (CallAs.func ent16 rfl rfl) (Bors.cons (Bor.agg (Bors.cons (Bor.pure rfl) (Bors.cons (Bor.pure rfl) (Bors.cons (Bor.sl (fun _ => rfl)) Bors.nil)))) (Bors.cons (Bor.agg (Bors.cons (Bor.pure rfl) (Bors.cons (Bor.pure rfl) (Bors.cons (Bor.sl (fun _ => rfl)) Bors.nil)))) Bors.nil)) rfl rfl (i_SameMatrix_ok r10 r11 r13 r26 r27 r29 r54 hf31)) hc32) rfl ?_
                    refine zL (r := b false) rfl rfl rfl (LOp.eqb (LOp.not rfl rfl) rfl) ?_
                    refine zL (r := b false) rfl rfl rfl (LOp.pick_false rfl rfl rfl) ?_
                    refine zM (r := b false) rfl rfl rfl rfl rfl ?_
                    refine ROps.d (r := agg [i64 r38, i64 r39, sl r41.length (r41.map f32)]) (fs := []) (Γ' := [⟨1, some [i64 r2, i64 r3, sl r4.length (r4.map f32)]⟩, ⟨1, some [i64 r7, i64 r8, sl r9.length (r9.map f32)]⟩, ⟨1, some [i64 r10, i64 r11, sl r13.length (r13.map f32)]⟩, ⟨1, some [i64 r14, i64 r15, sl r17.length (r17.map f32)]⟩, ⟨1, some [i64 r20, i64 r21, sl r23.length (r23.map f32)]⟩, ⟨1, some [i64 r26, i64 r27, sl r29.length (r29.map f32)]⟩, ⟨2, some [i64 r42, i64 r43, sl r45.length (r45.map f32)]⟩, ⟨2, none⟩, ⟨1, some [i64 r38, i64 r39, sl r41.length (r41.map f32)]⟩, ⟨1, some [i64 r50, i64 r51, sl r53.length (r53.map f32)]⟩]) rfl rfl rfl (TOp.loadAgg_o rfl agg26 siz26 rfl rfl rfl rfl) rfl ?_
                    refine ROps.d (r := agg [i64 r42, i64 r43, sl r45.length (r45.map f32)]) (fs := []) (Γ' := [⟨1, some [i64 r2, i64 r3, sl r4.length (r4.map f32)]⟩, ⟨1, some [i64 r7, i64 r8, sl r9.length (r9.map f32)]⟩, ⟨1, some [i64 r10, i64 r11, sl r13.length (r13.map f32)]⟩, ⟨1, some [i64 r14, i64 r15, sl r17.length (r17.map f32)]⟩, ⟨1, some [i64 r20, i64 r21, sl r23.length (r23.map f32)]⟩, ⟨1, some [i64 r26, i64 r27, sl r29.length (r29.map f32)]⟩, ⟨2, some [i64 r42, i64 r43, sl r45.length (r45.map f32)]⟩, ⟨2, none⟩, ⟨1, some [i64 r38, i64 r39, sl r41.length (r41.map f32)]⟩, ⟨1, some [i64 r50, i64 r51, sl r53.length (r53.map f32)]⟩]) rfl rfl rfl (TOp.loadAgg_o rfl agg26 siz26 rfl rfl rfl rfl) rfl ?_
                    refine ROps.d (r := b true) (fs := []) (Γ' := [⟨1, some [i64 r2, i64 r3, sl r4.length (r4.map f32)]⟩, ⟨1, some [i64 r7, i64 r8, sl r9.length (r9.map f32)]⟩, ⟨1, some [i64 r10, i64 r11, sl r13.length (r13.map f32)]⟩, ⟨1, some [i64 r14, i64 r15, sl r17.length (r17.map f32)]⟩, ⟨1, some [i64 r20, i64 r21, sl r23.length (r23.map f32)]⟩, ⟨1, some [i64 r26, i64 r27, sl r29.length (r29.map f32)]⟩, ⟨2, some [i64 r42, i64 r43, sl r45.length (r45.map f32)]⟩, ⟨2, none⟩, ⟨1, some [i64 r38, i64 r39, sl r41.length (r41.map f32)]⟩, ⟨1, some [i64 r50, i64 r51, sl r53.length (r53.map f32)]⟩]) rfl rfl rfl (TOp.eqb (TOp.callB (CallAs.func ent16 rfl rfl) (Bors.cons (Bor.agg (Bors.cons (Bor.pure rfl) (Bors.cons (Bor.pure rfl) (Bors.cons (Bor.sl (fun _ => rfl)) Bors.nil)))) (Bors.cons (Bor.agg (Bors.cons (Bor.pure rfl) (Bors.cons (Bor.pure rfl) (Bors.cons (Bor.sl (fun _ => rfl)) Bors.nil)))) Bors.nil)) rfl rfl (i_SameMatrix_ok r38 r39 r41 r42 r43 r45 r55 hf33)) hc34) rfl ?_
                    refine zL (r := b false) rfl rfl rfl (LOp.eqb (LOp.not rfl rfl) rfl) ?_
                    refine zL (r := b false) rfl rfl rfl (LOp.pick_false rfl rfl rfl) ?_
                    refine zM (r := b false) rfl rfl rfl rfl rfl ?_
                    refine zL (r := optr 4 1 2) rfl rfl rfl (LOp.fao und26 rfl siz24 rfl rfl rfl) ?_
                    refine ROps.d (r := sl r23.length (r23.map f32)) (fs := []) (Γ' := [⟨1, some [i64 r2, i64 r3, sl r4.length (r4.map f32)]⟩, ⟨1, some [i64 r7, i64 r8, sl r9.length (r9.map f32)]⟩, ⟨1, some [i64 r10, i64 r11, sl r13.length (r13.map f32)]⟩, ⟨1, some [i64 r14, i64 r15, sl r17.length (r17.map f32)]⟩, ⟨1, some [i64 r20, i64 r21, sl r23.length (r23.map f32)]⟩, ⟨1, some [i64 r26, i64 r27, sl r29.length (r29.map f32)]⟩, ⟨2, some [i64 r42, i64 r43, sl r45.length (r45.map f32)]⟩, ⟨2, none⟩, ⟨1, some [i64 r38, i64 r39, sl r41.length (r41.map f32)]⟩, ⟨1, some [i64 r50, i64 r51, sl r53.length (r53.map f32)]⟩]) rfl rfl rfl (TOp.load1_o rfl rfl agg24 rfl rfl) rfl ?_
                    refine zL (r := i64 (r23.length : Int)) rfl rfl rfl (LOp.len_sl und24 rfl rfl) ?_
                    refine zL (r := optr 2 1 2) rfl rfl rfl (LOp.fao und26 rfl siz24 rfl rfl rfl) ?_
                    refine ROps.d (r := sl r13.length (r13.map f32)) (fs := []) (Γ' := [⟨1, some [i64 r2, i64 r3, sl r4.length (r4.map f32)]⟩, ⟨1, some [i64 r7, i64 r8, sl r9.length (r9.map f32)]⟩, ⟨1, some [i64 r10, i64 r11, sl r13.length (r13.map f32)]⟩, ⟨1, some [i64 r14, i64 r15, sl r17.length (r17.map f32)]⟩, ⟨1, some [i64 r20, i64 r21, sl r23.length (r23.map f32)]⟩, ⟨1, some [i64 r26, i64 r27, sl r29.length (r29.map f32)]⟩, ⟨2, some [i64 r42, i64 r43, sl r45.length (r45.map f32)]⟩, ⟨2, none⟩, ⟨1, some [i64 r38, i64 r39, sl r41.length (r41.map f32)]⟩, ⟨1, some [i64 r50, i64 r51, sl r53.length (r53.map f32)]⟩]) rfl rfl rfl (TOp.load1_o rfl rfl agg24 rfl rfl) rfl ?_
                    refine zL (r := i64 (r13.length : Int)) rfl rfl rfl (LOp.len_sl und24 rfl rfl) ?_
                    refine zL (r := b false) rfl rfl rfl (LOp.eqb (LOp.neq rfl rfl rfl) hc35) ?_
                    refine zL (r := b false) rfl rfl rfl (LOp.pick_false rfl rfl rfl) ?_
                    refine zM (r := b false) rfl rfl rfl rfl rfl ?_
                    refine zL (r := optr 3 1 2) rfl rfl rfl (LOp.fao und26 rfl siz24 rfl rfl rfl) ?_
                    refine ROps.d (r := sl r17.length (r17.map f32)) (fs := []) (Γ' := [⟨1, some [i64 r2, i64 r3, sl r4.length (r4.map f32)]⟩, ⟨1, some [i64 r7, i64 r8, sl r9.length (r9.map f32)]⟩, ⟨1, some [i64 r10, i64 r11, sl r13.length (r13.map f32)]⟩, ⟨1, some [i64 r14, i64 r15, sl r17.length (r17.map f32)]⟩, ⟨1, some [i64 r20, i64 r21, sl r23.length (r23.map f32)]⟩, ⟨1, some [i64 r26, i64 r27, sl r29.length (r29.map f32)]⟩, ⟨2, some [i64 r42, i64 r43, sl r45.length (r45.map f32)]⟩, ⟨2, none⟩, ⟨1, some [i64 r38, i64 r39, sl r41.length (r41.map f32)]⟩, ⟨1, some [i64 r50, i64 r51, sl r53.length (r53.map f32)]⟩]) rfl rfl rfl (TOp.load1_o rfl rfl agg24 rfl rfl) rfl ?_
                    refine zL (r := i64 (r17.length : Int)) rfl rfl rfl (LOp.len_sl und24 rfl rfl) ?_
                    refine zL (r := optr 2 1 2) rfl rfl rfl (LOp.fao und26 rfl siz24 rfl rfl rfl) ?_
                    refine ROps.d (r := sl r13.length (r13.map f32)) (fs := []) (Γ' := [⟨1, some [i64 r2, i64 r3, sl r4.length (r4.map f32)]⟩, ⟨1, some [i64 r7, i64 r8, sl r9.length (r9.map f32)]⟩, ⟨1, some [i64 r10, i64 r11, sl r13.length (r13.map f32)]⟩, ⟨1, some [i64 r14, i64 r15, sl r17.length (r17.map f32)]⟩, ⟨1, some [i64 r20, i64 r21, sl r23.length (r23.map f32)]⟩, ⟨1, some [i64 r26, i64 r27, sl r29.length (r29.map f32)]⟩, ⟨2, some [i64 r42, i64 r43, sl r45.length (r45.map f32)]⟩, ⟨2, none⟩, ⟨1, some [i64 r38, i64 r39, sl r41.length (r41.map f32)]⟩, ⟨1, some [i64 r50, i64 r51, sl r53.length (r53.map f32)]⟩]) rfl rfl rfl (TOp.load1_o rfl rfl agg24 rfl rfl) rfl ?_
                    refine zL (r := i64 (r13.length : Int)) rfl rfl rfl (LOp.len_sl und24 rfl rfl) ?_
                    refine zL (r := b false) rfl rfl rfl (LOp.eqb (LOp.neq rfl rfl rfl) hc36) ?_
                    refine zL (r := b false) rfl rfl rfl (LOp.pick_false rfl rfl rfl) ?_
                    refine zM (r := b false) rfl rfl rfl rfl rfl ?_
                    refine zL (r := optr 9 1 2) rfl rfl rfl (LOp.fao und26 rfl siz24 rfl rfl rfl) ?_
                    refine ROps.d (r := sl r53.length (r53.map f32)) (fs := []) (Γ' := [⟨1, some [i64 r2, i64 r3, sl r4.length (r4.map f32)]⟩, ⟨1, some [i64 r7, i64 r8, sl r9.length (r9.map f32)]⟩, ⟨1, some [i64 r10, i64 r11, sl r13.length (r13.map f32)]⟩, ⟨1, some [i64 r14, i64 r15, sl r17.length (r17.map f32)]⟩, ⟨1, some [i64 r20, i64 r21, sl r23.length (r23.map f32)]⟩, ⟨1, some [i64 r26, i64 r27, sl r29.length (r29.map f32)]⟩, ⟨2, some [i64 r42, i64 r43, sl r45.length (r45.map f32)]⟩, ⟨2, none⟩, ⟨1, some [i64 r38, i64 r39, sl r41.length (r41.map f32)]⟩, ⟨1, some [i64 r50, i64 r51, sl r53.length (r53.map f32)]⟩]) rfl rfl rfl (TOp.load1_o rfl rfl agg24 rfl rfl) rfl ?_
                    refine zL (r := i64 (r53.length : Int)) rfl rfl rfl (LOp.len_sl und24 rfl rfl) ?_
                    refine zL (r := optr 0 1 2) rfl rfl rfl (LOp.fao und26 rfl siz24 rfl rfl rfl) ?_
                    refine ROps.d (r := sl r4.length (r4.map f32)) (fs := []) (Γ' := [⟨1, some [i64 r2, i64 r3, sl r4.length (r4.map f32)]⟩, ⟨1, some [i64 r7, i64 r8, sl r9.length (r9.map f32)]⟩, ⟨1, some [i64 r10, i64 r11, sl r13.length (r13.map f32)]⟩, ⟨1, some [i64 r14, i64 r15, sl r17.length (r17.map f32)]⟩, ⟨1, some [i64 r20, i64 r21, sl r23.length (r23.map f32)]⟩, ⟨1, some [i64 r26, i64 r27, sl r29.length (r29.map f32)]⟩, ⟨2, some [i64 r42, i64 r43, sl r45.length (r45.map f32)]⟩, ⟨2, none⟩, ⟨1, some [i64 r38, i64 r39, sl r41.length (r41.map f32)]⟩, ⟨1, some [i64 r50, i64 r51, sl r53.length (r53.map f32)]⟩]) rfl rfl rfl (TOp.load1_o rfl rfl agg24 rfl rfl) rfl ?_
                    refine zL (r := i64 (r4.length : Int)) rfl rfl rfl (LOp.len_sl und24 rfl rfl) ?_
                    refine zL (r := b false) rfl rfl rfl (LOp.eqb (LOp.neq rfl rfl rfl) hc37) ?_
                    refine zL (r := b false) rfl rfl rfl (LOp.pick_false rfl rfl rfl) ?_
                    refine zM (r := b false) rfl rfl rfl rfl rfl ?_
                    refine zL (r := optr 2 1 0) rfl rfl rfl (LOp.fao und26 rfl siz2 rfl rfl rfl) ?_
                    refine ROps.d (r := i64 r10) (fs := []) (Γ' := [⟨1, some [i64 r2, i64 r3, sl r4.length (r4.map f32)]⟩, ⟨1, some [i64 r7, i64 r8, sl r9.length (r9.map f32)]⟩, ⟨1, some [i64 r10, i64 r11, sl r13.length (r13.map f32)]⟩, ⟨1, some [i64 r14, i64 r15, sl r17.length (r17.map f32)]⟩, ⟨1, some [i64 r20, i64 r21, sl r23.length (r23.map f32)]⟩, ⟨1, some [i64 r26, i64 r27, sl r29.length (r29.map f32)]⟩, ⟨2, some [i64 r42, i64 r43, sl r45.length (r45.map f32)]⟩, ⟨2, none⟩, ⟨1, some [i64 r38, i64 r39, sl r41.length (r41.map f32)]⟩, ⟨1, some [i64 r50, i64 r51, sl r53.length (r53.map f32)]⟩]) rfl rfl rfl (TOp.load1_o rfl rfl agg2 rfl rfl) rfl ?_
                    refine zL (r := optr 0 1 0) rfl rfl rfl (LOp.fao und26 rfl siz2 rfl rfl rfl) ?_
                    refine ROps.d (r := i64 r2) (fs := []) (Γ' := [⟨1, some [i64 r2, i64 r3, sl r4.length (r4.map f32)]⟩, ⟨1, some [i64 r7, i64 r8, sl r9.length (r9.map f32)]⟩, ⟨1, some [i64 r10, i64 r11, sl r13.length (r13.map f32)]⟩, ⟨1, some [i64 r14, i64 r15, sl r17.length (r17.map f32)]⟩, ⟨1, some [i64 r20, i64 r21, sl r23.length (r23.map f32)]⟩, ⟨1, some [i64 r26, i64 r27, sl r29.length (r29.map f32)]⟩, ⟨2, some [i64 r42, i64 r43, sl r45.length (r45.map f32)]⟩, ⟨2, none⟩, ⟨1, some [i64 r38, i64 r39, sl r41.length (r41.map f32)]⟩, ⟨1, some [i64 r50, i64 r51, sl r53.length (r53.map f32)]⟩]) rfl rfl rfl (TOp.load1_o rfl rfl agg2 rfl rfl) rfl ?_
                    refine zL (r := b false) rfl rfl rfl (LOp.eqb (LOp.neq rfl rfl rfl) hc38) ?_
                    refine zL (r := b false) rfl rfl rfl (LOp.pick_false rfl rfl rfl) ?_
                    refine zM (r := b false) rfl rfl rfl rfl rfl ?_
                    refine zL (r := optr 2 1 1) rfl rfl rfl (LOp.fao und26 rfl siz2 rfl rfl rfl) ?_
                    refine ROps.d (r := i64 r11) (fs := []) (Γ' := [⟨1, some [i64 r2, i64 r3, sl r4.length (r4.map f32)]⟩, ⟨1, some [i64 r7, i64 r8, sl r9.length (r9.map f32)]⟩, ⟨1, some [i64 r10, i64 r11, sl r13.length (r13.map f32)]⟩, ⟨1, some [i64 r14, i64 r15, sl r17.length (r17.map f32)]⟩, ⟨1, some [i64 r20, i64 r21, sl r23.length (r23.map f32)]⟩, ⟨1, some [i64 r26, i64 r27, sl r29.length (r29.map f32)]⟩, ⟨2, some [i64 r42, i64 r43, sl r45.length (r45.map f32)]⟩, ⟨2, none⟩, ⟨1, some [i64 r38, i64 r39, sl r41.length (r41.map f32)]⟩, ⟨1, some [i64 r50, i64 r51, sl r53.length (r53.map f32)]⟩]) rfl rfl rfl (TOp.load1_o rfl rfl agg2 rfl rfl) rfl ?_
                    refine zM (r := i64 x6) rfl rfl rfl rfl rfl ?_
                    refine zL (r := b true) rfl rfl rfl (LOp.eqb (LOp.neq rfl rfl rfl) hc39) ?_
                    refine zL (r := b true) rfl rfl rfl (LOp.pick_false rfl rfl rfl) ?_
                    refine zN ?_
                    exact .inl ⟨(Le.of ⟨aR, aR, aR, aR, aR, aR, aR, aR, aR, trivial⟩ ⟨⟨rfl, .inr rfl⟩, ⟨rfl, .inr rfl⟩, ⟨rfl, .inr rfl⟩, ⟨rfl, .inr rfl⟩, ⟨rfl, .inr rfl⟩, ⟨rfl, .inl rfl⟩, ⟨rfl, .inl rfl⟩, ⟨rfl, .inl rfl⟩, ⟨rfl, .inl rfl⟩, ⟨rfl, .inr rfl⟩, trivial⟩), h⟩
                   ·refine RunC.regionW ?_
                    refine zL (r := b true) rfl rfl rfl (LOp.eqb (LOp.move rfl rfl) hc21) ?_
                    refine zL (r := b false) rfl rfl rfl (LOp.eqb (LOp.not rfl rfl) rfl) ?_
                    refine zM (r := b false) rfl rfl rfl rfl rfl ?_
                    refine zL (r := b true) rfl rfl rfl (LOp.eqb (LOp.move rfl rfl) hc22) ?_
                    refine zL (r := b false) rfl rfl rfl (LOp.eqb (LOp.not rfl rfl) rfl) ?_
                    refine zL (r := b false) rfl rfl rfl (LOp.pick_false rfl rfl rfl) ?_
                    refine zM (r := b false) rfl rfl rfl rfl rfl ?_
                    refine zL (r := b true) rfl rfl rfl (LOp.eqb (LOp.move rfl rfl) hc23) ?_
                    refine zL (r := b false) rfl rfl rfl (LOp.eqb (LOp.not rfl rfl) rfl) ?_
                    refine zL (r := b false) rfl rfl rfl (LOp.pick_false rfl rfl rfl) ?_
                    refine zM (r := b false) rfl rfl rfl rfl rfl ?_
                    refine zL (r := b true) rfl rfl rfl (LOp.eqb (LOp.move rfl rfl) hc24) ?_
                    refine zL (r := b false) rfl rfl rfl (LOp.eqb (LOp.not rfl rfl) rfl) ?_
                    refine zL (r := b false) rfl rfl rfl (LOp.pick_false rfl rfl rfl) ?_
                    refine zM (r := b false) rfl rfl rfl rfl rfl ?_
                    refine zL (r := b true) rfl rfl rfl (LOp.eqb (LOp.move rfl rfl) hc25) ?_
                    refine zL (r := b false) rfl rfl rfl (LOp.eqb (LOp.not rfl rfl) rfl) ?_
                    refine zL (r := b false) rfl rfl rfl (LOp.pick_false rfl rfl rfl) ?_
                    refine zM (r := b false) rfl rfl rfl rfl rfl ?_
                    refine zL (r := b true) rfl rfl rfl (LOp.eqb (LOp.move rfl rfl) hc26) ?_
                    refine zL (r := b false) rfl rfl rfl (LOp.eqb (LOp.not rfl rfl) rfl) ?_
                    refine zL (r := b false) rfl rfl rfl (LOp.pick_false rfl rfl rfl) ?_
                    refine zM (r := b false) rfl rfl rfl rfl rfl ?_
                    refine zL (r := b true) rfl rfl rfl (LOp.eqb (LOp.move rfl rfl) hc27) ?_
                    refine zL (r := b false) rfl rfl rfl (LOp.eqb (LOp.not rfl rfl) rfl) ?_
                    refine zL (r := b false) rfl rfl rfl (LOp.pick_false rfl rfl rfl) ?_
                    refine zM (r := b false) rfl rfl rfl rfl rfl ?_
                    refine zL (r := b true) rfl rfl rfl (LOp.eqb (LOp.move rfl rfl) hc28) ?_
                    refine zL (r := b false) rfl rfl rfl (LOp.eqb (LOp.not rfl rfl) rfl) ?_
                    refine zL (r := b false) rfl rfl rfl (LOp.pick_false rfl rfl rfl) ?_
                    refine zM (r := b false) rfl rfl rfl rfl rfl ?_
                    refine zL (r := b true) rfl rfl rfl (LOp.eqb (LOp.move rfl rfl) hc29) ?_
                    refine zL (r := b false) rfl rfl rfl (LOp.eqb (LOp.not rfl rfl) rfl) ?_
                    refine zL (r := b false) rfl rfl rfl (LOp.pick_false rfl rfl rfl) ?_
                    refine zM (r := b false) rfl rfl rfl rfl rfl ?_
                    refine zL (r := b true) rfl rfl rfl (LOp.eqb (LOp.move rfl rfl) hc30) ?_
                    refine zL (r := b false) rfl rfl rfl (LOp.eqb (LOp.not rfl rfl) rfl) ?_
                    refine zL (r := b false) rfl rfl rfl (LOp.pick_false rfl rfl rfl) ?_
                    refine zM (r := b false) rfl rfl rfl rfl rfl ?_
                    refine ROps.d (r := agg [i64 r10, i64 r11, sl r13.length (r13.map f32)]) (fs := []) (Γ' := [⟨1, some [i64 r2, i64 r3, sl r4.length (r4.map f32)]⟩, ⟨1, some [i64 r7, i64 r8, sl r9.length (r9.map f32)]⟩, ⟨1, some [i64 r10, i64 r11, sl r13.length (r13.map f32)]⟩, ⟨1, some [i64 r14, i64 r15, sl r17.length (r17.map f32)]⟩, ⟨1, some [i64 r20, i64 r21, sl r23.length (r23.map f32)]⟩, ⟨1, some [i64 r26, i64 r27, sl r29.length (r29.map f32)]⟩, ⟨2, some [i64 r42, i64 r43, sl r45.length (r45.map f32)]⟩, ⟨2, none⟩, ⟨1, some [i64 r38, i64 r39, sl r41.length (r41.map f32)]⟩, ⟨1, some [i64 r50, i64 r51, sl r53.length (r53.map f32)]⟩]) rfl rfl rfl (TOp.loadAgg_o rfl agg26 siz26 rfl rfl rfl rfl) rfl ?_
                    refine ROps.d (r := agg [i64 r26, i64 r27, sl r29.length (r29.map f32)]) (fs := []) (Γ' := [⟨1, some [i64 r2, i64 r3, sl r4.length (r4.map f32)]⟩, ⟨1, some [i64 r7, i64 r8, sl r9.length (r9.map f32)]⟩, ⟨1, some [i64 r10, i64 r11, sl r13.length (r13.map f32)]⟩, ⟨1, some [i64 r14, i64 r15, sl r17.length (r17.map f32)]⟩, ⟨1, some [i64 r20, i64 r21, sl r23.length (r23.map f32)]⟩, ⟨1, some [i64 r26, i64 r27, sl r29.length (r29.map f32)]⟩, ⟨2, some [i64 r42, i64 r43, sl r45.length (r45.map f32)]⟩, ⟨2, none⟩, ⟨1, some [i64 r38, i64 r39, sl r41.length (r41.map f32)]⟩, ⟨1, some [i64 r50, i64 r51, sl r53.length (r53.map f32)]⟩]) rfl rfl rfl (TOp.loadAgg_o rfl agg26 siz26 rfl rfl rfl rfl) rfl ?_
                    refine ROps.d (r := b true) (fs := []) (Γ' := [⟨1, some [i64 r2, i64 r3, sl r4.length (r4.map f32)]⟩, ⟨1, some [i64 r7, i64 r8, sl r9.length (r9.map f32)]⟩, ⟨1, some [i64 r10, i64 r11, sl r13.length (r13.map f32)]⟩, ⟨1, some [i64 r14, i64 r15, sl r17.length (r17.map f32)]⟩, ⟨1, some [i64 r20, i64 r21, sl r23.length (r23.map f32)]⟩, ⟨1, some [i64 r26, i64 r27, sl r29.length (r29.map f32)]⟩, ⟨2, some [i64 r42, i64 r43, sl r45.length (r45.map f32)]⟩, ⟨2, none⟩, ⟨1, some [i64 r38, i64 r39, sl r41.length (r41.map f32)]⟩, ⟨1, some [i64 r50, i64 r51, sl r53.length (r53.map f32)]⟩]) rfl rfl rfl (TOp.eqb (TOp.callB (CallAs.func ent16 rfl rfl) (Bors.cons (Bor.agg (Bors.cons (Bor.pure rfl) (Bors.cons (Bor.pure rfl) (Bors.cons (Bor.sl (fun _ => rfl)) Bors.nil)))) (Bors.cons (Bor.agg (Bors.cons (Bor.pure rfl) (Bors.cons (Bor.pure rfl) (Bors.cons (Bor.sl (fun _ => rfl)) Bors.nil)))) Bors.nil)) rfl rfl (i_SameMatrix_ok r10 r11 r13 r26 r27 r29 r54 hf31)) hc32) rfl ?_
                    refine zL (r := b false) rfl rfl rfl (LOp.eqb (LOp.not rfl rfl) rfl) ?_
                    refine zL (r := b false) rfl rfl rfl (LOp.pick_false rfl rfl rfl) ?_
                    refine zM (r := b false) rfl rfl rfl rfl rfl ?_
                    refine ROps.d (r := agg [i64 r38, i64 r39, sl r41.length (r41.map f32)]) (fs := []) (Γ' := [⟨1, some [i64 r2, i64 r3, sl r4.length (r4.map f32)]⟩, ⟨1, some [i64 r7, i64 r8, sl r9.length (r9.map f32)]⟩, ⟨1, some [i64 r10, i64 r11, sl r13.length (r13.map f32)]⟩, ⟨1, some [i64 r14, i64 r15, sl r17.length (r17.map f32)]⟩, ⟨1, some [i64 r20, i64 r21, sl r23.length (r23.map f32)]⟩, ⟨1, some [i64 r26, i64 r27, sl r29.length (r29.map f32)]⟩, ⟨2, some [i64 r42, i64 r43, sl r45.length (r45.map f32)]⟩, ⟨2, none⟩, ⟨1, some [i64 r38, i64 r39, sl r41.length (r41.map f32)]⟩, ⟨1, some [i64 r50, i64 r51, sl r53.length (r53.map f32)]⟩]) rfl rfl rfl (TOp.loadAgg_o rfl agg26 siz26 rfl rfl rfl rfl) rfl ?_
                    refine ROps.d (r := agg [i64 r42, i64 r43, sl r45.length (r45.map f32)]) (fs := []) (Γ' := [⟨1, some [i64 r2, i64 r3, sl r4.length (r4.map f32)]⟩, ⟨1, some [i64 r7, i64 r8, sl r9.length (r9.map f32)]⟩, ⟨1, some [i64 r10, i64 r11, sl r13.length (r13.map f32)]⟩, ⟨1, some [i64 r14, i64 r15, sl r17.length (r17.map f32)]⟩, ⟨1, some [i64 r20, i64 r21, sl r23.length (r23.map f32)]⟩, ⟨1, some [i64 r26, i64 r27, sl r29.length (r29.map f32)]⟩, ⟨2, some [i64 r42, i64 r43, sl r45.length (r45.map f32)]⟩, ⟨2, none⟩, ⟨1, some [i64 r38, i64 r39, sl r41.length (r41.map f32)]⟩, ⟨1, some [i64 r50, i64 r51, sl r53.length (r53.map f32)]⟩]) rfl rfl rfl (TOp.loadAgg_o rfl agg26 siz26 rfl rfl rfl rfl) rfl ?_
                    refine ROps.d (r := b true) (fs := []) (Γ' := [⟨1, some [i64 r2, i64 r3, sl r4.length (r4.map f32)]⟩, ⟨1, some [i64 r7, i64 r8, sl r9.length (r9.map f32)]⟩, ⟨1, some [i64 r10, i64 r11, sl r13.length (r13.map f32)]⟩, ⟨1, some [i64 r14, i64 r15, sl r17.length (r17.map f32)]⟩, ⟨1, some [i64 r20, i64 r21, sl r23.length (r23.map f32)]⟩, ⟨1, some [i64 r26, i64 r27, sl r29.length (r29.map f32)]⟩, ⟨2, some [i64 r42, i64 r43, sl r45.length (r45.map f32)]⟩, ⟨2, none⟩, ⟨1, some [i64 r38, i64 r39, sl r41.length (r41.map f32)]⟩, ⟨1, some [i64 r50, i64 r51, sl r53.length (r53.map f32)]⟩]) rfl rfl rfl (TOp.eqb (TOp.callB (CallAs.func ent16 rfl rfl) (Bors.cons (Bor.agg (Bors.cons (Bor.pure rfl) (Bors.cons (Bor.pure rfl) (Bors.cons (Bor.sl (fun _ => rfl)) Bors.nil)))) (Bors.cons (Bor.agg (Bors.cons (Bor.pure rfl) (Bors.cons (Bor.pure rfl) (Bors.cons (Bor.sl (fun _ => rfl)) Bors.nil)))) Bors.nil)) rfl rfl (i_SameMatrix_ok r38 r39 r41 r42 r43 r45 r55 hf33)) hc34) rfl ?_
                    refine zL (r := b false) rfl rfl rfl (LOp.eqb (LOp.not rfl rfl) rfl) ?_
                    refine zL (r := b false) rfl rfl rfl (LOp.pick_false rfl rfl rfl) ?_
                    refine zM (r := b false) rfl rfl rfl rfl rfl ?_
                    refine zL (r := optr 4 1 2) rfl rfl rfl (LOp.fao und26 rfl siz24 rfl rfl rfl) ?_
                    refine ROps.d (r := sl r23.length (r23.map f32)) (fs := []) (Γ' := [⟨1, some [i64 r2, i64 r3, sl r4.length (r4.map f32)]⟩, ⟨1, some [i64 r7, i64 r8, sl r9.length (r9.map f32)]⟩, ⟨1, some [i64 r10, i64 r11, sl r13.length (r13.map f32)]⟩, ⟨1, some [i64 r14, i64 r15, sl r17.length (r17.map f32)]⟩, ⟨1, some [i64 r20, i64 r21, sl r23.length (r23.map f32)]⟩, ⟨1, some [i64 r26, i64 r27, sl r29.length (r29.map f32)]⟩, ⟨2, some [i64 r42, i64 r43, sl r45.length (r45.map f32)]⟩, ⟨2, none⟩, ⟨1, some [i64 r38, i64 r39, sl r41.length (r41.map f32)]⟩, ⟨1, some [i64 r50, i64 r51, sl r53.length (r53.map f32)]⟩]) rfl rfl rfl (TOp.load1_o rfl rfl agg24 rfl rfl) rfl ?_
                    refine zL (r := i64 (r23.length : Int)) rfl rfl rfl (LOp.len_sl und24 rfl rfl) ?_
                    refine zL (r := optr 2 1 2) rfl rfl rfl (LOp.fao und26 rfl siz24 rfl rfl rfl) ?_
                    refine ROps.d (r := sl r13.length (r13.map f32)) (fs := []) (Γ' := [⟨1, some [i64 r2, i64 r3, sl r4.length (r4.map f32)]⟩, ⟨1, some [i64 r7, i64 r8, sl r9.length (r9.map f32)]⟩, ⟨1, some [i64 r10, i64 r11, sl r13.length (r13.map f32)]⟩, ⟨1, some [i64 r14, i64 r15, sl r17.length (r17.map f32)]⟩, ⟨1, some [i64 r20, i64 r21, sl r23.length (r23.map f32)]⟩, ⟨1, some [i64 r26, i64 r27, sl r29.length (r29.map f32)]⟩, ⟨2, some [i64 r42, i64 r43, sl r45.length (r45.map f32)]⟩, ⟨2, none⟩, ⟨1, some [i64 r38, i64 r39, sl r41.length (r41.map f32)]⟩, ⟨1, some [i64 r50, i64 r51, sl r53.length (r53.map f32)]⟩]) rfl rfl rfl (TOp.load1_o rfl rfl agg24 rfl rfl) rfl ?_
                    refine zL (r := i64 (r13.length : Int)) rfl rfl rfl (LOp.len_sl und24 rfl rfl) ?_
                    refine zL (r := b false) rfl rfl rfl (LOp.eqb (LOp.neq rfl rfl rfl) hc35) ?_
                    refine zL (r := b false) rfl rfl rfl (LOp.pick_false rfl rfl rfl) ?_
                    refine zM (r := b false) rfl rfl rfl rfl rfl ?_
                    refine zL (r := optr 3 1 2) rfl rfl rfl (LOp.fao und26 rfl siz24 rfl rfl rfl) ?_
                    refine ROps.d (r := sl r17.length (r17.map f32)) (fs := []) (Γ' := [⟨1, some [i64 r2, i64 r3, sl r4.length (r4.map f32)]⟩, ⟨1, some [i64 r7, i64 r8, sl r9.length (r9.map f32)]⟩, ⟨1, some [i64 r10, i64 r11, sl r13.length (r13.map f32)]⟩, ⟨1, some [i64 r14, i64 r15, sl r17.length (r17.map f32)]⟩, ⟨1, some [i64 r20, i64 r21, sl r23.length (r23.map f32)]⟩, ⟨1, some [i64 r26, i64 r27, sl r29.length (r29.map f32)]⟩, ⟨2, some [i64 r42, i64 r43, sl r45.length (r45.map f32)]⟩, ⟨2, none⟩, ⟨1, some [i64 r38, i64 r39, sl r41.length (r41.map f32)]⟩, ⟨1, some [i64 r50, i64 r51, sl r53.length (r53.map f32)]⟩]) rfl rfl rfl (TOp.load1_o rfl rfl agg24 rfl rfl) rfl ?_
                    refine zL (r := i64 (r17.length : Int)) rfl rfl rfl (LOp.len_sl und24 rfl rfl) ?_
                    refine zL (r := optr 2 1 2) rfl rfl rfl (LOp.fao und26 rfl siz24 rfl rfl rfl) ?_
                    refine ROps.d (r := sl r13.length (r13.map f32)) (fs := []) (Γ' := [⟨1, some [i64 r2, i64 r3, sl r4.length (r4.map f32)]⟩, ⟨1, some [i64 r7, i64 r8, sl r9.length (r9.map f32)]⟩, ⟨1, some [i64 r10, i64 r11, sl r13.length (r13.map f32)]⟩, ⟨1, some [i64 r14, i64 r15, sl r17.length (r17.map f32)]⟩, ⟨1, some [i64 r20, i64 r21, sl r23.length (r23.map f32)]⟩, ⟨1, some [i64 r26, i64 r27, sl r29.length (r29.map f32)]⟩, ⟨2, some [i64 r42, i64 r43, sl r45.length (r45.map f32)]⟩, ⟨2, none⟩, ⟨1, some [i64 r38, i64 r39, sl r41.length (r41.map f32)]⟩, ⟨1, some [i64 r50, i64 r51, sl r53.length (r53.map f32)]⟩]) rfl rfl rfl (TOp.load1_o rfl rfl agg24 rfl rfl) rfl ?_
                    refine zL (r := i64 (r13.length : Int)) rfl rfl rfl (LOp.len_sl und24 rfl rfl) ?_
                    refine zL (r := b false) rfl rfl rfl (LOp.eqb (LOp.neq rfl rfl rfl) hc36) ?_
                    refine zL (r := b false) rfl rfl rfl (LOp.pick_false rfl rfl rfl) ?_
                    refine zM (r := b false) rfl rfl rfl rfl rfl ?_
                    refine zL (r := optr 9 1 2) rfl rfl rfl (LOp.fao und26 rfl siz24 rfl rfl rfl) ?_
                    refine ROps.d (r := sl r53.length (r53.map f32)) (fs := []) (Γ' := [⟨1, some [i64 r2, i64 r3, sl r4.length (r4.map f32)]⟩, ⟨1, some [i64 r7, i64 r8, sl r9.length (r9.map f32)]⟩, ⟨1, some [i64 r10, i64 r11, sl r13.length (r13.map f32)]⟩, ⟨1, some [i64 r14, i64 r15, sl r17.length (r17.map f32)]⟩, ⟨1, some [i64 r20, i64 r21, sl r23.length (r23.map f32)]⟩, ⟨1, some [i64 r26, i64 r27, sl r29.length (r29.map f32)]⟩, ⟨2, some [i64 r42, i64 r43, sl r45.length (r45.map f32)]⟩, ⟨2, none⟩, ⟨1, some [i64 r38, i64 r39, sl r41.length (r41.map f32)]⟩, ⟨1, some [i64 r50, i64 r51, sl r53.length (r53.map f32)]⟩]) rfl rfl rfl (TOp.load1_o rfl rfl agg24 rfl rfl) rfl ?_
                    refine zL (r := i64 (r53.length : Int)) rfl rfl rfl (LOp.len_sl und24 rfl rfl) ?_
                    refine zL (r := optr 0 1 2) rfl rfl rfl (LOp.fao und26 rfl siz24 rfl rfl rfl) ?_
                    refine ROps.d (r := sl r4.length (r4.map f32)) (fs := []) (Γ' := [⟨1, some [i64 r2, i64 r3, sl r4.length (r4.map f32)]⟩, ⟨1, some [i64 r7, i64 r8, sl r9.length (r9.map f32)]⟩, ⟨1, some [i64 r10, i64 r11, sl r13.length (r13.map f32)]⟩, ⟨1, some [i64 r14, i64 r15, sl r17.length (r17.map f32)]⟩, ⟨1, some [i64 r20, i64 r21, sl r23.length (r23.map f32)]⟩, ⟨1, some [i64 r26, i64 r27, sl r29.length (r29.map f32)]⟩, ⟨2, some [i64 r42, i64 r43, sl r45.length (r45.map f32)]⟩, ⟨2, none⟩, ⟨1, some [i64 r38, i64 r39, sl r41.length (r41.map f32)]⟩, ⟨1, some [i64 r50, i64 r51, sl r53.length (r53.map f32)]⟩]) rfl rfl rfl (TOp.load1_o rfl rfl agg24 rfl rfl) rfl ?_
                    refine zL (r := i64 (r4.length : Int)) rfl rfl rfl (LOp.len_sl und24 rfl rfl) ?_
                    refine zL (r := b false) rfl rfl rfl (LOp.eqb (LOp.neq rfl rfl rfl) hc37) ?_
                    refine zL (r := b false) rfl rfl rfl (LOp.pick_false rfl rfl rfl) ?_
                    refine zM (r := b false) rfl rfl rfl rfl rfl ?_
                    refine zL (r := optr 2 1 0) rfl rfl rfl (LOp.fao und26 rfl siz2 rfl rfl rfl) ?_
                    refine ROps.d (r := i64 r10) (fs := []) (Γ' := [⟨1, some [i64 r2, i64 r3, sl r4.length (r4.map f32)]⟩, ⟨1, some [i64 r7, i64 r8, sl r9.length (r9.map f32)]⟩, ⟨1, some [i64 r10, i64 r11, sl r13.length (r13.map f32)]⟩, ⟨1, some [i64 r14, i64 r15, sl r17.length (r17.map f32)]⟩, ⟨1, some [i64 r20, i64 r21, sl r23.length (r23.map f32)]⟩, ⟨1, some [i64 r26, i64 r27, sl r29.length (r29.map f32)]⟩, ⟨2, some [i64 r42, i64 r43, sl r45.length (r45.map f32)]⟩, ⟨2, none⟩, ⟨1, some [i64 r38, i64 r39, sl r41.length (r41.map f32)]⟩, ⟨1, some [i64 r50, i64 r51, sl r53.length (r53.map f32)]⟩]) rfl rfl rfl (TOp.load1_o rfl rfl agg2 rfl rfl) rfl ?_
                    refine zL (r := optr 0 1 0) rfl rfl rfl (LOp.fao und26 rfl siz2 rfl rfl rfl) ?_
                    refine ROps.d (r := i64 r2) (fs := []) (Γ' := [⟨1, some [i64 r2, i64 r3, sl r4.length (r4.map f32)]⟩, ⟨1, some [i64 r7, i64 r8, sl r9.length (r9.map f32)]⟩, ⟨1, some [i64 r10, i64 r11, sl r13.length (r13.map f32)]⟩, ⟨1, some [i64 r14, i64 r15, sl r17.length (r17.map f32)]⟩, ⟨1, some [i64 r20, i64 r21, sl r23.length (r23.map f32)]⟩, ⟨1, some [i64 r26, i64 r27, sl r29.length (r29.map f32)]⟩, ⟨2, some [i64 r42, i64 r43, sl r45.length (r45.map f32)]⟩, ⟨2, none⟩, ⟨1, some [i64 r38, i64 r39, sl r41.length (r41.map f32)]⟩, ⟨1, some [i64 r50, i64 r51, sl r53.length (r53.map f32)]⟩]) rfl rfl rfl (TOp.load1_o rfl rfl agg2 rfl rfl) rfl ?_
                    refine zL (r := b false) rfl rfl rfl (LOp.eqb (LOp.neq rfl rfl rfl) hc38) ?_
                    refine zL (r := b false) rfl rfl rfl (LOp.pick_false rfl rfl rfl) ?_
                    refine zM (r := b false) rfl rfl rfl rfl rfl ?_
                    refine zL (r := optr 2 1 1) rfl rfl rfl (LOp.fao und26 rfl siz2 rfl rfl rfl) ?_
                    refine ROps.d (r := i64 r11) (fs := []) (Γ' := [⟨1, some [i64 r2, i64 r3, sl r4.length (r4.map f32)]⟩, ⟨1, some [i64 r7, i64 r8, sl r9.length (r9.map f32)]⟩, ⟨1, some [i64 r10, i64 r11, sl r13.length (r13.map f32)]⟩, ⟨1, some [i64 r14, i64 r15, sl r17.length (r17.map f32)]⟩, ⟨1, some [i64 r20, i64 r21, sl r23.length (r23.map f32)]⟩, ⟨1, some [i64 r26, i64 r27, sl r29.length (r29.map f32)]⟩, ⟨2, some [i64 r42, i64 r43, sl r45.length (r45.map f32)]⟩, ⟨2, none⟩, ⟨1, some [i64 r38, i64 r39, sl r41.length (r41.map f32)]⟩, ⟨1, some [i64 r50, i64 r51, sl r53.length (r53.map f32)]⟩]) rfl rfl rfl (TOp.load1_o rfl rfl agg2 rfl rfl) rfl ?_
                    refine zM (r := i64 x6) rfl rfl rfl rfl rfl ?_
                    refine zL (r := b false) rfl rfl rfl (LOp.eqb (LOp.neq rfl rfl rfl) hc39) ?_
                    refine zL (r := b false) rfl rfl rfl (LOp.pick_false rfl rfl rfl) ?_
                    refine zN ?_
                    exact .inr (⟨(Le.of ⟨aR, aR, aR, aR, aR, aR, aR, aR, aR, trivial⟩ ⟨⟨rfl, .inr rfl⟩, ⟨rfl, .inr rfl⟩, ⟨rfl, .inr rfl⟩, ⟨rfl, .inr rfl⟩, ⟨rfl, .inr rfl⟩, ⟨rfl, .inl rfl⟩, ⟨rfl, .inl rfl⟩, ⟨rfl, .inl rfl⟩, ⟨rfl, .inl rfl⟩, ⟨rfl, .inr rfl⟩, trivial⟩), h⟩)
              ·refine RunC.regionW ?_
               refine zL (r := b true) rfl rfl rfl (LOp.eqb (LOp.move rfl rfl) hc21) ?_
               refine zL (r := b false) rfl rfl rfl (LOp.eqb (LOp.not rfl rfl) rfl) ?_
               refine zM (r := b false) rfl rfl rfl rfl rfl ?_
               refine zL (r := b true) rfl rfl rfl (LOp.eqb (LOp.move rfl rfl) hc22) ?_
               refine zL (r := b false) rfl rfl rfl (LOp.eqb (LOp.not rfl rfl) rfl) ?_
               refine zL (r := b false) rfl rfl rfl (LOp.pick_false rfl rfl rfl) ?_
               refine zM (r := b false) rfl rfl rfl rfl rfl ?_
               refine zL (r := b true) rfl rfl rfl (LOp.eqb (LOp.move rfl rfl) hc23) ?_
               refine zL (r := b false) rfl rfl rfl (LOp.eqb (LOp.not rfl rfl) rfl) ?_
               refine zL (r := b false) rfl rfl rfl (LOp.pick_false rfl rfl rfl) ?_
               refine zM (r := b false) rfl rfl rfl rfl rfl ?_
               refine zL (r := b true) rfl rfl rfl (LOp.eqb (LOp.move rfl rfl) hc24) ?_
               refine zL (r := b false) rfl rfl rfl (LOp.eqb (LOp.not rfl rfl) rfl) ?_
               refine zL (r := b false) rfl rfl rfl (LOp.pick_false rfl rfl rfl) ?_
               refine zM (r := b false) rfl rfl rfl rfl rfl ?_
               refine zL (r := b true) rfl rfl rfl (LOp.eqb (LOp.move rfl rfl) hc25) ?_
               refine zL (r := b false) rfl rfl rfl (LOp.eqb (LOp.not rfl rfl) rfl) ?_
               refine zL (r := b false) rfl rfl rfl (LOp.pick_false rfl rfl rfl) ?_
               refine zM (r := b false) rfl rfl rfl rfl rfl ?_
               refine zL (r := b true) rfl rfl rfl (LOp.eqb (LOp.move rfl rfl) hc26) ?_
               refine zL (r := b false) rfl rfl rfl (LOp.eqb (LOp.not rfl rfl) rfl) ?_
               refine zL (r := b false) rfl rfl rfl (LOp.pick_false rfl rfl rfl) ?_
               refine zM (r := b false) rfl rfl rfl rfl rfl ?_
               refine zL (r := b true) rfl rfl rfl (LOp.eqb (LOp.move rfl rfl) hc27) ?_
               refine zL (r := b false) rfl rfl rfl (LOp.eqb (LOp.not rfl rfl) rfl) ?_
               refine zL (r := b false) rfl rfl rfl (LOp.pick_false rfl rfl rfl) ?_
               refine zM (r := b false) rfl rfl rfl rfl rfl ?_
               refine zL (r := b true) rfl rfl rfl (LOp.eqb (LOp.move rfl rfl) hc28) ?_
               refine zL (r := b false) rfl rfl rfl (LOp.eqb (LOp.not rfl rfl) rfl) ?_
               refine zL (r := b false) rfl rfl rfl (LOp.pick_false rfl rfl rfl) ?_
               refine zM (r := b false) rfl rfl rfl rfl rfl ?_
               refine zL (r := b true) rfl rfl rfl (LOp.eqb (LOp.move rfl rfl) hc29) ?_
               refine zL (r := b false) rfl rfl rfl (LOp.eqb (LOp.not rfl rfl) rfl) ?_
               refine zL (r := b false) rfl rfl rfl (LOp.pick_false rfl rfl rfl) ?_
               refine zM (r := b false) rfl rfl rfl rfl rfl ?_
               refine zL (r := b true) rfl rfl rfl (LOp.eqb (LOp.move rfl rfl) hc30) ?_
               refine zL (r := b false) rfl rfl rfl (LOp.eqb (LOp.not rfl rfl) rfl) ?_
               refine zL (r := b false) rfl rfl rfl (LOp.pick_false rfl rfl rfl) ?_
               refine zM (r := b false) rfl rfl rfl rfl rfl ?_
               refine ROps.d (r := agg [i64 r10, i64 r11, sl r13.length (r13.map f32)]) (fs := []) (Γ' := [⟨1, some [i64 r2, i64 r3, sl r4.length (r4.map f32)]⟩, ⟨1, some [i64 r7, i64 r8, sl r9.length (r9.map f32)]⟩, ⟨1, some [i64 r10, i64 r11, sl r13.length (r13.map f32)]⟩, ⟨1, some [i64 r14, i64 r15, sl r17.length (r17.map f32)]⟩, ⟨1, some [i64 r20, i64 r21, sl r23.length (r23.map f32)]⟩, ⟨1, some [i64 r26, i64 r27, sl r29.length (r29.map f32)]⟩, ⟨2, some [i64 r42, i64 r43, sl r45.length (r45.map f32)]⟩, ⟨2, none⟩, ⟨1, some [i64 r38, i64 r39, sl r41.length (r41.map f32)]⟩, ⟨1, some [i64 r50, i64 r51, sl r53.length (r53.map f32)]⟩]) rfl rfl rfl (TOp.loadAgg_o rfl agg26 siz26 rfl rfl rfl rfl) rfl ?_
               refine ROps.d (r := agg [i64 r26, i64 r27, sl r29.length (r29.map f32)]) (fs := []) (Γ' := [⟨1, some [i64 r2, i64 r3, sl r4.length (r4.map f32)]⟩, ⟨1, some [i64 r7, i64 r8, sl r9.length (r9.map f32)]⟩, ⟨1, some [i64 r10, i64 r11, sl r13.length (r13.map f32)]⟩, ⟨1, some [i64 r14, i64 r15, sl r17.length (r17.map f32)]⟩, ⟨1, some [i64 r20, i64 r21, sl r23.length (r23.map f32)]⟩, ⟨1, some [i64 r26, i64 r27, sl r29.length (r29.map f32)]⟩, ⟨2, some [i64 r42, i64 r43, sl r45.length (r45.map f32)]⟩, ⟨2, none⟩, ⟨1, some [i64 r38, i64 r39, sl r41.length (r41.map f32)]⟩, ⟨1, some [i64 r50, i64 r51, sl r53.length (r53.map f32)]⟩]) rfl rfl rfl (TOp.loadAgg_o rfl agg26 siz26 rfl rfl rfl rfl) rfl ?_
               refine ROps.d (r := b true) (fs := []) (Γ' := [⟨1, some [i64 r2, i64 r3, sl r4.length (r4.map f32)]⟩, ⟨1, some [i64 r7, i64 r8, sl r9.length (r9.map f32)]⟩, ⟨1, some [i64 r10, i64 r11, sl r13.length (r13.map f32)]⟩, ⟨1, some [i64 r14, i64 r15, sl r17.length (r17.map f32)]⟩, ⟨1, some [i64 r20, i64 r21, sl r23.length (r23.map f32)]⟩, ⟨1, some [i64 r26, i64 r27, sl r29.length (r29.map f32)]⟩, ⟨2, some [i64 r42, i64 r43, sl r45.length (r45.map f32)]⟩, ⟨2, none⟩, ⟨1, some [i64 r38, i64 r39, sl r41.length (r41.map f32)]⟩, ⟨1, some [i64 r50, i64 r51, sl r53.length (r53.map f32)]⟩]) rfl rfl rfl (TOp.eqb (TOp.callB (CallAs.func ent16 rfl rfl) (Bors.cons (Bor.agg (Bors.cons (Bor.pure rfl) (Bors.cons (Bor.pure rfl) (Bors.cons (Bor.sl (fun _ => rfl)) Bors.nil)))) (Bors.cons (Bor.agg (Bors.cons (Bor.pure rfl) (Bors.cons (Bor.pure rfl) (Bors.cons (Bor.sl (fun _ => rfl)) Bors.nil)))) Bors.nil)) rfl rfl (i_SameMatrix_ok r10 r11 r13 r26 r27 r29 r54 hf31)) hc32) rfl ?_
               refine zL (r := b false) rfl rfl rfl (LOp.eqb (LOp.not rfl rfl) rfl) ?_
               refine zL (r := b false) rfl rfl rfl (LOp.pick_false rfl rfl rfl) ?_
               refine zM (r := b false) rfl rfl rfl rfl rfl ?_
               refine ROps.d (r := agg [i64 r38, i64 r39, sl r41.length (r41.map f32)]) (fs := []) (Γ' := [⟨1, some [i64 r2, i64 r3, sl r4.length (r4.map f32)]⟩, ⟨1, some [i64 r7, i64 r8, sl r9.length (r9.map f32)]⟩, ⟨1, some [i64 r10, i64 r11, sl r13.length (r13.map f32)]⟩, ⟨1, some [i64 r14, i64 r15, sl r17.length (r17.map f32)]⟩, ⟨1, some [i64 r20, i64 r21, sl r23.length (r23.map f32)]⟩, ⟨1, some [i64 r26, i64 r27, sl r29.length (r29.map f32)]⟩, ⟨2, some [i64 r42, i64 r43, sl r45.length (r45.map f32)]⟩, ⟨2, none⟩, ⟨1, some [i64 r38, i64 r39, sl r41.length (r41.map f32)]⟩, ⟨1, some [i64 r50, i64 r51, sl r53.length (r53.map f32)]⟩]) rfl rfl rfl (TOp.loadAgg_o rfl agg26 siz26 rfl rfl rfl rfl) rfl ?_
               refine ROps.d (r := agg [i64 r42, i64 r43, sl r45.length (r45.map f32)]) (fs := []) (Γ' := [⟨1, some [i64 r2, i64 r3, sl r4.length (r4.map f32)]⟩, ⟨1, some [i64 r7, i64 r8, sl r9.length (r9.map f32)]⟩, ⟨1, some [i64 r10, i64 r11, sl r13.length (r13.map f32)]⟩, ⟨1, some [i64 r14, i64 r15, sl r17.length (r17.map f32)]⟩, ⟨1, some [i64 r20, i64 r21, sl r23.length (r23.map f32)]⟩, ⟨1, some [i64 r26, i64 r27, sl r29.length (r29.map f32)]⟩, ⟨2, some [i64 r42, i64 r43, sl r45.length (r45.map f32)]⟩, ⟨2, none⟩, ⟨1, some [i64 r38, i64 r39, sl r41.length (r41.map f32)]⟩, ⟨1, some [i64 r50, i64 r51, sl r53.length (r53.map f32)]⟩]) rfl rfl rfl (TOp.loadAgg_o rfl agg26 siz26 rfl rfl rfl rfl) rfl ?_
               refine ROps.d (r := b false) (fs := []) (Γ' := [⟨1, some [i64 r2, i64 r3, sl r4.length (r4.map f32)]⟩, ⟨1, some [i64 r7, i64 r8, sl r9.length (r9.map f32)]⟩, ⟨1, some [i64 r10, i64 r11, sl r13.length (r13.map f32)]⟩, ⟨1, some [i64 r14, i64 r15, sl r17.length (r17.map f32)]⟩, ⟨1, some [i64 r20, i64 r21, sl r23.length (r23.map f32)]⟩, ⟨1, some [i64 r26, i64 r27, sl r29.length (r29.map f32)]⟩, ⟨2, some [i64 r42, i64 r43, sl r45.length (r45.map f32)]⟩, ⟨2, none⟩, ⟨1, some [i64 r38, i64 r39, sl r41.length (r41.map f32)]⟩, ⟨1, some [i64 r50, i64 r51, sl r53.length (r53.map f32)]⟩]) rfl rfl rfl (TOp.eqb (TOp.callB (CallAs.func ent16 rfl rfl) (Bors.cons (Bor.agg (Bors.cons (Bor.pure rfl) (Bors.cons (Bor.pure rfl) (Bors.cons (Bor.sl (fun _ => rfl)) Bors.nil)))) (Bors.cons (Bor.agg (Bors.cons (Bor.pure rfl) (Bors.cons (Bor.pure rfl) (Bors.cons (Bor.sl (fun _ => rfl)) Bors.nil)))) Bors.nil)) rfl rfl (i_SameMatrix_ok r38 r39 r41 r42 r43 r45 r55 hf33)) hc34) rfl ?_
               refine zL (r := b true) rfl rfl rfl (LOp.eqb (LOp.not rfl rfl) rfl) ?_
               refine zL (r := b true) rfl rfl rfl (LOp.pick_false rfl rfl rfl) ?_
               refine zM (r := b true) rfl rfl rfl rfl rfl ?_
               iterate 7 (refine ROps.s rfl rfl rfl ?_)
               refine zL (r := b true) rfl rfl rfl (LOp.pick_true rfl rfl rfl) ?_
               refine zM (r := b true) rfl rfl rfl rfl rfl ?_
               iterate 7 (refine ROps.s rfl rfl rfl ?_)
               refine zL (r := b true) rfl rfl rfl (LOp.pick_true rfl rfl rfl) ?_
               refine zM (r := b true) rfl rfl rfl rfl rfl ?_
               iterate 7 (refine ROps.s rfl rfl rfl ?_)
               refine zL (r := b true) rfl rfl rfl (LOp.pick_true rfl rfl rfl) ?_
               refine zM (r := b true) rfl rfl rfl rfl rfl ?_
               iterate 5 (refine ROps.s rfl rfl rfl ?_)
               refine zL (r := b true) rfl rfl rfl (LOp.pick_true rfl rfl rfl) ?_
               refine zM (r := b true) rfl rfl rfl rfl rfl ?_
               iterate 4 (refine ROps.s rfl rfl rfl ?_)
               refine zL (r := b true) rfl rfl rfl (LOp.pick_true rfl rfl rfl) ?_
               refine zN ?_
               exact .inl ⟨(Le.of ⟨aR, aR, aR, aR, aR, aR, aR, aR, aR, trivial⟩ ⟨⟨rfl, .inr rfl⟩, ⟨rfl, .inr rfl⟩, ⟨rfl, .inr rfl⟩, ⟨rfl, .inr rfl⟩, ⟨rfl, .inr rfl⟩, ⟨rfl, .inl rfl⟩, ⟨rfl, .inl rfl⟩, ⟨rfl, .inl rfl⟩, ⟨rfl, .inl rfl⟩, ⟨rfl, .inr rfl⟩, trivial⟩), h⟩
             ·refine RunC.regionW ?_
              refine zL (r := b true) rfl rfl rfl (LOp.eqb (LOp.move rfl rfl) hc21) ?_
              refine zL (r := b false) rfl rfl rfl (LOp.eqb (LOp.not rfl rfl) rfl) ?_
              refine zM (r := b false) rfl rfl rfl rfl rfl ?_
              refine zL (r := b true) rfl rfl rfl (LOp.eqb (LOp.move rfl rfl) hc22) ?_
              refine zL (r := b false) rfl rfl rfl (LOp.eqb (LOp.not rfl rfl) rfl) ?_
              refine zL (r := b false) rfl rfl rfl (LOp.pick_false rfl rfl rfl) ?_
              refine zM (r := b false) rfl rfl rfl rfl rfl ?_
              refine zL (r := b true) rfl rfl rfl (LOp.eqb (LOp.move rfl rfl) hc23) ?_
              refine zL (r := b false) rfl rfl rfl (LOp.eqb (LOp.not rfl rfl) rfl) ?_
              refine zL (r := b false) rfl rfl rfl (LOp.pick_false rfl rfl rfl) ?_
              refine zM (r := b false) rfl rfl rfl rfl rfl ?_
              refine zL (r := b true) rfl rfl rfl (LOp.eqb (LOp.move rfl rfl) hc24) ?_
              refine zL (r := b false) rfl rfl rfl (LOp.eqb (LOp.not rfl rfl) rfl) ?_
              refine zL (r := b false) rfl rfl rfl (LOp.pick_false rfl rfl rfl) ?_
              refine zM (r := b false) rfl rfl rfl rfl rfl ?_
              refine zL (r := b true) rfl rfl rfl (LOp.eqb (LOp.move rfl rfl) hc25) ?_
              refine zL (r := b false) rfl rfl rfl (LOp.eqb (LOp.not rfl rfl) rfl) ?_
              refine zL (r := b false) rfl rfl rfl (LOp.pick_false rfl rfl rfl) ?_
              refine zM (r := b false) rfl rfl rfl rfl rfl ?_
              refine zL (r := b true) rfl rfl rfl (LOp.eqb (LOp.move rfl rfl) hc26) ?_
              refine zL (r := b false) rfl rfl rfl (LOp.eqb (LOp.not rfl rfl) rfl) ?_
              refine zL (r := b false) rfl rfl rfl (LOp.pick_false rfl rfl rfl) ?_
              refine zM (r := b false) rfl rfl rfl rfl rfl ?_
              refine zL (r := b true) rfl rfl rfl (LOp.eqb (LOp.move rfl rfl) hc27) ?_
              refine zL (r := b false) rfl rfl rfl (LOp.eqb (LOp.not rfl rfl) rfl) ?_
              refine zL (r := b false) rfl rfl rfl (LOp.pick_false rfl rfl rfl) ?_
              refine zM (r := b false) rfl rfl rfl rfl rfl ?_
              refine zL (r := b true) rfl rfl rfl (LOp.eqb (LOp.move rfl rfl) hc28) ?_
              refine zL (r := b false) rfl rfl rfl (LOp.eqb (LOp.not rfl rfl) rfl) ?_
              refine zL (r := b false) rfl rfl rfl (LOp.pick_false rfl rfl rfl) ?_
              refine zM (r := b false) rfl rfl rfl rfl rfl ?_
              refine zL (r := b true) rfl rfl rfl (LOp.eqb (LOp.move rfl rfl) hc29) ?_
              refine zL (r := b false) rfl rfl rfl (LOp.eqb (LOp.not rfl rfl) rfl) ?_
              refine zL (r := b false) rfl rfl rfl (LOp.pick_false rfl rfl rfl) ?_
              refine zM (r := b false) rfl rfl rfl rfl rfl ?_
              refine zL (r := b true) rfl rfl rfl (LOp.eqb (LOp.move rfl rfl) hc30) ?_
              refine zL (r := b false) rfl rfl rfl (LOp.eqb (LOp.not rfl rfl) rfl) ?_
              refine zL (r := b false) rfl rfl rfl (LOp.pick_false rfl rfl rfl) ?_
              refine zM (r := b false) rfl rfl rfl rfl rfl ?_
              refine ROps.d (r := agg [i64 r10, i64 r11, sl r13.length (r13.map f32)]) (fs := []) (Γ' := [⟨1, some [i64 r2, i64 r3, sl r4.length (r4.map f32)]⟩, ⟨1, some [i64 r7, i64 r8, sl r9.length (r9.map f32)]⟩, ⟨1, some [i64 r10, i64 r11, sl r13.length (r13.map f32)]⟩, ⟨1, some [i64 r14, i64 r15, sl r17.length (r17.map f32)]⟩, ⟨1, some [i64 r20, i64 r21, sl r23.length (r23.map f32)]⟩, ⟨1, some [i64 r26, i64 r27, sl r29.length (r29.map f32)]⟩, ⟨2, some [i64 r42, i64 r43, sl r45.length (r45.map f32)]⟩, ⟨2, none⟩, ⟨1, some [i64 r38, i64 r39, sl r41.length (r41.map f32)]⟩, ⟨1, some [i64 r50, i64 r51, sl r53.length (r53.map f32)]⟩]) rfl rfl rfl (TOp.loadAgg_o rfl agg26 siz26 rfl rfl rfl rfl) rfl ?_
              refine ROps.d (r := agg [i64 r26, i64 r27, sl r29.length (r29.map f32)]) (fs := []) (Γ' := [⟨1, some [i64 r2, i64 r3, sl r4.length (r4.map f32)]⟩, ⟨1, some [i64 r7, i64 r8, sl r9.length (r9.map f32)]⟩, ⟨1, some [i64 r10, i64 r11, sl r13.length (r13.map f32)]⟩, ⟨1, some [i64 r14, i64 r15, sl r17.length (r17.map f32)]⟩, ⟨1, some [i64 r20, i64 r21, sl r23.length (r23.map f32)]⟩, ⟨1, some [i64 r26, i64 r27, sl r29.length (r29.map f32)]⟩, ⟨2, some [i64 r42, i64 r43, sl r45.length (r45.map f32)]⟩, ⟨2, none⟩, ⟨1, some [i64 r38, i64 r39, sl r41.length (r41.map f32)]⟩, ⟨1, some [i64 r50, i64 r51, sl r53.length (r53.map f32)]⟩]) rfl rfl rfl (TOp.loadAgg_o rfl agg26 siz26 rfl rfl rfl rfl) rfl ?_
              refine ROps.d (r := b false) (fs := []) (Γ' := [⟨1, some [i64 r2, i64 r3, sl r4.length (r4.map f32)]⟩, ⟨1, some [i64 r7, i64 r8, sl r9.length (r9.map f32)]⟩, ⟨1, some [i64 r10, i64 r11, sl r13.length (r13.map f32)]⟩, ⟨1, some [i64 r14, i64 r15, sl r17.length (r17.map f32)]⟩, ⟨1, some [i64 r20, i64 r21, sl r23.length (r23.map f32)]⟩, ⟨1, some [i64 r26, i64 r27, sl r29.length (r29.map f32)]⟩, ⟨2, some [i64 r42, i64 r43, sl r45.length (r45.map f32)]⟩, ⟨2, none⟩, ⟨1, some [i64 r38, i64 r39, sl r41.length (r41.map f32)]⟩, ⟨1, some [i64 r50, i64 r51, sl r53.length (r53.map f32)]⟩]) rfl rfl rfl (TOp.eqb (TOp.callB (CallAs.func ent16 rfl rfl) (Bors.cons (Bor.agg (Bors.cons (Bor.pure rfl) (Bors.cons (Bor.pure rfl) (Bors.cons (Bor.sl (fun _ => rfl)) Bors.nil)))) (Bors.cons (Bor.agg (Bors.cons (Bor.pure rfl) (Bors.cons (Bor.pure rfl) (Bors.cons (Bor.sl (fun _ => rfl)) Bors.nil)))) Bors.nil)) rfl rfl (i_SameMatrix_ok r10 r11 r13 r26 r27 r29 r54 hf31)) hc32) rfl ?_
              refine zL (r := b true) rfl rfl rfl (LOp.eqb (LOp.not rfl rfl) rfl) ?_
              refine zL (r := b true) rfl rfl rfl (LOp.pick_false rfl rfl rfl) ?_
              refine zM (r := b true) rfl rfl rfl rfl rfl ?_
              iterate 4 (refine ROps.s rfl rfl rfl ?_)
              refine zL (r := b true) rfl rfl rfl (LOp.pick_true rfl rfl rfl) ?_
              refine zM (r := b true) rfl rfl rfl rfl rfl ?_
              iterate 7 (refine ROps.s rfl rfl rfl ?_)
              refine zL (r := b true) rfl rfl rfl (LOp.pick_true rfl rfl rfl) ?_
              refine zM (r := b true) rfl rfl rfl rfl rfl ?_
              iterate 7 (refine ROps.s rfl rfl rfl ?_)
              refine zL (r := b true) rfl rfl rfl (LOp.pick_true rfl rfl rfl) ?_
              refine zM (r := b true) rfl rfl rfl rfl rfl ?_
              iterate 7 (refine ROps.s rfl rfl rfl ?_)
              refine zL (r := b true) rfl rfl rfl (LOp.pick_true rfl rfl rfl) ?_
              refine zM (r := b true) rfl rfl rfl rfl rfl ?_
              iterate 5 (refine ROps.s rfl rfl rfl ?_)
              refine zL (r := b true) rfl rfl rfl (LOp.pick_true rfl rfl rfl) ?_
              refine zM (r := b true) rfl rfl rfl rfl rfl ?_
              iterate 4 (refine ROps.s rfl rfl rfl ?_)
              refine zL (r := b true) rfl rfl rfl (LOp.pick_true rfl rfl rfl) ?_
              refine zN ?_
              exact .inl ⟨(Le.of ⟨aR, aR, aR, aR, aR, aR, aR, aR, aR, trivial⟩ ⟨⟨rfl, .inr rfl⟩, ⟨rfl, .inr rfl⟩, ⟨rfl, .inr rfl⟩, ⟨rfl, .inr rfl⟩, ⟨rfl, .inr rfl⟩, ⟨rfl, .inl rfl⟩, ⟨rfl, .inl rfl⟩, ⟨rfl, .inl rfl⟩, ⟨rfl, .inl rfl⟩, ⟨rfl, .inr rfl⟩, trivial⟩), h⟩
            ·refine RunC.regionW ?_
             refine zL (r := b true) rfl rfl rfl (LOp.eqb (LOp.move rfl rfl) hc21) ?_
             refine zL (r := b false) rfl rfl rfl (LOp.eqb (LOp.not rfl rfl) rfl) ?_
             refine zM (r := b false) rfl rfl rfl rfl rfl ?_
             refine zL (r := b true) rfl rfl rfl (LOp.eqb (LOp.move rfl rfl) hc22) ?_
             refine zL (r := b false) rfl rfl rfl (LOp.eqb (LOp.not rfl rfl) rfl) ?_
             refine zL (r := b false) rfl rfl rfl (LOp.pick_false rfl rfl rfl) ?_
             refine zM (r := b false) rfl rfl rfl rfl rfl ?_
             refine zL (r := b true) rfl rfl rfl (LOp.eqb (LOp.move rfl rfl) hc23) ?_
             refine zL (r := b false) rfl rfl rfl (LOp.eqb (LOp.not rfl rfl) rfl) ?_
             refine zL (r := b false) rfl rfl rfl (LOp.pick_false rfl rfl rfl) ?_
             refine zM (r := b false) rfl rfl rfl rfl rfl ?_
             refine zL (r := b true) rfl rfl rfl (LOp.eqb (LOp.move rfl rfl) hc24) ?_
             refine zL (r := b false) rfl rfl rfl (LOp.eqb (LOp.not rfl rfl) rfl) ?_
             refine zL (r := b false) rfl rfl rfl (LOp.pick_false rfl rfl rfl) ?_
             refine zM (r := b false) rfl rfl rfl rfl rfl ?_
             refine zL (r := b true) rfl rfl rfl (LOp.eqb (LOp.move rfl rfl) hc25) ?_
             refine zL (r := b false) rfl rfl rfl (LOp.eqb (LOp.not rfl rfl) rfl) ?_
             refine zL (r := b false) rfl rfl rfl (LOp.pick_false rfl rfl rfl) ?_
             refine zM (r := b false) rfl rfl rfl rfl rfl ?_
             refine zL (r := b true) rfl rfl rfl (LOp.eqb (LOp.move rfl rfl) hc26) ?_
             refine zL (r := b false) rfl rfl rfl (LOp.eqb (LOp.not rfl rfl) rfl) ?_
             refine zL (r := b false) rfl rfl rfl (LOp.pick_false rfl rfl rfl) ?_
             refine zM (r := b false) rfl rfl rfl rfl rfl ?_
             refine zL (r := b true) rfl rfl rfl (LOp.eqb (LOp.move rfl rfl) hc27) ?_
             refine zL (r := b false) rfl rfl rfl (LOp.eqb (LOp.not rfl rfl) rfl) ?_
             refine zL (r := b false) rfl rfl rfl (LOp.pick_false rfl rfl rfl) ?_
             refine zM (r := b false) rfl rfl rfl rfl rfl ?_
             refine zL (r := b true) rfl rfl rfl (LOp.eqb (LOp.move rfl rfl) hc28) ?_
             refine zL (r := b false) rfl rfl rfl (LOp.eqb (LOp.not rfl rfl) rfl) ?_
             refine zL (r := b false) rfl rfl rfl (LOp.pick_false rfl rfl rfl) ?_
             refine zM (r := b false) rfl rfl rfl rfl rfl ?_
             refine zL (r := b true) rfl rfl rfl (LOp.eqb (LOp.move rfl rfl) hc29) ?_
             refine zL (r := b false) rfl rfl rfl (LOp.eqb (LOp.not rfl rfl) rfl) ?_
             refine zL (r := b false) rfl rfl rfl (LOp.pick_false rfl rfl rfl) ?_
             refine zM (r := b false) rfl rfl rfl rfl rfl ?_
             refine zL (r := b false) rfl rfl rfl (LOp.eqb (LOp.move rfl rfl) hc30) ?_
             refine zL (r := b true) rfl rfl rfl (LOp.eqb (LOp.not rfl rfl) rfl) ?_
             refine zL (r := b true) rfl rfl rfl (LOp.pick_false rfl rfl rfl) ?_
             iterate 2 (refine zM (r := b true) rfl rfl rfl rfl rfl ?_; refine ROps.s rfl rfl rfl ?_; refine ROps.s rfl rfl rfl ?_; refine ROps.s rfl rfl rfl ?_; refine ROps.s rfl rfl rfl ?_; refine zL (r := b true) rfl rfl rfl (LOp.pick_true rfl rfl rfl) ?_)
             refine zM (r := b true) rfl rfl rfl rfl rfl ?_
             iterate 7 (refine ROps.s rfl rfl rfl ?_)
             refine zL (r := b true) rfl rfl rfl (LOp.pick_true rfl rfl rfl) ?_
             refine zM (r := b true) rfl rfl rfl rfl rfl ?_
             iterate 7 (refine ROps.s rfl rfl rfl ?_)
             refine zL (r := b true) rfl rfl rfl (LOp.pick_true rfl rfl rfl) ?_
             refine zM (r := b true) rfl rfl rfl rfl rfl ?_
             iterate 7 (refine ROps.s rfl rfl rfl ?_)
             refine zL (r := b true) rfl rfl rfl (LOp.pick_true rfl rfl rfl) ?_
             refine zM (r := b true) rfl rfl rfl rfl rfl ?_
             iterate 5 (refine ROps.s rfl rfl rfl ?_)
             refine zL (r := b true) rfl rfl rfl (LOp.pick_true rfl rfl rfl) ?_
             refine zM (r := b true) rfl rfl rfl rfl rfl ?_
             iterate 4 (refine ROps.s rfl rfl rfl ?_)
             refine zL (r := b true) rfl rfl rfl (LOp.pick_true rfl rfl rfl) ?_
             refine zN ?_
             exact .inl ⟨(Le.of ⟨aR, aR, aR, aR, aR, aR, aR, aR, aR, trivial⟩ ⟨⟨rfl, .inr rfl⟩, ⟨rfl, .inr rfl⟩, ⟨rfl, .inr rfl⟩, ⟨rfl, .inr rfl⟩, ⟨rfl, .inr rfl⟩, ⟨rfl, .inl rfl⟩, ⟨rfl, .inl rfl⟩, ⟨rfl, .inl rfl⟩, ⟨rfl, .inl rfl⟩, ⟨rfl, .inr rfl⟩, trivial⟩), h⟩
           ·refine RunC.regionW ?_
            refine zL (r := b true) rfl rfl rfl (LOp.eqb (LOp.move rfl rfl) hc21) ?_
            refine zL (r := b false) rfl rfl rfl (LOp.eqb (LOp.not rfl rfl) rfl) ?_
            refine zM (r := b false) rfl rfl rfl rfl rfl ?_
            refine zL (r := b true) rfl rfl rfl (LOp.eqb (LOp.move rfl rfl) hc22) ?_
            refine zL (r := b false) rfl rfl rfl (LOp.eqb (LOp.not rfl rfl) rfl) ?_
            refine zL (r := b false) rfl rfl rfl (LOp.pick_false rfl rfl rfl) ?_
            refine zM (r := b false) rfl rfl rfl rfl rfl ?_
            refine zL (r := b true) rfl rfl rfl (LOp.eqb (LOp.move rfl rfl) hc23) ?_
            refine zL (r := b false) rfl rfl rfl (LOp.eqb (LOp.not rfl rfl) rfl) ?_
            refine zL (r := b false) rfl rfl rfl (LOp.pick_false rfl rfl rfl) ?_
            refine zM (r := b false) rfl rfl rfl rfl rfl ?_
            refine zL (r := b true) rfl rfl rfl (LOp.eqb (LOp.move rfl rfl) hc24) ?_
            refine zL (r := b false) rfl rfl rfl (LOp.eqb (LOp.not rfl rfl) rfl) ?_
            refine zL (r := b false) rfl rfl rfl (LOp.pick_false rfl rfl rfl) ?_
            refine zM (r := b false) rfl rfl rfl rfl rfl ?_
            refine zL (r := b true) rfl rfl rfl (LOp.eqb (LOp.move rfl rfl) hc25) ?_
            refine zL (r := b false) rfl rfl rfl (LOp.eqb (LOp.not rfl rfl) rfl) ?_
            refine zL (r := b false) rfl rfl rfl (LOp.pick_false rfl rfl rfl) ?_
            refine zM (r := b false) rfl rfl rfl rfl rfl ?_
            refine zL (r := b true) rfl rfl rfl (LOp.eqb (LOp.move rfl rfl) hc26) ?_
            refine zL (r := b false) rfl rfl rfl (LOp.eqb (LOp.not rfl rfl) rfl) ?_
            refine zL (r := b false) rfl rfl rfl (LOp.pick_false rfl rfl rfl) ?_
            refine zM (r := b false) rfl rfl rfl rfl rfl ?_
            refine zL (r := b true) rfl rfl rfl (LOp.eqb (LOp.move rfl rfl) hc27) ?_
            refine zL (r := b false) rfl rfl rfl (LOp.eqb (LOp.not rfl rfl) rfl) ?_
            refine zL (r := b false) rfl rfl rfl (LOp.pick_false rfl rfl rfl) ?_
            refine zM (r := b false) rfl rfl rfl rfl rfl ?_
            refine zL (r := b true) rfl rfl rfl (LOp.eqb (LOp.move rfl rfl) hc28) ?_
            refine zL (r := b false) rfl rfl rfl (LOp.eqb (LOp.not rfl rfl) rfl) ?_
            refine zL (r := b false) rfl rfl rfl (LOp.pick_false rfl rfl rfl) ?_
            refine zM (r := b false) rfl rfl rfl rfl rfl ?_
            refine zL (r := b false) rfl rfl rfl (LOp.eqb (LOp.move rfl rfl) hc29) ?_
            refine zL (r := b true) rfl rfl rfl (LOp.eqb (LOp.not rfl rfl) rfl) ?_
            refine zL (r := b true) rfl rfl rfl (LOp.pick_false rfl rfl rfl) ?_
            refine zM (r := b true) rfl rfl rfl rfl rfl ?_
            iterate 3 (refine ROps.s rfl rfl rfl ?_; refine ROps.s rfl rfl rfl ?_; refine zL (r := b true) rfl rfl rfl (LOp.pick_true rfl rfl rfl) ?_; refine zM (r := b true) rfl rfl rfl rfl rfl ?_; refine ROps.s rfl rfl rfl ?_; refine ROps.s rfl rfl rfl ?_)
            iterate 5 (refine ROps.s rfl rfl rfl ?_)
            refine zL (r := b true) rfl rfl rfl (LOp.pick_true rfl rfl rfl) ?_
            refine zM (r := b true) rfl rfl rfl rfl rfl ?_
            iterate 7 (refine ROps.s rfl rfl rfl ?_)
            refine zL (r := b true) rfl rfl rfl (LOp.pick_true rfl rfl rfl) ?_
            refine zM (r := b true) rfl rfl rfl rfl rfl ?_
            iterate 7 (refine ROps.s rfl rfl rfl ?_)
            refine zL (r := b true) rfl rfl rfl (LOp.pick_true rfl rfl rfl) ?_
            refine zM (r := b true) rfl rfl rfl rfl rfl ?_
            iterate 5 (refine ROps.s rfl rfl rfl ?_)
            refine zL (r := b true) rfl rfl rfl (LOp.pick_true rfl rfl rfl) ?_
            refine zM (r := b true) rfl rfl rfl rfl rfl ?_
            iterate 4 (refine ROps.s rfl rfl rfl ?_)
            refine zL (r := b true) rfl rfl rfl (LOp.pick_true rfl rfl rfl) ?_
            refine zN ?_
            exact .inl ⟨(Le.of ⟨aR, aR, aR, aR, aR, aR, aR, aR, aR, trivial⟩ ⟨⟨rfl, .inr rfl⟩, ⟨rfl, .inr rfl⟩, ⟨rfl, .inr rfl⟩, ⟨rfl, .inr rfl⟩, ⟨rfl, .inr rfl⟩, ⟨rfl, .inl rfl⟩, ⟨rfl, .inl rfl⟩, ⟨rfl, .inl rfl⟩, ⟨rfl, .inl rfl⟩, ⟨rfl, .inr rfl⟩, trivial⟩), h⟩
          ·refine RunC.regionW ?_
           refine zL (r := b true) rfl rfl rfl (LOp.eqb (LOp.move rfl rfl) hc21) ?_
           refine zL (r := b false) rfl rfl rfl (LOp.eqb (LOp.not rfl rfl) rfl) ?_
           refine zM (r := b false) rfl rfl rfl rfl rfl ?_
           refine zL (r := b true) rfl rfl rfl (LOp.eqb (LOp.move rfl rfl) hc22) ?_
           refine zL (r := b false) rfl rfl rfl (LOp.eqb (LOp.not rfl rfl) rfl) ?_
           refine zL (r := b false) rfl rfl rfl (LOp.pick_false rfl rfl rfl) ?_
           refine zM (r := b false) rfl rfl rfl rfl rfl ?_
           refine zL (r := b true) rfl rfl rfl (LOp.eqb (LOp.move rfl rfl) hc23) ?_
           refine zL (r := b false) rfl rfl rfl (LOp.eqb (LOp.not rfl rfl) rfl) ?_
           refine zL (r := b false) rfl rfl rfl (LOp.pick_false rfl rfl rfl) ?_
           refine zM (r := b false) rfl rfl rfl rfl rfl ?_
           refine zL (r := b true) rfl rfl rfl (LOp.eqb (LOp.move rfl rfl) hc24) ?_
           refine zL (r := b false) rfl rfl rfl (LOp.eqb (LOp.not rfl rfl) rfl) ?_
           refine zL (r := b false) rfl rfl rfl (LOp.pick_false rfl rfl rfl) ?_
           refine zM (r := b false) rfl rfl rfl rfl rfl ?_
           refine zL (r := b true) rfl rfl rfl (LOp.eqb (LOp.move rfl rfl) hc25) ?_
           refine zL (r := b false) rfl rfl rfl (LOp.eqb (LOp.not rfl rfl) rfl) ?_
           refine zL (r := b false) rfl rfl rfl (LOp.pick_false rfl rfl rfl) ?_
           refine zM (r := b false) rfl rfl rfl rfl rfl ?_
           refine zL (r := b true) rfl rfl rfl (LOp.eqb (LOp.move rfl rfl) hc26) ?_
           refine zL (r := b false) rfl rfl rfl (LOp.eqb (LOp.not rfl rfl) rfl) ?_
           refine zL (r := b false) rfl rfl rfl (LOp.pick_false rfl rfl rfl) ?_
           refine zM (r := b false) rfl rfl rfl rfl rfl ?_
           refine zL (r := b true) rfl rfl rfl (LOp.eqb (LOp.move rfl rfl) hc27) ?_
           refine zL (r := b false) rfl rfl rfl (LOp.eqb (LOp.not rfl rfl) rfl) ?_
           refine zL (r := b false) rfl rfl rfl (LOp.pick_false rfl rfl rfl) ?_
           refine zM (r := b false) rfl rfl rfl rfl rfl ?_
           refine zL (r := b false) rfl rfl rfl (LOp.eqb (LOp.move rfl rfl) hc28) ?_
           refine zL (r := b true) rfl rfl rfl (LOp.eqb (LOp.not rfl rfl) rfl) ?_
           refine zL (r := b true) rfl rfl rfl (LOp.pick_false rfl rfl rfl) ?_
           iterate 2 (refine zM (r := b true) rfl rfl rfl rfl rfl ?_; refine ROps.s rfl rfl rfl ?_; refine ROps.s rfl rfl rfl ?_; refine zL (r := b true) rfl rfl rfl (LOp.pick_true rfl rfl rfl) ?_)
           iterate 2 (refine zM (r := b true) rfl rfl rfl rfl rfl ?_; refine ROps.s rfl rfl rfl ?_; refine ROps.s rfl rfl rfl ?_; refine ROps.s rfl rfl rfl ?_; refine ROps.s rfl rfl rfl ?_; refine zL (r := b true) rfl rfl rfl (LOp.pick_true rfl rfl rfl) ?_)
           refine zM (r := b true) rfl rfl rfl rfl rfl ?_
           iterate 7 (refine ROps.s rfl rfl rfl ?_)
           refine zL (r := b true) rfl rfl rfl (LOp.pick_true rfl rfl rfl) ?_
           refine zM (r := b true) rfl rfl rfl rfl rfl ?_
           iterate 7 (refine ROps.s rfl rfl rfl ?_)
           refine zL (r := b true) rfl rfl rfl (LOp.pick_true rfl rfl rfl) ?_
           refine zM (r := b true) rfl rfl rfl rfl rfl ?_
           iterate 7 (refine ROps.s rfl rfl rfl ?_)
           refine zL (r := b true) rfl rfl rfl (LOp.pick_true rfl rfl rfl) ?_
           refine zM (r := b true) rfl rfl rfl rfl rfl ?_
           iterate 5 (refine ROps.s rfl rfl rfl ?_)
           refine zL (r := b true) rfl rfl rfl (LOp.pick_true rfl rfl rfl) ?_
           refine zM (r := b true) rfl rfl rfl rfl rfl ?_
           iterate 4 (refine ROps.s rfl rfl rfl ?_)
           refine zL (r := b true) rfl rfl rfl (LOp.pick_true rfl rfl rfl) ?_
           refine zN ?_
           exact .inl ⟨(Le.of ⟨aR, aR, aR, aR, aR, aR, aR, aR, aR, trivial⟩ ⟨⟨rfl, .inr rfl⟩, ⟨rfl, .inr rfl⟩, ⟨rfl, .inr rfl⟩, ⟨rfl, .inr rfl⟩, ⟨rfl, .inr rfl⟩, ⟨rfl, .inl rfl⟩, ⟨rfl, .inl rfl⟩, ⟨rfl, .inl rfl⟩, ⟨rfl, .inl rfl⟩, ⟨rfl, .inr rfl⟩, trivial⟩), h⟩
         ·refine RunC.regionW ?_
          refine zL (r := b true) rfl rfl rfl (LOp.eqb (LOp.move rfl rfl) hc21) ?_
          refine zL (r := b false) rfl rfl rfl (LOp.eqb (LOp.not rfl rfl) rfl) ?_
          refine zM (r := b false) rfl rfl rfl rfl rfl ?_
          refine zL (r := b true) rfl rfl rfl (LOp.eqb (LOp.move rfl rfl) hc22) ?_
          refine zL (r := b false) rfl rfl rfl (LOp.eqb (LOp.not rfl rfl) rfl) ?_
          refine zL (r := b false) rfl rfl rfl (LOp.pick_false rfl rfl rfl) ?_
          refine zM (r := b false) rfl rfl rfl rfl rfl ?_
          refine zL (r := b true) rfl rfl rfl (LOp.eqb (LOp.move rfl rfl) hc23) ?_
          refine zL (r := b false) rfl rfl rfl (LOp.eqb (LOp.not rfl rfl) rfl) ?_
          refine zL (r := b false) rfl rfl rfl (LOp.pick_false rfl rfl rfl) ?_
          refine zM (r := b false) rfl rfl rfl rfl rfl ?_
          refine zL (r := b true) rfl rfl rfl (LOp.eqb (LOp.move rfl rfl) hc24) ?_
          refine zL (r := b false) rfl rfl rfl (LOp.eqb (LOp.not rfl rfl) rfl) ?_
          refine zL (r := b false) rfl rfl rfl (LOp.pick_false rfl rfl rfl) ?_
          refine zM (r := b false) rfl rfl rfl rfl rfl ?_
          refine zL (r := b true) rfl rfl rfl (LOp.eqb (LOp.move rfl rfl) hc25) ?_
          refine zL (r := b false) rfl rfl rfl (LOp.eqb (LOp.not rfl rfl) rfl) ?_
          refine zL (r := b false) rfl rfl rfl (LOp.pick_false rfl rfl rfl) ?_
          refine zM (r := b false) rfl rfl rfl rfl rfl ?_
          refine zL (r := b true) rfl rfl rfl (LOp.eqb (LOp.move rfl rfl) hc26) ?_
          refine zL (r := b false) rfl rfl rfl (LOp.eqb (LOp.not rfl rfl) rfl) ?_
          refine zL (r := b false) rfl rfl rfl (LOp.pick_false rfl rfl rfl) ?_
          refine zM (r := b false) rfl rfl rfl rfl rfl ?_
          refine zL (r := b false) rfl rfl rfl (LOp.eqb (LOp.move rfl rfl) hc27) ?_
          refine zL (r := b true) rfl rfl rfl (LOp.eqb (LOp.not rfl rfl) rfl) ?_
          refine zL (r := b true) rfl rfl rfl (LOp.pick_false rfl rfl rfl) ?_
          iterate 3 (refine zM (r := b true) rfl rfl rfl rfl rfl ?_; refine ROps.s rfl rfl rfl ?_; refine ROps.s rfl rfl rfl ?_; refine zL (r := b true) rfl rfl rfl (LOp.pick_true rfl rfl rfl) ?_)
          iterate 2 (refine zM (r := b true) rfl rfl rfl rfl rfl ?_; refine ROps.s rfl rfl rfl ?_; refine ROps.s rfl rfl rfl ?_; refine ROps.s rfl rfl rfl ?_; refine ROps.s rfl rfl rfl ?_; refine zL (r := b true) rfl rfl rfl (LOp.pick_true rfl rfl rfl) ?_)
          refine zM (r := b true) rfl rfl rfl rfl rfl ?_
          iterate 7 (refine ROps.s rfl rfl rfl ?_)
          refine zL (r := b true) rfl rfl rfl (LOp.pick_true rfl rfl rfl) ?_
          refine zM (r := b true) rfl rfl rfl rfl rfl ?_
          iterate 7 (refine ROps.s rfl rfl rfl ?_)
          refine zL (r := b true) rfl rfl rfl (LOp.pick_true rfl rfl rfl) ?_
          refine zM (r := b true) rfl rfl rfl rfl rfl ?_
          iterate 7 (refine ROps.s rfl rfl rfl ?_)
          refine zL (r := b true) rfl rfl rfl (LOp.pick_true rfl rfl rfl) ?_
          refine zM (r := b true) rfl rfl rfl rfl rfl ?_
          iterate 5 (refine ROps.s rfl rfl rfl ?_)
          refine zL (r := b true) rfl rfl rfl (LOp.pick_true rfl rfl rfl) ?_
          refine zM (r := b true) rfl rfl rfl rfl rfl ?_
          iterate 4 (refine ROps.s rfl rfl rfl ?_)
          refine zL (r := b true) rfl rfl rfl (LOp.pick_true rfl rfl rfl) ?_
          refine zN ?_
          exact .inl ⟨(Le.of ⟨aR, aR, aR, aR, aR, aR, aR, aR, aR, trivial⟩ ⟨⟨rfl, .inr rfl⟩, ⟨rfl, .inr rfl⟩, ⟨rfl, .inr rfl⟩, ⟨rfl, .inr rfl⟩, ⟨rfl, .inr rfl⟩, ⟨rfl, .inl rfl⟩, ⟨rfl, .inl rfl⟩, ⟨rfl, .inl rfl⟩, ⟨rfl, .inl rfl⟩, ⟨rfl, .inr rfl⟩, trivial⟩), h⟩
        ·refine RunC.regionW ?_
         refine zL (r := b true) rfl rfl rfl (LOp.eqb (LOp.move rfl rfl) hc21) ?_
         refine zL (r := b false) rfl rfl rfl (LOp.eqb (LOp.not rfl rfl) rfl) ?_
         refine zM (r := b false) rfl rfl rfl rfl rfl ?_
         refine zL (r := b true) rfl rfl rfl (LOp.eqb (LOp.move rfl rfl) hc22) ?_
         refine zL (r := b false) rfl rfl rfl (LOp.eqb (LOp.not rfl rfl) rfl) ?_
         refine zL (r := b false) rfl rfl rfl (LOp.pick_false rfl rfl rfl) ?_
         refine zM (r := b false) rfl rfl rfl rfl rfl ?_
         refine zL (r := b true) rfl rfl rfl (LOp.eqb (LOp.move rfl rfl) hc23) ?_
         refine zL (r := b false) rfl rfl rfl (LOp.eqb (LOp.not rfl rfl) rfl) ?_
         refine zL (r := b false) rfl rfl rfl (LOp.pick_false rfl rfl rfl) ?_
         refine zM (r := b false) rfl rfl rfl rfl rfl ?_
         refine zL (r := b true) rfl rfl rfl (LOp.eqb (LOp.move rfl rfl) hc24) ?_
         refine zL (r := b false) rfl rfl rfl (LOp.eqb (LOp.not rfl rfl) rfl) ?_
         refine zL (r := b false) rfl rfl rfl (LOp.pick_false rfl rfl rfl) ?_
         refine zM (r := b false) rfl rfl rfl rfl rfl ?_
         refine zL (r := b true) rfl rfl rfl (LOp.eqb (LOp.move rfl rfl) hc25) ?_
         refine zL (r := b false) rfl rfl rfl (LOp.eqb (LOp.not rfl rfl) rfl) ?_
         refine zL (r := b false) rfl rfl rfl (LOp.pick_false rfl rfl rfl) ?_
         refine zM (r := b false) rfl rfl rfl rfl rfl ?_
         refine zL (r := b false) rfl rfl rfl (LOp.eqb (LOp.move rfl rfl) hc26) ?_
         refine zL (r := b true) rfl rfl rfl (LOp.eqb (LOp.not rfl rfl) rfl) ?_
         refine zL (r := b true) rfl rfl rfl (LOp.pick_false rfl rfl rfl) ?_
         iterate 4 (refine zM (r := b true) rfl rfl rfl rfl rfl ?_; refine ROps.s rfl rfl rfl ?_; refine ROps.s rfl rfl rfl ?_; refine zL (r := b true) rfl rfl rfl (LOp.pick_true rfl rfl rfl) ?_)
         iterate 2 (refine zM (r := b true) rfl rfl rfl rfl rfl ?_; refine ROps.s rfl rfl rfl ?_; refine ROps.s rfl rfl rfl ?_; refine ROps.s rfl rfl rfl ?_; refine ROps.s rfl rfl rfl ?_; refine zL (r := b true) rfl rfl rfl (LOp.pick_true rfl rfl rfl) ?_)
         refine zM (r := b true) rfl rfl rfl rfl rfl ?_
         iterate 7 (refine ROps.s rfl rfl rfl ?_)
         refine zL (r := b true) rfl rfl rfl (LOp.pick_true rfl rfl rfl) ?_
         refine zM (r := b true) rfl rfl rfl rfl rfl ?_
         iterate 7 (refine ROps.s rfl rfl rfl ?_)
         refine zL (r := b true) rfl rfl rfl (LOp.pick_true rfl rfl rfl) ?_
         refine zM (r := b true) rfl rfl rfl rfl rfl ?_
         iterate 7 (refine ROps.s rfl rfl rfl ?_)
         refine zL (r := b true) rfl rfl rfl (LOp.pick_true rfl rfl rfl) ?_
         refine zM (r := b true) rfl rfl rfl rfl rfl ?_
         iterate 5 (refine ROps.s rfl rfl rfl ?_)
         refine zL (r := b true) rfl rfl rfl (LOp.pick_true rfl rfl rfl) ?_
         refine zM (r := b true) rfl rfl rfl rfl rfl ?_
         iterate 4 (refine ROps.s rfl rfl rfl ?_)
         refine zL (r := b true) rfl rfl rfl (LOp.pick_true rfl rfl rfl) ?_
         refine zN ?_
         exact .inl ⟨(Le.of ⟨aR, aR, aR, aR, aR, aR, aR, aR, aR, trivial⟩ ⟨⟨rfl, .inr rfl⟩, ⟨rfl, .inr rfl⟩, ⟨rfl, .inr rfl⟩, ⟨rfl, .inr rfl⟩, ⟨rfl, .inr rfl⟩, ⟨rfl, .inl rfl⟩, ⟨rfl, .inl rfl⟩, ⟨rfl, .inl rfl⟩, ⟨rfl, .inl rfl⟩, ⟨rfl, .inr rfl⟩, trivial⟩), h⟩
       ·refine RunC.regionW ?_
        refine zL (r := b true) rfl rfl rfl (LOp.eqb (LOp.move rfl rfl) hc21) ?_
        refine zL (r := b false) rfl rfl rfl (LOp.eqb (LOp.not rfl rfl) rfl) ?_
        refine zM (r := b false) rfl rfl rfl rfl rfl ?_
        refine zL (r := b true) rfl rfl rfl (LOp.eqb (LOp.move rfl rfl) hc22) ?_
        refine zL (r := b false) rfl rfl rfl (LOp.eqb (LOp.not rfl rfl) rfl) ?_
        refine zL (r := b false) rfl rfl rfl (LOp.pick_false rfl rfl rfl) ?_
        refine zM (r := b false) rfl rfl rfl rfl rfl ?_
        refine zL (r := b true) rfl rfl rfl (LOp.eqb (LOp.move rfl rfl) hc23) ?_
        refine zL (r := b false) rfl rfl rfl (LOp.eqb (LOp.not rfl rfl) rfl) ?_
        refine zL (r := b false) rfl rfl rfl (LOp.pick_false rfl rfl rfl) ?_
        refine zM (r := b false) rfl rfl rfl rfl rfl ?_
        refine zL (r := b true) rfl rfl rfl (LOp.eqb (LOp.move rfl rfl) hc24) ?_
        refine zL (r := b false) rfl rfl rfl (LOp.eqb (LOp.not rfl rfl) rfl) ?_
        refine zL (r := b false) rfl rfl rfl (LOp.pick_false rfl rfl rfl) ?_
        refine zM (r := b false) rfl rfl rfl rfl rfl ?_
        refine zL (r := b false) rfl rfl rfl (LOp.eqb (LOp.move rfl rfl) hc25) ?_
        refine zL (r := b true) rfl rfl rfl (LOp.eqb (LOp.not rfl rfl) rfl) ?_
        refine zL (r := b true) rfl rfl rfl (LOp.pick_false rfl rfl rfl) ?_
        iterate 5 (refine zM (r := b true) rfl rfl rfl rfl rfl ?_; refine ROps.s rfl rfl rfl ?_; refine ROps.s rfl rfl rfl ?_; refine zL (r := b true) rfl rfl rfl (LOp.pick_true rfl rfl rfl) ?_)
        iterate 2 (refine zM (r := b true) rfl rfl rfl rfl rfl ?_; refine ROps.s rfl rfl rfl ?_; refine ROps.s rfl rfl rfl ?_; refine ROps.s rfl rfl rfl ?_; refine ROps.s rfl rfl rfl ?_; refine zL (r := b true) rfl rfl rfl (LOp.pick_true rfl rfl rfl) ?_)
        refine zM (r := b true) rfl rfl rfl rfl rfl ?_
        iterate 7 (refine ROps.s rfl rfl rfl ?_)
        refine zL (r := b true) rfl rfl rfl (LOp.pick_true rfl rfl rfl) ?_
        refine zM (r := b true) rfl rfl rfl rfl rfl ?_
        iterate 7 (refine ROps.s rfl rfl rfl ?_)
        refine zL (r := b true) rfl rfl rfl (LOp.pick_true rfl rfl rfl) ?_
        refine zM (r := b true) rfl rfl rfl rfl rfl ?_
        iterate 7 (refine ROps.s rfl rfl rfl ?_)
        refine zL (r := b true) rfl rfl rfl (LOp.pick_true rfl rfl rfl) ?_
        refine zM (r := b true) rfl rfl rfl rfl rfl ?_
        iterate 5 (refine ROps.s rfl rfl rfl ?_)
        refine zL (r := b true) rfl rfl rfl (LOp.pick_true rfl rfl rfl) ?_
        refine zM (r := b true) rfl rfl rfl rfl rfl ?_
        iterate 4 (refine ROps.s rfl rfl rfl ?_)
        refine zL (r := b true) rfl rfl rfl (LOp.pick_true rfl rfl rfl) ?_
        refine zN ?_
        exact .inl ⟨(Le.of ⟨aR, aR, aR, aR, aR, aR, aR, aR, aR, trivial⟩ ⟨⟨rfl, .inr rfl⟩, ⟨rfl, .inr rfl⟩, ⟨rfl, .inr rfl⟩, ⟨rfl, .inr rfl⟩, ⟨rfl, .inr rfl⟩, ⟨rfl, .inl rfl⟩, ⟨rfl, .inl rfl⟩, ⟨rfl, .inl rfl⟩, ⟨rfl, .inl rfl⟩, ⟨rfl, .inr rfl⟩, trivial⟩), h⟩
      ·refine RunC.regionW ?_
       refine zL (r := b true) rfl rfl rfl (LOp.eqb (LOp.move rfl rfl) hc21) ?_
       refine zL (r := b false) rfl rfl rfl (LOp.eqb (LOp.not rfl rfl) rfl) ?_
       refine zM (r := b false) rfl rfl rfl rfl rfl ?_
       refine zL (r := b true) rfl rfl rfl (LOp.eqb (LOp.move rfl rfl) hc22) ?_
       refine zL (r := b false) rfl rfl rfl (LOp.eqb (LOp.not rfl rfl) rfl) ?_
       refine zL (r := b false) rfl rfl rfl (LOp.pick_false rfl rfl rfl) ?_
       refine zM (r := b false) rfl rfl rfl rfl rfl ?_
       refine zL (r := b true) rfl rfl rfl (LOp.eqb (LOp.move rfl rfl) hc23) ?_
       refine zL (r := b false) rfl rfl rfl (LOp.eqb (LOp.not rfl rfl) rfl) ?_
       refine zL (r := b false) rfl rfl rfl (LOp.pick_false rfl rfl rfl) ?_
       refine zM (r := b false) rfl rfl rfl rfl rfl ?_
       refine zL (r := b false) rfl rfl rfl (LOp.eqb (LOp.move rfl rfl) hc24) ?_
       refine zL (r := b true) rfl rfl rfl (LOp.eqb (LOp.not rfl rfl) rfl) ?_
       refine zL (r := b true) rfl rfl rfl (LOp.pick_false rfl rfl rfl) ?_
       iterate 6 (refine zM (r := b true) rfl rfl rfl rfl rfl ?_; refine ROps.s rfl rfl rfl ?_; refine ROps.s rfl rfl rfl ?_; refine zL (r := b true) rfl rfl rfl (LOp.pick_true rfl rfl rfl) ?_)
       iterate 2 (refine zM (r := b true) rfl rfl rfl rfl rfl ?_; refine ROps.s rfl rfl rfl ?_; refine ROps.s rfl rfl rfl ?_; refine ROps.s rfl rfl rfl ?_; refine ROps.s rfl rfl rfl ?_; refine zL (r := b true) rfl rfl rfl (LOp.pick_true rfl rfl rfl) ?_)
       refine zM (r := b true) rfl rfl rfl rfl rfl ?_
       iterate 7 (refine ROps.s rfl rfl rfl ?_)
       refine zL (r := b true) rfl rfl rfl (LOp.pick_true rfl rfl rfl) ?_
       refine zM (r := b true) rfl rfl rfl rfl rfl ?_
       iterate 7 (refine ROps.s rfl rfl rfl ?_)
       refine zL (r := b true) rfl rfl rfl (LOp.pick_true rfl rfl rfl) ?_
       refine zM (r := b true) rfl rfl rfl rfl rfl ?_
       iterate 7 (refine ROps.s rfl rfl rfl ?_)
       refine zL (r := b true) rfl rfl rfl (LOp.pick_true rfl rfl rfl) ?_
       refine zM (r := b true) rfl rfl rfl rfl rfl ?_
       iterate 5 (refine ROps.s rfl rfl rfl ?_)
       refine zL (r := b true) rfl rfl rfl (LOp.pick_true rfl rfl rfl) ?_
       refine zM (r := b true) rfl rfl rfl rfl rfl ?_
       iterate 4 (refine ROps.s rfl rfl rfl ?_)
       refine zL (r := b true) rfl rfl rfl (LOp.pick_true rfl rfl rfl) ?_
       refine zN ?_
       exact .inl ⟨(Le.of ⟨aR, aR, aR, aR, aR, aR, aR, aR, aR, trivial⟩ ⟨⟨rfl, .inr rfl⟩, ⟨rfl, .inr rfl⟩, ⟨rfl, .inr rfl⟩, ⟨rfl, .inr rfl⟩, ⟨rfl, .inr rfl⟩, ⟨rfl, .inl rfl⟩, ⟨rfl, .inl rfl⟩, ⟨rfl, .inl rfl⟩, ⟨rfl, .inl rfl⟩, ⟨rfl, .inr rfl⟩, trivial⟩), h⟩
     ·refine RunC.regionW ?_
      refine zL (r := b true) rfl rfl rfl (LOp.eqb (LOp.move rfl rfl) hc21) ?_
      refine zL (r := b false) rfl rfl rfl (LOp.eqb (LOp.not rfl rfl) rfl) ?_
      refine zM (r := b false) rfl rfl rfl rfl rfl ?_
      refine zL (r := b true) rfl rfl rfl (LOp.eqb (LOp.move rfl rfl) hc22) ?_
      refine zL (r := b false) rfl rfl rfl (LOp.eqb (LOp.not rfl rfl) rfl) ?_
      refine zL (r := b false) rfl rfl rfl (LOp.pick_false rfl rfl rfl) ?_
      refine zM (r := b false) rfl rfl rfl rfl rfl ?_
      refine zL (r := b false) rfl rfl rfl (LOp.eqb (LOp.move rfl rfl) hc23) ?_
      refine zL (r := b true) rfl rfl rfl (LOp.eqb (LOp.not rfl rfl) rfl) ?_
      refine zL (r := b true) rfl rfl rfl (LOp.pick_false rfl rfl rfl) ?_
      iterate 7 (refine zM (r := b true) rfl rfl rfl rfl rfl ?_; refine ROps.s rfl rfl rfl ?_; refine ROps.s rfl rfl rfl ?_; refine zL (r := b true) rfl rfl rfl (LOp.pick_true rfl rfl rfl) ?_)
      iterate 2 (refine zM (r := b true) rfl rfl rfl rfl rfl ?_; refine ROps.s rfl rfl rfl ?_; refine ROps.s rfl rfl rfl ?_; refine ROps.s rfl rfl rfl ?_; refine ROps.s rfl rfl rfl ?_; refine zL (r := b true) rfl rfl rfl (LOp.pick_true rfl rfl rfl) ?_)
      refine zM (r := b true) rfl rfl rfl rfl rfl ?_
      iterate 7 (refine ROps.s rfl rfl rfl ?_)
      refine zL (r := b true) rfl rfl rfl (LOp.pick_true rfl rfl rfl) ?_
      refine zM (r := b true) rfl rfl rfl rfl rfl ?_
      iterate 7 (refine ROps.s rfl rfl rfl ?_)
      refine zL (r := b true) rfl rfl rfl (LOp.pick_true rfl rfl rfl) ?_
      refine zM (r := b true) rfl rfl rfl rfl rfl ?_
      iterate 7 (refine ROps.s rfl rfl rfl ?_)
      refine zL (r := b true) rfl rfl rfl (LOp.pick_true rfl rfl rfl) ?_
      refine zM (r := b true) rfl rfl rfl rfl rfl ?_
      iterate 5 (refine ROps.s rfl rfl rfl ?_)
      refine zL (r := b true) rfl rfl rfl (LOp.pick_true rfl rfl rfl) ?_
      refine zM (r := b true) rfl rfl rfl rfl rfl ?_
      iterate 4 (refine ROps.s rfl rfl rfl ?_)
      refine zL (r := b true) rfl rfl rfl (LOp.pick_true rfl rfl rfl) ?_
      refine zN ?_
      exact .inl ⟨(Le.of ⟨aR, aR, aR, aR, aR, aR, aR, aR, aR, trivial⟩ ⟨⟨rfl, .inr rfl⟩, ⟨rfl, .inr rfl⟩, ⟨rfl, .inr rfl⟩, ⟨rfl, .inr rfl⟩, ⟨rfl, .inr rfl⟩, ⟨rfl, .inl rfl⟩, ⟨rfl, .inl rfl⟩, ⟨rfl, .inl rfl⟩, ⟨rfl, .inl rfl⟩, ⟨rfl, .inr rfl⟩, trivial⟩), h⟩
    ·refine RunC.regionW ?_
     refine zL (r := b true) rfl rfl rfl (LOp.eqb (LOp.move rfl rfl) hc21) ?_
     refine zL (r := b false) rfl rfl rfl (LOp.eqb (LOp.not rfl rfl) rfl) ?_
     refine zM (r := b false) rfl rfl rfl rfl rfl ?_
     refine zL (r := b false) rfl rfl rfl (LOp.eqb (LOp.move rfl rfl) hc22) ?_
     refine zL (r := b true) rfl rfl rfl (LOp.eqb (LOp.not rfl rfl) rfl) ?_
     refine zL (r := b true) rfl rfl rfl (LOp.pick_false rfl rfl rfl) ?_
     iterate 8 (refine zM (r := b true) rfl rfl rfl rfl rfl ?_; refine ROps.s rfl rfl rfl ?_; refine ROps.s rfl rfl rfl ?_; refine zL (r := b true) rfl rfl rfl (LOp.pick_true rfl rfl rfl) ?_)
     iterate 2 (refine zM (r := b true) rfl rfl rfl rfl rfl ?_; refine ROps.s rfl rfl rfl ?_; refine ROps.s rfl rfl rfl ?_; refine ROps.s rfl rfl rfl ?_; refine ROps.s rfl rfl rfl ?_; refine zL (r := b true) rfl rfl rfl (LOp.pick_true rfl rfl rfl) ?_)
     refine zM (r := b true) rfl rfl rfl rfl rfl ?_
     iterate 7 (refine ROps.s rfl rfl rfl ?_)
     refine zL (r := b true) rfl rfl rfl (LOp.pick_true rfl rfl rfl) ?_
     refine zM (r := b true) rfl rfl rfl rfl rfl ?_
     iterate 7 (refine ROps.s rfl rfl rfl ?_)
     refine zL (r := b true) rfl rfl rfl (LOp.pick_true rfl rfl rfl) ?_
     refine zM (r := b true) rfl rfl rfl rfl rfl ?_
     iterate 7 (refine ROps.s rfl rfl rfl ?_)
     refine zL (r := b true) rfl rfl rfl (LOp.pick_true rfl rfl rfl) ?_
     refine zM (r := b true) rfl rfl rfl rfl rfl ?_
     iterate 5 (refine ROps.s rfl rfl rfl ?_)
     refine zL (r := b true) rfl rfl rfl (LOp.pick_true rfl rfl rfl) ?_
     refine zM (r := b true) rfl rfl rfl rfl rfl ?_
     iterate 4 (refine ROps.s rfl rfl rfl ?_)
     refine zL (r := b true) rfl rfl rfl (LOp.pick_true rfl rfl rfl) ?_
     refine zN ?_
     exact .inl ⟨(Le.of ⟨aR, aR, aR, aR, aR, aR, aR, aR, aR, trivial⟩ ⟨⟨rfl, .inr rfl⟩, ⟨rfl, .inr rfl⟩, ⟨rfl, .inr rfl⟩, ⟨rfl, .inr rfl⟩, ⟨rfl, .inr rfl⟩, ⟨rfl, .inl rfl⟩, ⟨rfl, .inl rfl⟩, ⟨rfl, .inl rfl⟩, ⟨rfl, .inl rfl⟩, ⟨rfl, .inr rfl⟩, trivial⟩), h⟩
   ·refine RunC.regionW ?_
    refine zL (r := b false) rfl rfl rfl (LOp.eqb (LOp.move rfl rfl) hc21) ?_
    refine zL (r := b true) rfl rfl rfl (LOp.eqb (LOp.not rfl rfl) rfl) ?_
    iterate 9 (refine zM (r := b true) rfl rfl rfl rfl rfl ?_; refine ROps.s rfl rfl rfl ?_; refine ROps.s rfl rfl rfl ?_; refine zL (r := b true) rfl rfl rfl (LOp.pick_true rfl rfl rfl) ?_)
    iterate 2 (refine zM (r := b true) rfl rfl rfl rfl rfl ?_; refine ROps.s rfl rfl rfl ?_; refine ROps.s rfl rfl rfl ?_; refine ROps.s rfl rfl rfl ?_; refine ROps.s rfl rfl rfl ?_; refine zL (r := b true) rfl rfl rfl (LOp.pick_true rfl rfl rfl) ?_)
    refine zM (r := b true) rfl rfl rfl rfl rfl ?_
    iterate 7 (refine ROps.s rfl rfl rfl ?_)
    refine zL (r := b true) rfl rfl rfl (LOp.pick_true rfl rfl rfl) ?_
    refine zM (r := b true) rfl rfl rfl rfl rfl ?_
    iterate 7 (refine ROps.s rfl rfl rfl ?_)
    refine zL (r := b true) rfl rfl rfl (LOp.pick_true rfl rfl rfl) ?_
    refine zM (r := b true) rfl rfl rfl rfl rfl ?_
    iterate 7 (refine ROps.s rfl rfl rfl ?_)
    refine zL (r := b true) rfl rfl rfl (LOp.pick_true rfl rfl rfl) ?_
    refine zM (r := b true) rfl rfl rfl rfl rfl ?_
    iterate 5 (refine ROps.s rfl rfl rfl ?_)
    refine zL (r := b true) rfl rfl rfl (LOp.pick_true rfl rfl rfl) ?_
    refine zM (r := b true) rfl rfl rfl rfl rfl ?_
    iterate 4 (refine ROps.s rfl rfl rfl ?_)
    refine zL (r := b true) rfl rfl rfl (LOp.pick_true rfl rfl rfl) ?_
    refine zN ?_
    exact .inl ⟨(Le.of ⟨aR, aR, aR, aR, aR, aR, aR, aR, aR, trivial⟩ ⟨⟨rfl, .inr rfl⟩, ⟨rfl, .inr rfl⟩, ⟨rfl, .inr rfl⟩, ⟨rfl, .inr rfl⟩, ⟨rfl, .inr rfl⟩, ⟨rfl, .inl rfl⟩, ⟨rfl, .inl rfl⟩, ⟨rfl, .inl rfl⟩, ⟨rfl, .inl rfl⟩, ⟨rfl, .inr rfl⟩, trivial⟩), h⟩
  ·rintro τ17 Γ17 (⟨hw17, h⟩ | ⟨hw17, h⟩)
   ·refine RunC.le (τ' := [(1, sl a1.length (a1.map (ik .u8))), (5, optr 0 1 0), (6, i64 x6), (7, optr 1 1 0), (8, optr 2 1 0), (10, optr 3 1 0), (12, optr 4 1 0), (26, optr 9 1 0), (208, b true)]) (Γ' := [⟨1, some [i64 r2, i64 r3, sl r4.length (r4.map f32)]⟩, ⟨1, some [i64 r7, i64 r8, sl r9.length (r9.map f32)]⟩, ⟨1, some [i64 r10, i64 r11, sl r13.length (r13.map f32)]⟩, ⟨1, some [i64 r14, i64 r15, sl r17.length (r17.map f32)]⟩, ⟨1, some [i64 r20, i64 r21, sl r23.length (r23.map f32)]⟩, ⟨1, none⟩, ⟨2, none⟩, ⟨2, none⟩, ⟨1, none⟩, ⟨1, some [i64 r50, i64 r51, sl r53.length (r53.map f32)]⟩]) hw17 ?_
    unfold w_FnMatrices_k2 at h
    refine RunC.cond_true rfl rfl ?_
    refine zQ ?_
    refine zA (r := b false) rfl rfl rfl rfl rfl ?_
    refine zN ?_
    refine RunC.ret ?_
    have hq := Option.some.inj h
    subst q0
    exact bodyQ.pure (.inr rfl) rfl (Res.one rfl (RV.tmp rfl))
   ·refine RunC.le (τ' := [(1, sl a1.length (a1.map (ik .u8))), (5, optr 0 1 0), (6, i64 x6), (7, optr 1 1 0), (8, optr 2 1 0), (10, optr 3 1 0), (12, optr 4 1 0), (26, optr 9 1 0), (208, b false)]) (Γ' := [⟨1, some [i64 r2, i64 r3, sl r4.length (r4.map f32)]⟩, ⟨1, some [i64 r7, i64 r8, sl r9.length (r9.map f32)]⟩, ⟨1, some [i64 r10, i64 r11, sl r13.length (r13.map f32)]⟩, ⟨1, some [i64 r14, i64 r15, sl r17.length (r17.map f32)]⟩, ⟨1, some [i64 r20, i64 r21, sl r23.length (r23.map f32)]⟩, ⟨1, none⟩, ⟨2, none⟩, ⟨2, none⟩, ⟨1, none⟩, ⟨1, some [i64 r50, i64 r51, sl r53.length (r53.map f32)]⟩]) hw17 ?_
    unfold w_FnMatrices_k4 at h
    refine RunC.cond_false rfl rfl ?_
    refine RunC.skip ?_
    refine RunC.seq ?_
    refine zQ ?_
    refine zA (r := i64 0) rfl rfl rfl rfl rfl ?_
    refine zN ?_
    obtain ⟨z18, hz_18, h⟩ := obind_some h
    refine RunC.cutN (fun τ Γ => Le 761 τ Γ [(1, sl a1.length (a1.map (ik .u8))), (5, optr 0 1 0), (6, i64 x6), (7, optr 1 1 0), (8, optr 2 1 0), (26, optr 9 1 0)] [⟨1, some [i64 r2, i64 r3, sl r4.length (r4.map f32)]⟩, ⟨1, some [i64 r7, i64 r8, sl r9.length (r9.map f32)]⟩, ⟨1, some [i64 r10, i64 r11, sl r13.length (r13.map f32)]⟩, ⟨1, none⟩, ⟨1, none⟩, ⟨1, none⟩, ⟨2, none⟩, ⟨2, none⟩, ⟨1, none⟩, ⟨1, some [i64 r50, i64 r51, sl r53.length (r53.map f32)]⟩] ∧ z18 = .inl ()) ?_ ?_
    ·refine RunC.block (RunC.loop (RunL.loopM (x := z18) (w_FnMatrices_s5 r13 r17 r23) (fun (s : Int) τ Γ => Le 761 τ Γ [(1, sl a1.length (a1.map (ik .u8))), (5, optr 0 1 0), (6, i64 x6), (7, optr 1 1 0), (8, optr 2 1 0), (10, optr 3 1 0), (12, optr 4 1 0), (26, optr 9 1 0), (28, i64 s)] [⟨1, some [i64 r2, i64 r3, sl r4.length (r4.map f32)]⟩, ⟨1, some [i64 r7, i64 r8, sl r9.length (r9.map f32)]⟩, ⟨1, some [i64 r10, i64 r11, sl r13.length (r13.map f32)]⟩, ⟨1, some [i64 r14, i64 r15, sl r17.length (r17.map f32)]⟩, ⟨1, some [i64 r20, i64 r21, sl r23.length (r23.map f32)]⟩, ⟨1, none⟩, ⟨2, none⟩, ⟨2, none⟩, ⟨1, none⟩, ⟨1, some [i64 r50, i64 r51, sl r53.length (r53.map f32)]⟩]) ?_ _ _ _ hz_18 (Le.of ⟨aR, aR, aR, aR, aR, aR, aR, aR, aR, trivial⟩ ⟨⟨rfl, .inr rfl⟩, ⟨rfl, .inr rfl⟩, ⟨rfl, .inr rfl⟩, ⟨rfl, .inr rfl⟩, ⟨rfl, .inr rfl⟩, ⟨rfl, .inl rfl⟩, ⟨rfl, .inl rfl⟩, ⟨rfl, .inl rfl⟩, ⟨rfl, .inl rfl⟩, ⟨rfl, .inr rfl⟩, trivial⟩)))
     rintro v56 τ18 Γ18 y18_ hw18 h18_ ho18 hr18
     refine RunC.le (τ' := [(1, sl a1.length (a1.map (ik .u8))), (5, optr 0 1 0), (6, i64 x6), (7, optr 1 1 0), (8, optr 2 1 0), (10, optr 3 1 0), (12, optr 4 1 0), (26, optr 9 1 0), (28, i64 v56)]) (Γ' := [⟨1, some [i64 r2, i64 r3, sl r4.length (r4.map f32)]⟩, ⟨1, some [i64 r7, i64 r8, sl r9.length (r9.map f32)]⟩, ⟨1, some [i64 r10, i64 r11, sl r13.length (r13.map f32)]⟩, ⟨1, some [i64 r14, i64 r15, sl r17.length (r17.map f32)]⟩, ⟨1, some [i64 r20, i64 r21, sl r23.length (r23.map f32)]⟩, ⟨1, none⟩, ⟨2, none⟩, ⟨2, none⟩, ⟨1, none⟩, ⟨1, some [i64 r50, i64 r51, sl r53.length (r53.map f32)]⟩]) hw18 ?_
     replace h18_ : w_FnMatrices_b5 r13 r17 r23 v56 = some y18_ := h18_
     unfold w_FnMatrices_b5 at h18_
     iterate 2 (refine RunC.seq ?_)
     rcases bsel_some h18_ with ⟨hc40, h18_⟩ | ⟨hc40, h18_⟩
     ·refine RunC.regionW ?_
      refine zM (r := i64 v56) rfl rfl rfl rfl rfl ?_
      refine zL (r := optr 2 1 2) rfl rfl rfl (LOp.fao und26 rfl siz24 rfl rfl rfl) ?_
      refine ROps.d (r := sl r13.length (r13.map f32)) (fs := []) (Γ' := [⟨1, some [i64 r2, i64 r3, sl r4.length (r4.map f32)]⟩, ⟨1, some [i64 r7, i64 r8, sl r9.length (r9.map f32)]⟩, ⟨1, some [i64 r10, i64 r11, sl r13.length (r13.map f32)]⟩, ⟨1, some [i64 r14, i64 r15, sl r17.length (r17.map f32)]⟩, ⟨1, some [i64 r20, i64 r21, sl r23.length (r23.map f32)]⟩, ⟨1, none⟩, ⟨2, none⟩, ⟨2, none⟩, ⟨1, none⟩, ⟨1, some [i64 r50, i64 r51, sl r53.length (r53.map f32)]⟩]) rfl rfl rfl (TOp.load1_o rfl rfl agg24 rfl rfl) rfl ?_
      refine zL (r := i64 (r13.length : Int)) rfl rfl rfl (LOp.len_sl und24 rfl rfl) ?_
      refine zL (r := b true) rfl rfl rfl (LOp.eqb (LOp.lss rfl rfl rfl) hc40) ?_
      refine zN ?_
      refine RunC.cond_true rfl rfl ?_
      refine RunC.skip ?_
      refine RunC.seq ?_
      refine RunC.block ?_
      refine RunC.seq ?_
      obtain ⟨e57, he41, h18_⟩ := obind_some h18_
      obtain ⟨e58, he42, h18_⟩ := obind_some h18_
      rcases bsel_some h18_ with ⟨hc43, h18_⟩ | ⟨hc43, h18_⟩
      ·refine RunC.region_draw (Γ' := [⟨1, some [i64 r2, i64 r3, sl r4.length (r4.map f32)]⟩, ⟨1, some [i64 r7, i64 r8, sl r9.length (r9.map f32)]⟩, ⟨1, some [i64 r10, i64 r11, sl r13.length (r13.map f32)]⟩, ⟨1, some [i64 r14, i64 r15, sl r17.length (r17.map f32)]⟩, ⟨1, some [i64 r20, i64 r21, sl r23.length (r23.map f32)]⟩, ⟨1, none⟩, ⟨2, none⟩, ⟨2, none⟩, ⟨1, none⟩, ⟨1, some [i64 r50, i64 r51, sl r53.length (r53.map f32)]⟩]) 27 mixed 
        (TR.l (r := optr 3 1 2) rfl rfl (LOp.fao und26 rfl siz24 rfl rfl rfl) <|
        (TR.d (r := sl r17.length (r17.map f32)) (fs := []) rfl rfl (TOp.load1_o rfl rfl agg24 rfl rfl) <|
        (TR.l (r := i64 v56) rfl rfl (LOp.move rfl rfl) <|
        (TR.l (r := ptr [f32 e57]) rfl rfl (LOp.le (LOp.ix (f := f32) und24 siz36 rfl rfl rfl rfl he41) ALe.ptr) <|
        (TR.l (r := f32 e57) rfl rfl (LOp.load1 agg36 rfl rfl) <|
        (TR.l (r := optr 2 1 2) rfl rfl (LOp.fao und26 rfl siz24 rfl rfl rfl) <|
        (TR.d (r := sl r13.length (r13.map f32)) (fs := []) rfl rfl (TOp.load1_o rfl rfl agg24 rfl rfl) <|
        (TR.l (r := i64 v56) rfl rfl (LOp.move rfl rfl) <|
        (TR.l (r := ptr [f32 e58]) rfl rfl (LOp.le (LOp.ix (f := f32) und24 siz36 rfl rfl rfl rfl he42) ALe.ptr) <|
        (TR.l (r := f32 e58) rfl rfl (LOp.load1 agg36 rfl rfl) <|
        (TR.l (r := b true) rfl rfl (LOp.eqb (LOp.fne rfl (OpF.tmp rfl) (OpF.tmp rfl)) hc43) <|
        (TR.l (r := b true) rfl rfl (LOp.move rfl rfl) <|
        (TR.s rfl rfl <|
        (TR.s rfl rfl <|
        (TR.s rfl rfl <|
        (TR.s rfl rfl <|
        (TR.s rfl rfl <|
        (TR.s rfl rfl <|
        (TR.s rfl rfl <|
        (TR.s rfl rfl <|
        (TR.s rfl rfl <|
        (TR.s rfl rfl <|
        (TR.s rfl rfl <|
        (TR.s rfl rfl <|
        (TR.s rfl rfl <|
        (TR.s rfl rfl <|
        (TR.l (r := b true) rfl rfl (LOp.pick_true rfl rfl rfl) <|
        TR.nil))))))))))))))))))))))))))) rfl (by kernel_rfl) rfl fills_nil rfl ?_
       iterate 27 refine ROps.dropS ?_
       refine ROps.drop0 ?_
       refine zN ?_
       refine RunC.cond_true rfl rfl ?_
       refine zQ ?_
       refine zA (r := b false) rfl rfl rfl rfl rfl ?_
       refine zN ?_
       refine RunC.ret ?_
       cases Option.some.inj h18_
       have hx19_ := hr18 _ rfl
       subst hx19_
       have hq := Option.some.inj h
       subst q0
       exact bodyQ.pure (.inr rfl) rfl (Res.one rfl (RV.tmp rfl))
      ·obtain ⟨e59, he44, h18_⟩ := obind_some h18_
       obtain ⟨x60, hx45, h18_⟩ := olet_some h18_
       obtain ⟨e61, he46, h18_⟩ := obind_some h18_
       obtain ⟨x62, hx47, h18_⟩ := olet_some h18_
       obtain ⟨r63, hf48, h18_⟩ := obind_some h18_
       rcases bsel_some h18_ with ⟨hc49, h18_⟩ | ⟨hc49, h18_⟩
       ·refine RunC.region_draw (Γ' := [⟨1, some [i64 r2, i64 r3, sl r4.length (r4.map f32)]⟩, ⟨1, some [i64 r7, i64 r8, sl r9.length (r9.map f32)]⟩, ⟨1, some [i64 r10, i64 r11, sl r13.length (r13.map f32)]⟩, ⟨1, some [i64 r14, i64 r15, sl r17.length (r17.map f32)]⟩, ⟨1, some [i64 r20, i64 r21, sl r23.length (r23.map f32)]⟩, ⟨1, none⟩, ⟨2, none⟩, ⟨2, none⟩, ⟨1, none⟩, ⟨1, some [i64 r50, i64 r51, sl r53.length (r53.map f32)]⟩]) 27 mixed 
         (TR.l (r := optr 3 1 2) rfl rfl (LOp.fao und26 rfl siz24 rfl rfl rfl) <|
         (TR.d (r := sl r17.length (r17.map f32)) (fs := []) rfl rfl (TOp.load1_o rfl rfl agg24 rfl rfl) <|
         (TR.l (r := i64 v56) rfl rfl (LOp.move rfl rfl) <|
         (TR.l (r := ptr [f32 e57]) rfl rfl (LOp.le (LOp.ix (f := f32) und24 siz36 rfl rfl rfl rfl he41) ALe.ptr) <|
         (TR.l (r := f32 e57) rfl rfl (LOp.load1 agg36 rfl rfl) <|
         (TR.l (r := optr 2 1 2) rfl rfl (LOp.fao und26 rfl siz24 rfl rfl rfl) <|
         (TR.d (r := sl r13.length (r13.map f32)) (fs := []) rfl rfl (TOp.load1_o rfl rfl agg24 rfl rfl) <|
         (TR.l (r := i64 v56) rfl rfl (LOp.move rfl rfl) <|
         (TR.l (r := ptr [f32 e58]) rfl rfl (LOp.le (LOp.ix (f := f32) und24 siz36 rfl rfl rfl rfl he42) ALe.ptr) <|
         (TR.l (r := f32 e58) rfl rfl (LOp.load1 agg36 rfl rfl) <|
         (TR.l (r := b false) rfl rfl (LOp.eqb (LOp.fne rfl (OpF.tmp rfl) (OpF.tmp rfl)) hc43) <|
         (TR.l (r := b false) rfl rfl (LOp.move rfl rfl) <|
         (TR.l (r := optr 4 1 2) rfl rfl (LOp.fao und26 rfl siz24 rfl rfl rfl) <|
         (TR.d (r := sl r23.length (r23.map f32)) (fs := []) rfl rfl (TOp.load1_o rfl rfl agg24 rfl rfl) <|
         (TR.l (r := i64 v56) rfl rfl (LOp.move rfl rfl) <|
         (TR.l (r := ptr [f32 e59]) rfl rfl (LOp.le (LOp.ix (f := f32) und24 siz36 rfl rfl rfl rfl he44) ALe.ptr) <|
         (TR.l (r := f32 e59) rfl rfl (LOp.load1 agg36 rfl rfl) <|
         (TR.d (r := f64 x60) (fs := []) rfl rfl (TOp.eqr (TOp.widen (src := 36) (dst := 37) ⟨_, pun36⟩ pun37 rfl (OpF.tmp rfl)) (congrArg (f .f64) hx45)) <|
         (TR.l (r := optr 2 1 2) rfl rfl (LOp.fao und26 rfl siz24 rfl rfl rfl) <|
         (TR.d (r := sl r13.length (r13.map f32)) (fs := []) rfl rfl (TOp.load1_o rfl rfl agg24 rfl rfl) <|
         (TR.l (r := i64 v56) rfl rfl (LOp.move rfl rfl) <|
         (TR.l (r := ptr [f32 e61]) rfl rfl (LOp.le (LOp.ix (f := f32) und24 siz36 rfl rfl rfl rfl he46) ALe.ptr) <|
         (TR.l (r := f32 e61) rfl rfl (LOp.load1 agg36 rfl rfl) <|
         (TR.d (r := f64 x62) (fs := []) rfl rfl (TOp.eqr (TOp.widen (src := 36) (dst := 37) ⟨_, pun36⟩ pun37 rfl (OpF.tmp rfl)) (congrArg (f .f64) hx47)) <|
         (TR.d (r := f64 r63) (fs := []) rfl rfl (TOp.callB (CallAs.func ent17 rfl rfl) (Bors.cons (Bor.pure rfl) (Bors.cons (Bor.pure rfl) Bors.nil)) rfl rfl (w_r8Gap_ok x60 x62 r63 hf48)) <|
         (TR.l (r := b true) rfl rfl (LOp.eqb (LOp.fgt rfl (OpF.tmp rfl) (OpF.const rfl (by kernel_rfl) (by kernel_rfl))) hc49) <|
         (TR.l (r := b true) rfl rfl (LOp.pick_false rfl rfl rfl) <|
         TR.nil))))))))))))))))))))))))))) rfl (by kernel_rfl) rfl fills_nil rfl ?_
        iterate 27 refine ROps.dropS ?_
        refine ROps.drop0 ?_
        refine zN ?_
        refine RunC.cond_true rfl rfl ?_
        refine zQ ?_
        refine zA (r := b false) rfl rfl rfl rfl rfl ?_
        refine zN ?_
        refine RunC.ret ?_
        cases Option.some.inj h18_
        have hx20_ := hr18 _ rfl
        subst hx20_
        have hq := Option.some.inj h
        subst q0
        exact bodyQ.pure (.inr rfl) rfl (Res.one rfl (RV.tmp rfl))
       ·refine RunC.region_draw (Γ' := [⟨1, some [i64 r2, i64 r3, sl r4.length (r4.map f32)]⟩, ⟨1, some [i64 r7, i64 r8, sl r9.length (r9.map f32)]⟩, ⟨1, some [i64 r10, i64 r11, sl r13.length (r13.map f32)]⟩, ⟨1, some [i64 r14, i64 r15, sl r17.length (r17.map f32)]⟩, ⟨1, some [i64 r20, i64 r21, sl r23.length (r23.map f32)]⟩, ⟨1, none⟩, ⟨2, none⟩, ⟨2, none⟩, ⟨1, none⟩, ⟨1, some [i64 r50, i64 r51, sl r53.length (r53.map f32)]⟩]) 27 mixed 
         (TR.l (r := optr 3 1 2) rfl rfl (LOp.fao und26 rfl siz24 rfl rfl rfl) <|
         (TR.d (r := sl r17.length (r17.map f32)) (fs := []) rfl rfl (TOp.load1_o rfl rfl agg24 rfl rfl) <|
         (TR.l (r := i64 v56) rfl rfl (LOp.move rfl rfl) <|
         (TR.l (r := ptr [f32 e57]) rfl rfl (LOp.le (LOp.ix (f := f32) und24 siz36 rfl rfl rfl rfl he41) ALe.ptr) <|
         (TR.l (r := f32 e57) rfl rfl (LOp.load1 agg36 rfl rfl) <|
         (TR.l (r := optr 2 1 2) rfl rfl (LOp.fao und26 rfl siz24 rfl rfl rfl) <|
         (TR.d (r := sl r13.length (r13.map f32)) (fs := []) rfl rfl (TOp.load1_o rfl rfl agg24 rfl rfl) <|
         (TR.l (r := i64 v56) rfl rfl (LOp.move rfl rfl) <|
         (TR.l (r := ptr [f32 e58]) rfl rfl (LOp.le (LOp.ix (f := f32) und24 siz36 rfl rfl rfl rfl he42) ALe.ptr) <|
         (TR.l (r := f32 e58) rfl rfl (LOp.load1 agg36 rfl rfl) <|
         (TR.l (r := b false) rfl rfl (LOp.eqb (LOp.fne rfl (OpF.tmp rfl) (OpF.tmp rfl)) hc43) <|
         (TR.l (r := b false) rfl rfl (LOp.move rfl rfl) <|
         (TR.l (r := optr 4 1 2) rfl rfl (LOp.fao und26 rfl siz24 rfl rfl rfl) <|
         (TR.d (r := sl r23.length (r23.map f32)) (fs := []) rfl rfl (TOp.load1_o rfl rfl agg24 rfl rfl) <|
         (TR.l (r := i64 v56) rfl rfl (LOp.move rfl rfl) <|
         (TR.l (r := ptr [f32 e59]) rfl rfl (LOp.le (LOp.ix (f := f32) und24 siz36 rfl rfl rfl rfl he44) ALe.ptr) <|
         (TR.l (r := f32 e59) rfl rfl (LOp.load1 agg36 rfl rfl) <|
         (TR.d (r := f64 x60) (fs := []) rfl rfl (TOp.eqr (TOp.widen (src := 36) (dst := 37) ⟨_, pun36⟩ pun37 rfl (OpF.tmp rfl)) (congrArg (f .f64) hx45)) <|
         (TR.l (r := optr 2 1 2) rfl rfl (LOp.fao und26 rfl siz24 rfl rfl rfl) <|
         (TR.d (r := sl r13.length (r13.map f32)) (fs := []) rfl rfl (TOp.load1_o rfl rfl agg24 rfl rfl) <|
         (TR.l (r := i64 v56) rfl rfl (LOp.move rfl rfl) <|
         (TR.l (r := ptr [f32 e61]) rfl rfl (LOp.le (LOp.ix (f := f32) und24 siz36 rfl rfl rfl rfl he46) ALe.ptr) <|
         (TR.l (r := f32 e61) rfl rfl (LOp.load1 agg36 rfl rfl) <|
         (TR.d (r := f64 x62) (fs := []) rfl rfl (TOp.eqr (TOp.widen (src := 36) (dst := 37) ⟨_, pun36⟩ pun37 rfl (OpF.tmp rfl)) (congrArg (f .f64) hx47)) <|
         (TR.d (r := f64 r63) (fs := []) rfl rfl (TOp.callB (CallAs.func ent17 rfl rfl) (Bors.cons (Bor.pure rfl) (Bors.cons (Bor.pure rfl) Bors.nil)) rfl rfl (w_r8Gap_ok x60 x62 r63 hf48)) <|
         (TR.l (r := b false) rfl rfl (LOp.eqb (LOp.fgt rfl (OpF.tmp rfl) (OpF.const rfl (by kernel_rfl) (by kernel_rfl))) hc49) <|
         (TR.l (r := b false) rfl rfl (LOp.pick_false rfl rfl rfl) <|
         TR.nil))))))))))))))))))))))))))) rfl (by kernel_rfl) rfl fills_nil rfl ?_
        iterate 27 refine ROps.dropS ?_
        refine ROps.drop0 ?_
        refine zN ?_
        refine RunC.cond_false rfl rfl ?_
        refine RunC.skip ?_
        obtain ⟨x64, hx50, h18_⟩ := olet_some h18_
        refine RunC.regionW ?_
        refine zM (r := i64 v56) rfl rfl rfl rfl rfl ?_
        refine zL (r := i64 x64) rfl rfl rfl (LOp.eqr (LOp.add rfl rfl rfl) (congrArg (ik .i64) hx50)) ?_
        refine zA (r := i64 x64) rfl rfl rfl rfl rfl ?_
        refine zN ?_
        cases Option.some.inj h18_
        exact ⟨_, rfl, (Le.of ⟨aR, aR, aR, aR, aR, aR, aR, aR, aR, trivial⟩ ⟨⟨rfl, .inr rfl⟩, ⟨rfl, .inr rfl⟩, ⟨rfl, .inr rfl⟩, ⟨rfl, .inr rfl⟩, ⟨rfl, .inr rfl⟩, ⟨rfl, .inl rfl⟩, ⟨rfl, .inl rfl⟩, ⟨rfl, .inl rfl⟩, ⟨rfl, .inl rfl⟩, ⟨rfl, .inr rfl⟩, trivial⟩)⟩
     ·refine RunC.regionW ?_
      refine zM (r := i64 v56) rfl rfl rfl rfl rfl ?_
      refine zL (r := optr 2 1 2) rfl rfl rfl (LOp.fao und26 rfl siz24 rfl rfl rfl) ?_
      refine ROps.d (r := sl r13.length (r13.map f32)) (fs := []) (Γ' := [⟨1, some [i64 r2, i64 r3, sl r4.length (r4.map f32)]⟩, ⟨1, some [i64 r7, i64 r8, sl r9.length (r9.map f32)]⟩, ⟨1, some [i64 r10, i64 r11, sl r13.length (r13.map f32)]⟩, ⟨1, some [i64 r14, i64 r15, sl r17.length (r17.map f32)]⟩, ⟨1, some [i64 r20, i64 r21, sl r23.length (r23.map f32)]⟩, ⟨1, none⟩, ⟨2, none⟩, ⟨2, none⟩, ⟨1, none⟩, ⟨1, some [i64 r50, i64 r51, sl r53.length (r53.map f32)]⟩]) rfl rfl rfl (TOp.load1_o rfl rfl agg24 rfl rfl) rfl ?_
      refine zL (r := i64 (r13.length : Int)) rfl rfl rfl (LOp.len_sl und24 rfl rfl) ?_
      refine zL (r := b false) rfl rfl rfl (LOp.eqb (LOp.lss rfl rfl rfl) hc40) ?_
      refine zN ?_
      refine RunC.cond_false rfl rfl ?_
      refine RunC.exit ?_
      cases Option.some.inj h18_
      have hx := ho18 _ rfl
      exact ⟨(Le.of ⟨aR, aR, aR, aR, aR, aR, trivial⟩ ⟨⟨rfl, .inr rfl⟩, ⟨rfl, .inr rfl⟩, ⟨rfl, .inr rfl⟩, ⟨rfl, .inl rfl⟩, ⟨rfl, .inl rfl⟩, ⟨rfl, .inl rfl⟩, ⟨rfl, .inl rfl⟩, ⟨rfl, .inl rfl⟩, ⟨rfl, .inl rfl⟩, ⟨rfl, .inr rfl⟩, trivial⟩), hx⟩
    ·rintro τ21 Γ21 ⟨hw21, rfl⟩
     refine RunC.le hw21 ?_
     replace h : w_FnMatrices_k5 a1 r2 r3 r4 x6 r9 r13 r53 = some q0 := h
     unfold w_FnMatrices_k5 at h
     refine RunC.seq ?_
     refine zQ ?_
     refine zA (r := i64 0) rfl rfl rfl rfl rfl ?_
     refine zN ?_
     obtain ⟨z22, hz_22, h⟩ := obind_some h
     refine RunC.cutN (fun τ Γ => Le 761 τ Γ [(1, sl a1.length (a1.map (ik .u8))), (5, optr 0 1 0), (6, i64 x6), (7, optr 1 1 0), (8, optr 2 1 0)] [⟨1, some [i64 r2, i64 r3, sl r4.length (r4.map f32)]⟩, ⟨1, some [i64 r7, i64 r8, sl r9.length (r9.map f32)]⟩, ⟨1, some [i64 r10, i64 r11, sl r13.length (r13.map f32)]⟩, ⟨1, none⟩, ⟨1, none⟩, ⟨1, none⟩, ⟨2, none⟩, ⟨2, none⟩, ⟨1, none⟩, ⟨1, none⟩] ∧ z22 = .inl ()) ?_ ?_
     ·refine RunC.block (RunC.loop (RunL.loopM (x := z22) (w_FnMatrices_s6 r4 r53) (fun (s : Int) τ Γ => Le 761 τ Γ [(1, sl a1.length (a1.map (ik .u8))), (5, optr 0 1 0), (6, i64 x6), (7, optr 1 1 0), (8, optr 2 1 0), (26, optr 9 1 0), (29, i64 s)] [⟨1, some [i64 r2, i64 r3, sl r4.length (r4.map f32)]⟩, ⟨1, some [i64 r7, i64 r8, sl r9.length (r9.map f32)]⟩, ⟨1, some [i64 r10, i64 r11, sl r13.length (r13.map f32)]⟩, ⟨1, none⟩, ⟨1, none⟩, ⟨1, none⟩, ⟨2, none⟩, ⟨2, none⟩, ⟨1, none⟩, ⟨1, some [i64 r50, i64 r51, sl r53.length (r53.map f32)]⟩]) ?_ _ _ _ hz_22 (Le.of ⟨aR, aR, aR, aR, aR, aR, aR, trivial⟩ ⟨⟨rfl, .inr rfl⟩, ⟨rfl, .inr rfl⟩, ⟨rfl, .inr rfl⟩, ⟨rfl, .inl rfl⟩, ⟨rfl, .inl rfl⟩, ⟨rfl, .inl rfl⟩, ⟨rfl, .inl rfl⟩, ⟨rfl, .inl rfl⟩, ⟨rfl, .inl rfl⟩, ⟨rfl, .inr rfl⟩, trivial⟩)))
      rintro v65 τ22 Γ22 y22_ hw22 h22_ ho22 hr22
      refine RunC.le (τ' := [(1, sl a1.length (a1.map (ik .u8))), (5, optr 0 1 0), (6, i64 x6), (7, optr 1 1 0), (8, optr 2 1 0), (26, optr 9 1 0), (29, i64 v65)]) (Γ' := [⟨1, some [i64 r2, i64 r3, sl r4.length (r4.map f32)]⟩, ⟨1, some [i64 r7, i64 r8, sl r9.length (r9.map f32)]⟩, ⟨1, some [i64 r10, i64 r11, sl r13.length (r13.map f32)]⟩, ⟨1, none⟩, ⟨1, none⟩, ⟨1, none⟩, ⟨2, none⟩, ⟨2, none⟩, ⟨1, none⟩, ⟨1, some [i64 r50, i64 r51, sl r53.length (r53.map f32)]⟩]) hw22 ?_
      replace h22_ : w_FnMatrices_b6 r4 r53 v65 = some y22_ := h22_
      unfold w_FnMatrices_b6 at h22_
      iterate 2 (refine RunC.seq ?_)
      rcases bsel_some h22_ with ⟨hc51, h22_⟩ | ⟨hc51, h22_⟩
      ·refine RunC.regionW ?_
       refine zM (r := i64 v65) rfl rfl rfl rfl rfl ?_
       refine zL (r := optr 0 1 2) rfl rfl rfl (LOp.fao und26 rfl siz24 rfl rfl rfl) ?_
       refine ROps.d (r := sl r4.length (r4.map f32)) (fs := []) (Γ' := [⟨1, some [i64 r2, i64 r3, sl r4.length (r4.map f32)]⟩, ⟨1, some [i64 r7, i64 r8, sl r9.length (r9.map f32)]⟩, ⟨1, some [i64 r10, i64 r11, sl r13.length (r13.map f32)]⟩, ⟨1, none⟩, ⟨1, none⟩, ⟨1, none⟩, ⟨2, none⟩, ⟨2, none⟩, ⟨1, none⟩, ⟨1, some [i64 r50, i64 r51, sl r53.length (r53.map f32)]⟩]) rfl rfl rfl (TOp.load1_o rfl rfl agg24 rfl rfl) rfl ?_
       refine zL (r := i64 (r4.length : Int)) rfl rfl rfl (LOp.len_sl und24 rfl rfl) ?_
       refine zL (r := b true) rfl rfl rfl (LOp.eqb (LOp.lss rfl rfl rfl) hc51) ?_
       refine zN ?_
       refine RunC.cond_true rfl rfl ?_
       refine RunC.skip ?_
       refine RunC.seq ?_
       refine RunC.block ?_
       refine RunC.seq ?_
       obtain ⟨e66, he52, h22_⟩ := obind_some h22_
       obtain ⟨e67, he53, h22_⟩ := obind_some h22_
       rcases bsel_some h22_ with ⟨hc54, h22_⟩ | ⟨hc54, h22_⟩
       ·refine RunC.region_draw (Γ' := [⟨1, some [i64 r2, i64 r3, sl r4.length (r4.map f32)]⟩, ⟨1, some [i64 r7, i64 r8, sl r9.length (r9.map f32)]⟩, ⟨1, some [i64 r10, i64 r11, sl r13.length (r13.map f32)]⟩, ⟨1, none⟩, ⟨1, none⟩, ⟨1, none⟩, ⟨2, none⟩, ⟨2, none⟩, ⟨1, none⟩, ⟨1, some [i64 r50, i64 r51, sl r53.length (r53.map f32)]⟩]) 11 mixed 
         (TR.l (r := optr 9 1 2) rfl rfl (LOp.fao und26 rfl siz24 rfl rfl rfl) <|
         (TR.d (r := sl r53.length (r53.map f32)) (fs := []) rfl rfl (TOp.load1_o rfl rfl agg24 rfl rfl) <|
         (TR.l (r := i64 v65) rfl rfl (LOp.move rfl rfl) <|
         (TR.l (r := ptr [f32 e66]) rfl rfl (LOp.le (LOp.ix (f := f32) und24 siz36 rfl rfl rfl rfl he52) ALe.ptr) <|
         (TR.l (r := f32 e66) rfl rfl (LOp.load1 agg36 rfl rfl) <|
         (TR.l (r := optr 0 1 2) rfl rfl (LOp.fao und26 rfl siz24 rfl rfl rfl) <|
         (TR.d (r := sl r4.length (r4.map f32)) (fs := []) rfl rfl (TOp.load1_o rfl rfl agg24 rfl rfl) <|
         (TR.l (r := i64 v65) rfl rfl (LOp.move rfl rfl) <|
         (TR.l (r := ptr [f32 e67]) rfl rfl (LOp.le (LOp.ix (f := f32) und24 siz36 rfl rfl rfl rfl he53) ALe.ptr) <|
         (TR.l (r := f32 e67) rfl rfl (LOp.load1 agg36 rfl rfl) <|
         (TR.l (r := b true) rfl rfl (LOp.eqb (LOp.fne rfl (OpF.tmp rfl) (OpF.tmp rfl)) hc54) <|
         TR.nil))))))))))) rfl (by kernel_rfl) rfl fills_nil rfl ?_
        iterate 11 refine ROps.dropS ?_
        refine ROps.drop0 ?_
        refine zN ?_
        refine RunC.cond_true rfl rfl ?_
        refine zQ ?_
        refine zA (r := b false) rfl rfl rfl rfl rfl ?_
        refine zN ?_
        refine RunC.ret ?_
        cases Option.some.inj h22_
        have hx23_ := hr22 _ rfl
        subst hx23_
        have hq := Option.some.inj h
        subst q0
        exact bodyQ.pure (.inr rfl) rfl (Res.one rfl (RV.tmp rfl))
       ·refine RunC.region_draw (Γ' := [⟨1, some [i64 r2, i64 r3, sl r4.length (r4.map f32)]⟩, ⟨1, some [i64 r7, i64 r8, sl r9.length (r9.map f32)]⟩, ⟨1, some [i64 r10, i64 r11, sl r13.length (r13.map f32)]⟩, ⟨1, none⟩, ⟨1, none⟩, ⟨1, none⟩, ⟨2, none⟩, ⟨2, none⟩, ⟨1, none⟩, ⟨1, some [i64 r50, i64 r51, sl r53.length (r53.map f32)]⟩]) 11 mixed 
         (TR.l (r := optr 9 1 2) rfl rfl (LOp.fao und26 rfl siz24 rfl rfl rfl) <|
         (TR.d (r := sl r53.length (r53.map f32)) (fs := []) rfl rfl (TOp.load1_o rfl rfl agg24 rfl rfl) <|
         (TR.l (r := i64 v65) rfl rfl (LOp.move rfl rfl) <|
         (TR.l (r := ptr [f32 e66]) rfl rfl (LOp.le (LOp.ix (f := f32) und24 siz36 rfl rfl rfl rfl he52) ALe.ptr) <|
         (TR.l (r := f32 e66) rfl rfl (LOp.load1 agg36 rfl rfl) <|
         (TR.l (r := optr 0 1 2) rfl rfl (LOp.fao und26 rfl siz24 rfl rfl rfl) <|
         (TR.d (r := sl r4.length (r4.map f32)) (fs := []) rfl rfl (TOp.load1_o rfl rfl agg24 rfl rfl) <|
         (TR.l (r := i64 v65) rfl rfl (LOp.move rfl rfl) <|
         (TR.l (r := ptr [f32 e67]) rfl rfl (LOp.le (LOp.ix (f := f32) und24 siz36 rfl rfl rfl rfl he53) ALe.ptr) <|
         (TR.l (r := f32 e67) rfl rfl (LOp.load1 agg36 rfl rfl) <|
         (TR.l (r := b false) rfl rfl (LOp.eqb (LOp.fne rfl (OpF.tmp rfl) (OpF.tmp rfl)) hc54) <|
         TR.nil))))))))))) rfl (by kernel_rfl) rfl fills_nil rfl ?_
        iterate 11 refine ROps.dropS ?_
        refine ROps.drop0 ?_
        refine zN ?_
        refine RunC.cond_false rfl rfl ?_
        refine RunC.skip ?_
        obtain ⟨x68, hx55, h22_⟩ := olet_some h22_
        refine RunC.regionW ?_
        refine zM (r := i64 v65) rfl rfl rfl rfl rfl ?_
        refine zL (r := i64 x68) rfl rfl rfl (LOp.eqr (LOp.add rfl rfl rfl) (congrArg (ik .i64) hx55)) ?_
        refine zA (r := i64 x68) rfl rfl rfl rfl rfl ?_
        refine zN ?_
        cases Option.some.inj h22_
        exact ⟨_, rfl, (Le.of ⟨aR, aR, aR, aR, aR, aR, aR, trivial⟩ ⟨⟨rfl, .inr rfl⟩, ⟨rfl, .inr rfl⟩, ⟨rfl, .inr rfl⟩, ⟨rfl, .inl rfl⟩, ⟨rfl, .inl rfl⟩, ⟨rfl, .inl rfl⟩, ⟨rfl, .inl rfl⟩, ⟨rfl, .inl rfl⟩, ⟨rfl, .inl rfl⟩, ⟨rfl, .inr rfl⟩, trivial⟩)⟩
      ·refine RunC.regionW ?_
       refine zM (r := i64 v65) rfl rfl rfl rfl rfl ?_
       refine zL (r := optr 0 1 2) rfl rfl rfl (LOp.fao und26 rfl siz24 rfl rfl rfl) ?_
       refine ROps.d (r := sl r4.length (r4.map f32)) (fs := []) (Γ' := [⟨1, some [i64 r2, i64 r3, sl r4.length (r4.map f32)]⟩, ⟨1, some [i64 r7, i64 r8, sl r9.length (r9.map f32)]⟩, ⟨1, some [i64 r10, i64 r11, sl r13.length (r13.map f32)]⟩, ⟨1, none⟩, ⟨1, none⟩, ⟨1, none⟩, ⟨2, none⟩, ⟨2, none⟩, ⟨1, none⟩, ⟨1, some [i64 r50, i64 r51, sl r53.length (r53.map f32)]⟩]) rfl rfl rfl (TOp.load1_o rfl rfl agg24 rfl rfl) rfl ?_
       refine zL (r := i64 (r4.length : Int)) rfl rfl rfl (LOp.len_sl und24 rfl rfl) ?_
       refine zL (r := b false) rfl rfl rfl (LOp.eqb (LOp.lss rfl rfl rfl) hc51) ?_
       refine zN ?_
       refine RunC.cond_false rfl rfl ?_
       refine RunC.exit ?_
       cases Option.some.inj h22_
       have hx := ho22 _ rfl
       exact ⟨(Le.of ⟨aR, aR, aR, aR, aR, trivial⟩ ⟨⟨rfl, .inr rfl⟩, ⟨rfl, .inr rfl⟩, ⟨rfl, .inr rfl⟩, ⟨rfl, .inl rfl⟩, ⟨rfl, .inl rfl⟩, ⟨rfl, .inl rfl⟩, ⟨rfl, .inl rfl⟩, ⟨rfl, .inl rfl⟩, ⟨rfl, .inl rfl⟩, ⟨rfl, .inl rfl⟩, trivial⟩), hx⟩
     ·rintro τ24 Γ24 ⟨hw24, rfl⟩
      refine RunC.le hw24 ?_
      replace h : w_FnMatrices_k6 a1 r2 r3 r4 x6 r9 r13 = some q0 := h
      unfold w_FnMatrices_k6 at h
      refine zQ ?_
      refine ROps.d (r := oref 3 2 0 0) (fs := [(3, (([] : List F).map f32))]) (Γ' := [⟨1, some [i64 r2, i64 r3, sl r4.length (r4.map f32)]⟩, ⟨1, some [i64 r7, i64 r8, sl r9.length (r9.map f32)]⟩, ⟨1, some [i64 r10, i64 r11, sl r13.length (r13.map f32)]⟩, ⟨2, some (([] : List F).map f32)⟩, ⟨1, none⟩, ⟨1, none⟩, ⟨2, none⟩, ⟨2, none⟩, ⟨1, none⟩, ⟨1, none⟩]) rfl rfl rfl (TOp.buildSlice_o (g := ⟨1, none⟩) (za := f32 (some 0)) (qs := []) 3 rfl und24 siz36 zer36 rfl zel36 rfl rfl trivial rfl) rfl ?_
      refine zA (r := oref 3 2 0 0) rfl rfl rfl rfl rfl ?_
      refine zN ?_
      refine RunC.seq ?_
      refine zQ ?_
      refine zA (r := i64 0) rfl rfl rfl rfl rfl ?_
      refine zN ?_
      obtain ⟨z25, hz_25, h⟩ := obind_some h
      refine RunC.cutN (fun τ Γ => ∃ (L78 : List F) (u76 : Nat) (u77 : Nat), Le 761 τ Γ [(1, sl a1.length (a1.map (ik .u8))), (5, optr 0 1 0), (6, i64 x6), (8, optr 2 1 0), (30, oref 3 u76 0 L78.length)] [⟨1, some [i64 r2, i64 r3, sl r4.length (r4.map f32)]⟩, ⟨1, none⟩, ⟨1, some [i64 r10, i64 r11, sl r13.length (r13.map f32)]⟩, ⟨u76, some (L78.map f32)⟩, ⟨u77, none⟩, ⟨1, none⟩, ⟨2, none⟩, ⟨2, none⟩, ⟨1, none⟩, ⟨1, none⟩] ∧ z25 = .inl L78) ?_ ?_
      ·refine RunC.block (RunC.loop (RunL.loopM (x := z25) (w_FnMatrices_s7 r3 x6 r9) (fun (s : (List F) × Int) τ Γ => ∃ (u69 : Nat) (u70 : Nat), Le 761 τ Γ [(1, sl a1.length (a1.map (ik .u8))), (5, optr 0 1 0), (6, i64 x6), (7, optr 1 1 0), (8, optr 2 1 0), (30, oref 3 u69 0 s.1.length), (31, i64 s.2)] [⟨1, some [i64 r2, i64 r3, sl r4.length (r4.map f32)]⟩, ⟨1, some [i64 r7, i64 r8, sl r9.length (r9.map f32)]⟩, ⟨1, some [i64 r10, i64 r11, sl r13.length (r13.map f32)]⟩, ⟨u69, some (s.1.map f32)⟩, ⟨u70, none⟩, ⟨1, none⟩, ⟨2, none⟩, ⟨2, none⟩, ⟨1, none⟩, ⟨1, none⟩]) ?_ _ _ _ hz_25 ⟨2, 1, (Le.of ⟨aR, aR, aR, aR, aR, aR, aR, trivial⟩ ⟨⟨rfl, .inr rfl⟩, ⟨rfl, .inr rfl⟩, ⟨rfl, .inr rfl⟩, ⟨rfl, .inr rfl⟩, ⟨rfl, .inl rfl⟩, ⟨rfl, .inl rfl⟩, ⟨rfl, .inl rfl⟩, ⟨rfl, .inl rfl⟩, ⟨rfl, .inl rfl⟩, ⟨rfl, .inl rfl⟩, trivial⟩)⟩))
       rintro ⟨L71, v72⟩ τ25 Γ25 y25_ ⟨u69, u70, hw25⟩ h25_ ho25 hr25
       refine RunC.le (τ' := [(1, sl a1.length (a1.map (ik .u8))), (5, optr 0 1 0), (6, i64 x6), (7, optr 1 1 0), (8, optr 2 1 0), (30, oref 3 u69 0 L71.length), (31, i64 v72)]) (Γ' := [⟨1, some [i64 r2, i64 r3, sl r4.length (r4.map f32)]⟩, ⟨1, some [i64 r7, i64 r8, sl r9.length (r9.map f32)]⟩, ⟨1, some [i64 r10, i64 r11, sl r13.length (r13.map f32)]⟩, ⟨u69, some (L71.map f32)⟩, ⟨u70, none⟩, ⟨1, none⟩, ⟨2, none⟩, ⟨2, none⟩, ⟨1, none⟩, ⟨1, none⟩]) hw25 ?_
       replace h25_ : w_FnMatrices_b7 r3 x6 r9 L71 v72 = some y25_ := h25_
       unfold w_FnMatrices_b7 at h25_
       iterate 2 (refine RunC.seq ?_)
       rcases bsel_some h25_ with ⟨hc56, h25_⟩ | ⟨hc56, h25_⟩
       ·refine RunC.regionW ?_
        refine zM (r := i64 v72) rfl rfl rfl rfl rfl ?_
        refine zL (r := optr 0 1 1) rfl rfl rfl (LOp.fao und26 rfl siz2 rfl rfl rfl) ?_
        refine ROps.d (r := i64 r3) (fs := []) (Γ' := [⟨1, some [i64 r2, i64 r3, sl r4.length (r4.map f32)]⟩, ⟨1, some [i64 r7, i64 r8, sl r9.length (r9.map f32)]⟩, ⟨1, some [i64 r10, i64 r11, sl r13.length (r13.map f32)]⟩, ⟨u69, some (L71.map f32)⟩, ⟨u70, none⟩, ⟨1, none⟩, ⟨2, none⟩, ⟨2, none⟩, ⟨1, none⟩, ⟨1, none⟩]) rfl rfl rfl (TOp.load1_o rfl rfl agg2 rfl rfl) rfl ?_
        refine zL (r := b true) rfl rfl rfl (LOp.eqb (LOp.lss rfl rfl rfl) hc56) ?_
        refine zN ?_
        refine RunC.cond_true rfl rfl ?_
        refine RunC.skip ?_
        refine RunC.seq ?_
        refine RunC.block ?_
        obtain ⟨x73, hx57, h25_⟩ := olet_some h25_
        obtain ⟨e74, he58, h25_⟩ := obind_some h25_
        obtain ⟨hm59, h25_⟩ := need_some h25_
        refine RunC.regionW ?_
        refine zM (r := oref 3 u69 0 L71.length) rfl rfl rfl rfl rfl ?_
        refine zL (r := optr 1 1 2) rfl rfl rfl (LOp.fao und26 rfl siz24 rfl rfl rfl) ?_
        refine ROps.d (r := sl r9.length (r9.map f32)) (fs := []) (Γ' := [⟨1, some [i64 r2, i64 r3, sl r4.length (r4.map f32)]⟩, ⟨1, some [i64 r7, i64 r8, sl r9.length (r9.map f32)]⟩, ⟨1, some [i64 r10, i64 r11, sl r13.length (r13.map f32)]⟩, ⟨u69, some (L71.map f32)⟩, ⟨u70, none⟩, ⟨1, none⟩, ⟨2, none⟩, ⟨2, none⟩, ⟨1, none⟩, ⟨1, none⟩]) rfl rfl rfl (TOp.load1_o rfl rfl agg24 rfl rfl) rfl ?_
        refine zM (r := i64 v72) rfl rfl rfl rfl rfl ?_
        refine zM (r := i64 x6) rfl rfl rfl rfl rfl ?_
        refine zL (r := i64 x73) rfl rfl rfl (LOp.eqr (LOp.mul rfl rfl rfl) (congrArg (ik .i64) hx57)) ?_
        refine zL (r := ptr [f32 e74]) rfl rfl rfl (LOp.le (LOp.ix (f := f32) und24 siz36 rfl rfl rfl rfl he58) ALe.ptr) ?_
        refine zL (r := f32 e74) rfl rfl rfl (LOp.load1 agg36 rfl rfl) ?_
        refine ROps.d (r := oref 4 (u70 + 1) 0 1) (fs := [(4, (([e74] : List F).map f32))]) (Γ' := [⟨1, some [i64 r2, i64 r3, sl r4.length (r4.map f32)]⟩, ⟨1, some [i64 r7, i64 r8, sl r9.length (r9.map f32)]⟩, ⟨1, some [i64 r10, i64 r11, sl r13.length (r13.map f32)]⟩, ⟨u69, some (L71.map f32)⟩, ⟨(u70 + 1), some (([e74] : List F).map f32)⟩, ⟨1, none⟩, ⟨2, none⟩, ⟨2, none⟩, ⟨1, none⟩, ⟨1, none⟩]) rfl rfl rfl (TOp.buildSlice_o (g := ⟨u70, none⟩) (za := f32 (some 0)) (qs := [(0, [f32 e74])]) 4 rfl und24 siz36 zer36 rfl zel36 rfl rfl ⟨rfl, ⟨_, ALe.refl _, rfl⟩, trivial⟩ rfl) rfl ?_
        refine ROps.app (f := f32) (xs := L71) (ys := ([e74] : List F)) (Γ' := [⟨1, some [i64 r2, i64 r3, sl r4.length (r4.map f32)]⟩, ⟨1, some [i64 r7, i64 r8, sl r9.length (r9.map f32)]⟩, ⟨1, some [i64 r10, i64 r11, sl r13.length (r13.map f32)]⟩, ⟨(u69 + 1), some ((L71 ++ ([e74] : List F)).map f32)⟩, ⟨(u70 + 1), some (([e74] : List F).map f32)⟩, ⟨1, none⟩, ⟨2, none⟩, ⟨2, none⟩, ⟨1, none⟩, ⟨1, none⟩]) rfl pun24 inf36 rfl rfl rfl rfl rfl rfl rfl rfl rfl (by simp) (ReadAs.own rfl (by simp)) (ones_map (fun _ => rfl)) (ap_by hm59) (ap_mx hm59) rfl ?_
        refine zA (r := oref 3 (u69 + 1) 0 (L71.length + 1)) rfl rfl rfl rfl rfl ?_
        refine zN ?_
        refine RunC.wl (τ' := [(1, sl a1.length (a1.map (ik .u8))), (5, optr 0 1 0), (6, i64 x6), (7, optr 1 1 0), (8, optr 2 1 0), (30, oref 3 (u69 + 1) 0 (L71.length + 1)), (31, i64 v72)]) (Γ' := [⟨1, some [i64 r2, i64 r3, sl r4.length (r4.map f32)]⟩, ⟨1, some [i64 r7, i64 r8, sl r9.length (r9.map f32)]⟩, ⟨1, some [i64 r10, i64 r11, sl r13.length (r13.map f32)]⟩, ⟨(u69 + 1), some ((L71 ++ ([e74] : List F)).map f32)⟩, ⟨(u70 + 1), none⟩, ⟨1, none⟩, ⟨2, none⟩, ⟨2, none⟩, ⟨1, none⟩, ⟨1, none⟩]) ⟨aR, aR, aR, aR, aR, aR, aR, trivial⟩ ⟨⟨rfl, .inr rfl⟩, ⟨rfl, .inr rfl⟩, ⟨rfl, .inr rfl⟩, ⟨rfl, .inr rfl⟩, ⟨rfl, .inl rfl⟩, ⟨rfl, .inl rfl⟩, ⟨rfl, .inl rfl⟩, ⟨rfl, .inl rfl⟩, ⟨rfl, .inl rfl⟩, ⟨rfl, .inl rfl⟩, trivial⟩ ?_
        obtain ⟨x75, hx60, h25_⟩ := olet_some h25_
        refine RunC.regionW ?_
        refine zM (r := i64 v72) rfl rfl rfl rfl rfl ?_
        refine zL (r := i64 x75) rfl rfl rfl (LOp.eqr (LOp.add rfl rfl rfl) (congrArg (ik .i64) hx60)) ?_
        refine zA (r := i64 x75) rfl rfl rfl rfl rfl ?_
        refine zN ?_
        cases Option.some.inj h25_
        exact ⟨_, rfl, (u69 + 1), (u70 + 1), (Le.of ⟨aR, aR, aR, aR, aR, (by first | exact ALe.refl _ | exact ALe.eq (by rw [(app_len rfl rfl)] <;> rfl) | exact ALe.eq (by simp)), aR, trivial⟩ ⟨⟨rfl, .inr rfl⟩, ⟨rfl, .inr rfl⟩, ⟨rfl, .inr rfl⟩, ⟨rfl, .inr rfl⟩, ⟨rfl, .inl rfl⟩, ⟨rfl, .inl rfl⟩, ⟨rfl, .inl rfl⟩, ⟨rfl, .inl rfl⟩, ⟨rfl, .inl rfl⟩, ⟨rfl, .inl rfl⟩, trivial⟩)⟩
       ·refine RunC.regionW ?_
        refine zM (r := i64 v72) rfl rfl rfl rfl rfl ?_
        refine zL (r := optr 0 1 1) rfl rfl rfl (LOp.fao und26 rfl siz2 rfl rfl rfl) ?_
        refine ROps.d (r := i64 r3) (fs := []) (Γ' := [⟨1, some [i64 r2, i64 r3, sl r4.length (r4.map f32)]⟩, ⟨1, some [i64 r7, i64 r8, sl r9.length (r9.map f32)]⟩, ⟨1, some [i64 r10, i64 r11, sl r13.length (r13.map f32)]⟩, ⟨u69, some (L71.map f32)⟩, ⟨u70, none⟩, ⟨1, none⟩, ⟨2, none⟩, ⟨2, none⟩, ⟨1, none⟩, ⟨1, none⟩]) rfl rfl rfl (TOp.load1_o rfl rfl agg2 rfl rfl) rfl ?_
        refine zL (r := b false) rfl rfl rfl (LOp.eqb (LOp.lss rfl rfl rfl) hc56) ?_
        refine zN ?_
        refine RunC.cond_false rfl rfl ?_
        refine RunC.exit ?_
        cases Option.some.inj h25_
        have hx := ho25 _ rfl
        exact ⟨L71, u69, u70, (Le.of ⟨aR, aR, aR, aR, aR, trivial⟩ ⟨⟨rfl, .inr rfl⟩, ⟨rfl, .inl rfl⟩, ⟨rfl, .inr rfl⟩, ⟨rfl, .inr rfl⟩, ⟨rfl, .inl rfl⟩, ⟨rfl, .inl rfl⟩, ⟨rfl, .inl rfl⟩, ⟨rfl, .inl rfl⟩, ⟨rfl, .inl rfl⟩, ⟨rfl, .inl rfl⟩, trivial⟩), hx⟩
      ·rintro τ26 Γ26 ⟨L78, u76, u77, hw26, rfl⟩
       refine RunC.le hw26 ?_
       replace h : w_FnMatrices_k7 a1 r2 r3 r4 x6 r13 L78 = some q0 := h
       unfold w_FnMatrices_k7 at h
       refine RunC.seq ?_
       obtain ⟨r79, r80, hf61, h⟩ := obind2_some h
       refine RunC.regionW ?_
       refine ROps.d (r := agg [i64 r2, i64 r3, sl r4.length (r4.map f32)]) (fs := []) (Γ' := [⟨1, some [i64 r2, i64 r3, sl r4.length (r4.map f32)]⟩, ⟨1, none⟩, ⟨1, some [i64 r10, i64 r11, sl r13.length (r13.map f32)]⟩, ⟨u76, some (L78.map f32)⟩, ⟨u77, none⟩, ⟨1, none⟩, ⟨2, none⟩, ⟨2, none⟩, ⟨1, none⟩, ⟨1, none⟩]) rfl rfl rfl (TOp.loadAgg_o rfl agg26 siz26 rfl rfl rfl rfl) rfl ?_
       refine zM (r := oref 3 u76 0 L78.length) rfl rfl rfl rfl rfl ?_
       refine ROps.d (r := tup [oref 1 2 0 r80.length, b r79]) (fs := [(1, (r80.map f32))]) (Γ' := [⟨1, some [i64 r2, i64 r3, sl r4.length (r4.map f32)]⟩, ⟨2, some (r80.map f32)⟩, ⟨1, some [i64 r10, i64 r11, sl r13.length (r13.map f32)]⟩, ⟨u76, some (L78.map f32)⟩, ⟨u77, none⟩, ⟨1, none⟩, ⟨2, none⟩, ⟨2, none⟩, ⟨1, none⟩, ⟨1, none⟩]) rfl rfl rfl (TOp.callBN (ls := [(r80.map f32)]) [1] (CallAs.func ent18 rfl rfl) (Bors.cons (Bor.agg (Bors.cons (Bor.pure rfl) (Bors.cons (Bor.pure rfl) (Bors.cons (Bor.sl (fun _ => rfl)) Bors.nil)))) (Bors.cons (Bor.own (f := f32) (fun _ => rfl) rfl rfl) Bors.nil)) rfl (i_TimesVector_ok r2 r3 r4 L78 r79 r80 hf61) (and_all (lts0_map (f := f32) (fun _ => rfl) _) rfl) (and_all (noss_map (f := f32) (fun _ => rfl) _) rfl) rfl (by decide) (ns_of ⟨⟨_, rfl⟩, trivial⟩)) rfl ?_
       refine zM (r := tup [oref 1 2 0 r80.length, b r79]) rfl rfl rfl rfl rfl ?_
       refine zL (r := oref 1 2 0 r80.length) rfl rfl rfl (LOp.extract rfl rfl rfl) ?_
       refine zL (r := b r79) rfl rfl rfl (LOp.extract rfl rfl rfl) ?_
       refine zA (r := oref 1 2 0 r80.length) rfl rfl rfl rfl rfl ?_
       refine zA (r := b r79) rfl rfl rfl rfl rfl ?_
       refine zN ?_
       refine RunC.wl (τ' := [(1, sl a1.length (a1.map (ik .u8))), (5, optr 0 1 0), (6, i64 x6), (8, optr 2 1 0), (32, oref 1 2 0 r80.length), (33, b r79)]) (Γ' := [⟨1, some [i64 r2, i64 r3, sl r4.length (r4.map f32)]⟩, ⟨2, some (r80.map f32)⟩, ⟨1, some [i64 r10, i64 r11, sl r13.length (r13.map f32)]⟩, ⟨u76, none⟩, ⟨u77, none⟩, ⟨1, none⟩, ⟨2, none⟩, ⟨2, none⟩, ⟨1, none⟩, ⟨1, none⟩]) ⟨aR, aR, aR, aR, aR, aR, trivial⟩ ⟨⟨rfl, .inr rfl⟩, ⟨rfl, .inr rfl⟩, ⟨rfl, .inr rfl⟩, ⟨rfl, .inl rfl⟩, ⟨rfl, .inl rfl⟩, ⟨rfl, .inl rfl⟩, ⟨rfl, .inl rfl⟩, ⟨rfl, .inl rfl⟩, ⟨rfl, .inl rfl⟩, ⟨rfl, .inl rfl⟩, trivial⟩ ?_
       iterate 2 (refine RunC.seq ?_)
       refine RunC.cutN (fun τ Γ => ( Le 761 τ Γ [(1, sl a1.length (a1.map (ik .u8))), (5, optr 0 1 0), (6, i64 x6), (8, optr 2 1 0), (32, oref 1 2 0 r80.length), (292, b true)] [⟨1, some [i64 r2, i64 r3, sl r4.length (r4.map f32)]⟩, ⟨2, some (r80.map f32)⟩, ⟨1, some [i64 r10, i64 r11, sl r13.length (r13.map f32)]⟩, ⟨u76, none⟩, ⟨u77, none⟩, ⟨1, none⟩, ⟨2, none⟩, ⟨2, none⟩, ⟨1, none⟩, ⟨1, none⟩] ∧ w_FnMatrices_k9 = some q0) ∨ ( Le 761 τ Γ [(1, sl a1.length (a1.map (ik .u8))), (5, optr 0 1 0), (6, i64 x6), (8, optr 2 1 0), (32, oref 1 2 0 r80.length), (292, b false)] [⟨1, some [i64 r2, i64 r3, sl r4.length (r4.map f32)]⟩, ⟨2, some (r80.map f32)⟩, ⟨1, some [i64 r10, i64 r11, sl r13.length (r13.map f32)]⟩, ⟨u76, none⟩, ⟨u77, none⟩, ⟨1, none⟩, ⟨2, none⟩, ⟨2, none⟩, ⟨1, none⟩, ⟨1, none⟩] ∧ w_FnMatrices_k11 a1 r2 r3 r4 x6 r13 r80 = some q0)) ?_ ?_
       ·rcases bsel_some h with ⟨hc62, h⟩ | ⟨hc62, h⟩
        ·rcases bsel_some h with ⟨hc63, h⟩ | ⟨hc63, h⟩
         ·refine RunC.regionW ?_
          refine zL (r := b true) rfl rfl rfl (LOp.eqb (LOp.move rfl rfl) hc62) ?_
          refine zL (r := b false) rfl rfl rfl (LOp.eqb (LOp.not rfl rfl) rfl) ?_
          refine zM (r := b false) rfl rfl rfl rfl rfl ?_
          refine zM (r := oref 1 2 0 r80.length) rfl rfl rfl rfl rfl ?_
          refine zL (r := i64 ((r80.length : Nat) : Int)) rfl rfl rfl (LOp.len_oref und24 rfl rfl) ?_
          refine zL (r := optr 0 1 0) rfl rfl rfl (LOp.fao und26 rfl siz2 rfl rfl rfl) ?_
          refine ROps.d (r := i64 r2) (fs := []) (Γ' := [⟨1, some [i64 r2, i64 r3, sl r4.length (r4.map f32)]⟩, ⟨2, some (r80.map f32)⟩, ⟨1, some [i64 r10, i64 r11, sl r13.length (r13.map f32)]⟩, ⟨u76, none⟩, ⟨u77, none⟩, ⟨1, none⟩, ⟨2, none⟩, ⟨2, none⟩, ⟨1, none⟩, ⟨1, none⟩]) rfl rfl rfl (TOp.load1_o rfl rfl agg2 rfl rfl) rfl ?_
          refine zL (r := b true) rfl rfl rfl (LOp.eqb (LOp.neq rfl rfl rfl) hc63) ?_
          refine zL (r := b true) rfl rfl rfl (LOp.pick_false rfl rfl rfl) ?_
          refine zN ?_
          exact .inl ⟨(Le.of ⟨aR, aR, aR, aR, aR, aR, trivial⟩ ⟨⟨rfl, .inr rfl⟩, ⟨rfl, .inr rfl⟩, ⟨rfl, .inr rfl⟩, ⟨rfl, .inl rfl⟩, ⟨rfl, .inl rfl⟩, ⟨rfl, .inl rfl⟩, ⟨rfl, .inl rfl⟩, ⟨rfl, .inl rfl⟩, ⟨rfl, .inl rfl⟩, ⟨rfl, .inl rfl⟩, trivial⟩), h⟩
         ·refine RunC.regionW ?_
          refine zL (r := b true) rfl rfl rfl (LOp.eqb (LOp.move rfl rfl) hc62) ?_
          refine zL (r := b false) rfl rfl rfl (LOp.eqb (LOp.not rfl rfl) rfl) ?_
          refine zM (r := b false) rfl rfl rfl rfl rfl ?_
          refine zM (r := oref 1 2 0 r80.length) rfl rfl rfl rfl rfl ?_
          refine zL (r := i64 ((r80.length : Nat) : Int)) rfl rfl rfl (LOp.len_oref und24 rfl rfl) ?_
          refine zL (r := optr 0 1 0) rfl rfl rfl (LOp.fao und26 rfl siz2 rfl rfl rfl) ?_
          refine ROps.d (r := i64 r2) (fs := []) (Γ' := [⟨1, some [i64 r2, i64 r3, sl r4.length (r4.map f32)]⟩, ⟨2, some (r80.map f32)⟩, ⟨1, some [i64 r10, i64 r11, sl r13.length (r13.map f32)]⟩, ⟨u76, none⟩, ⟨u77, none⟩, ⟨1, none⟩, ⟨2, none⟩, ⟨2, none⟩, ⟨1, none⟩, ⟨1, none⟩]) rfl rfl rfl (TOp.load1_o rfl rfl agg2 rfl rfl) rfl ?_
          refine zL (r := b false) rfl rfl rfl (LOp.eqb (LOp.neq rfl rfl rfl) hc63) ?_
          refine zL (r := b false) rfl rfl rfl (LOp.pick_false rfl rfl rfl) ?_
          refine zN ?_
          exact .inr (⟨(Le.of ⟨aR, aR, aR, aR, aR, aR, trivial⟩ ⟨⟨rfl, .inr rfl⟩, ⟨rfl, .inr rfl⟩, ⟨rfl, .inr rfl⟩, ⟨rfl, .inl rfl⟩, ⟨rfl, .inl rfl⟩, ⟨rfl, .inl rfl⟩, ⟨rfl, .inl rfl⟩, ⟨rfl, .inl rfl⟩, ⟨rfl, .inl rfl⟩, ⟨rfl, .inl rfl⟩, trivial⟩), h⟩)
        ·refine RunC.regionW ?_
         refine zL (r := b false) rfl rfl rfl (LOp.eqb (LOp.move rfl rfl) hc62) ?_
         refine zL (r := b true) rfl rfl rfl (LOp.eqb (LOp.not rfl rfl) rfl) ?_
         refine zM (r := b true) rfl rfl rfl rfl rfl ?_
         iterate 5 (refine ROps.s rfl rfl rfl ?_)
         refine zL (r := b true) rfl rfl rfl (LOp.pick_true rfl rfl rfl) ?_
         refine zN ?_
         exact .inl ⟨(Le.of ⟨aR, aR, aR, aR, aR, aR, trivial⟩ ⟨⟨rfl, .inr rfl⟩, ⟨rfl, .inr rfl⟩, ⟨rfl, .inr rfl⟩, ⟨rfl, .inl rfl⟩, ⟨rfl, .inl rfl⟩, ⟨rfl, .inl rfl⟩, ⟨rfl, .inl rfl⟩, ⟨rfl, .inl rfl⟩, ⟨rfl, .inl rfl⟩, ⟨rfl, .inl rfl⟩, trivial⟩), h⟩
       ·rintro τ27 Γ27 (⟨hw27, h⟩ | ⟨hw27, h⟩)
        ·refine RunC.le (τ' := [(1, sl a1.length (a1.map (ik .u8))), (5, optr 0 1 0), (6, i64 x6), (8, optr 2 1 0), (32, oref 1 2 0 r80.length), (292, b true)]) (Γ' := [⟨1, some [i64 r2, i64 r3, sl r4.length (r4.map f32)]⟩, ⟨2, some (r80.map f32)⟩, ⟨1, some [i64 r10, i64 r11, sl r13.length (r13.map f32)]⟩, ⟨u76, none⟩, ⟨u77, none⟩, ⟨1, none⟩, ⟨2, none⟩, ⟨2, none⟩, ⟨1, none⟩, ⟨1, none⟩]) hw27 ?_
         unfold w_FnMatrices_k9 at h
         refine RunC.cond_true rfl rfl ?_
         refine zQ ?_
         refine zA (r := b false) rfl rfl rfl rfl rfl ?_
         refine zN ?_
         refine RunC.ret ?_
         have hq := Option.some.inj h
         subst q0
         exact bodyQ.pure (.inr rfl) rfl (Res.one rfl (RV.tmp rfl))
        ·refine RunC.le (τ' := [(1, sl a1.length (a1.map (ik .u8))), (5, optr 0 1 0), (6, i64 x6), (8, optr 2 1 0), (32, oref 1 2 0 r80.length), (292, b false)]) (Γ' := [⟨1, some [i64 r2, i64 r3, sl r4.length (r4.map f32)]⟩, ⟨2, some (r80.map f32)⟩, ⟨1, some [i64 r10, i64 r11, sl r13.length (r13.map f32)]⟩, ⟨u76, none⟩, ⟨u77, none⟩, ⟨1, none⟩, ⟨2, none⟩, ⟨2, none⟩, ⟨1, none⟩, ⟨1, none⟩]) hw27 ?_
         unfold w_FnMatrices_k11 at h
         refine RunC.cond_false rfl rfl ?_
         refine RunC.skip ?_
         refine RunC.seq ?_
         refine zQ ?_
         refine zA (r := i64 0) rfl rfl rfl rfl rfl ?_
         refine zN ?_
         obtain ⟨z28, hz_28, h⟩ := obind_some h
         refine RunC.cutN (fun τ Γ => Le 761 τ Γ [(1, sl a1.length (a1.map (ik .u8))), (5, optr 0 1 0)] [⟨1, some [i64 r2, i64 r3, sl r4.length (r4.map f32)]⟩, ⟨2, none⟩, ⟨1, none⟩, ⟨u76, none⟩, ⟨u77, none⟩, ⟨1, none⟩, ⟨2, none⟩, ⟨2, none⟩, ⟨1, none⟩, ⟨1, none⟩] ∧ z28 = .inl ()) ?_ ?_
         ·refine RunC.block (RunC.loop (RunL.loopM (x := z28) (w_FnMatrices_s12 r2 x6 r13 r80) (fun (s : Int) τ Γ => Le 761 τ Γ [(1, sl a1.length (a1.map (ik .u8))), (5, optr 0 1 0), (6, i64 x6), (8, optr 2 1 0), (32, oref 1 2 0 r80.length), (34, i64 s)] [⟨1, some [i64 r2, i64 r3, sl r4.length (r4.map f32)]⟩, ⟨2, some (r80.map f32)⟩, ⟨1, some [i64 r10, i64 r11, sl r13.length (r13.map f32)]⟩, ⟨u76, none⟩, ⟨u77, none⟩, ⟨1, none⟩, ⟨2, none⟩, ⟨2, none⟩, ⟨1, none⟩, ⟨1, none⟩]) ?_ _ _ _ hz_28 (Le.of ⟨aR, aR, aR, aR, aR, aR, trivial⟩ ⟨⟨rfl, .inr rfl⟩, ⟨rfl, .inr rfl⟩, ⟨rfl, .inr rfl⟩, ⟨rfl, .inl rfl⟩, ⟨rfl, .inl rfl⟩, ⟨rfl, .inl rfl⟩, ⟨rfl, .inl rfl⟩, ⟨rfl, .inl rfl⟩, ⟨rfl, .inl rfl⟩, ⟨rfl, .inl rfl⟩, trivial⟩)))
          rintro v81 τ28 Γ28 y28_ hw28 h28_ ho28 hr28
          refine RunC.le (τ' := [(1, sl a1.length (a1.map (ik .u8))), (5, optr 0 1 0), (6, i64 x6), (8, optr 2 1 0), (32, oref 1 2 0 r80.length), (34, i64 v81)]) (Γ' := [⟨1, some [i64 r2, i64 r3, sl r4.length (r4.map f32)]⟩, ⟨2, some (r80.map f32)⟩, ⟨1, some [i64 r10, i64 r11, sl r13.length (r13.map f32)]⟩, ⟨u76, none⟩, ⟨u77, none⟩, ⟨1, none⟩, ⟨2, none⟩, ⟨2, none⟩, ⟨1, none⟩, ⟨1, none⟩]) hw28 ?_
          replace h28_ : w_FnMatrices_b12 r2 x6 r13 r80 v81 = some y28_ := h28_
          unfold w_FnMatrices_b12 at h28_
          iterate 2 (refine RunC.seq ?_)
          rcases bsel_some h28_ with ⟨hc64, h28_⟩ | ⟨hc64, h28_⟩
          ·refine RunC.regionW ?_
           refine zM (r := i64 v81) rfl rfl rfl rfl rfl ?_
           refine zL (r := optr 0 1 0) rfl rfl rfl (LOp.fao und26 rfl siz2 rfl rfl rfl) ?_
           refine ROps.d (r := i64 r2) (fs := []) (Γ' := [⟨1, some [i64 r2, i64 r3, sl r4.length (r4.map f32)]⟩, ⟨2, some (r80.map f32)⟩, ⟨1, some [i64 r10, i64 r11, sl r13.length (r13.map f32)]⟩, ⟨u76, none⟩, ⟨u77, none⟩, ⟨1, none⟩, ⟨2, none⟩, ⟨2, none⟩, ⟨1, none⟩, ⟨1, none⟩]) rfl rfl rfl (TOp.load1_o rfl rfl agg2 rfl rfl) rfl ?_
           refine zL (r := b true) rfl rfl rfl (LOp.eqb (LOp.lss rfl rfl rfl) hc64) ?_
           refine zN ?_
           refine RunC.cond_true rfl rfl ?_
           refine RunC.skip ?_
           refine RunC.seq ?_
           refine RunC.block ?_
           refine RunC.seq ?_
           obtain ⟨e82, he65, h28_⟩ := obind_some h28_
           obtain ⟨x83, hx66, h28_⟩ := olet_some h28_
           obtain ⟨e84, he67, h28_⟩ := obind_some h28_
           rcases bsel_some h28_ with ⟨hc68, h28_⟩ | ⟨hc68, h28_⟩
           ·refine RunC.region_draw (Γ' := [⟨1, some [i64 r2, i64 r3, sl r4.length (r4.map f32)]⟩, ⟨2, some (r80.map f32)⟩, ⟨1, some [i64 r10, i64 r11, sl r13.length (r13.map f32)]⟩, ⟨u76, none⟩, ⟨u77, none⟩, ⟨1, none⟩, ⟨2, none⟩, ⟨2, none⟩, ⟨1, none⟩, ⟨1, none⟩]) 12 mixed 
             (TR.l (r := oref 1 2 0 r80.length) rfl rfl (LOp.move rfl rfl) <|
             (TR.l (r := i64 v81) rfl rfl (LOp.move rfl rfl) <|
             (TR.d (r := optr 1 2 v81.toNat) (fs := []) rfl rfl (TOp.ixo und24 siz36 rfl rfl rfl (at_in he65 rfl) rfl) <|
             (TR.d (r := f32 e82) (fs := []) rfl rfl (TOp.load1_o rfl (at_cell he65) agg36 rfl rfl) <|
             (TR.l (r := optr 2 1 2) rfl rfl (LOp.fao und26 rfl siz24 rfl rfl rfl) <|
             (TR.d (r := sl r13.length (r13.map f32)) (fs := []) rfl rfl (TOp.load1_o rfl rfl agg24 rfl rfl) <|
             (TR.l (r := i64 v81) rfl rfl (LOp.move rfl rfl) <|
             (TR.l (r := i64 x6) rfl rfl (LOp.move rfl rfl) <|
             (TR.l (r := i64 x83) rfl rfl (LOp.eqr (LOp.mul rfl rfl rfl) (congrArg (ik .i64) hx66)) <|
             (TR.l (r := ptr [f32 e84]) rfl rfl (LOp.le (LOp.ix (f := f32) und24 siz36 rfl rfl rfl rfl he67) ALe.ptr) <|
             (TR.l (r := f32 e84) rfl rfl (LOp.load1 agg36 rfl rfl) <|
             (TR.l (r := b true) rfl rfl (LOp.eqb (LOp.fne rfl (OpF.tmp rfl) (OpF.tmp rfl)) hc68) <|
             TR.nil)))))))))))) rfl (by kernel_rfl) rfl fills_nil rfl ?_
            iterate 12 refine ROps.dropS ?_
            refine ROps.drop0 ?_
            refine zN ?_
            refine RunC.cond_true rfl rfl ?_
            refine zQ ?_
            refine zA (r := b false) rfl rfl rfl rfl rfl ?_
            refine zN ?_
            refine RunC.ret ?_
            cases Option.some.inj h28_
            have hx29_ := hr28 _ rfl
            subst hx29_
            have hq := Option.some.inj h
            subst q0
            exact bodyQ.pure (.inr rfl) rfl (Res.one rfl (RV.tmp rfl))
           ·refine RunC.region_draw (Γ' := [⟨1, some [i64 r2, i64 r3, sl r4.length (r4.map f32)]⟩, ⟨2, some (r80.map f32)⟩, ⟨1, some [i64 r10, i64 r11, sl r13.length (r13.map f32)]⟩, ⟨u76, none⟩, ⟨u77, none⟩, ⟨1, none⟩, ⟨2, none⟩, ⟨2, none⟩, ⟨1, none⟩, ⟨1, none⟩]) 12 mixed 
             (TR.l (r := oref 1 2 0 r80.length) rfl rfl (LOp.move rfl rfl) <|
             (TR.l (r := i64 v81) rfl rfl (LOp.move rfl rfl) <|
             (TR.d (r := optr 1 2 v81.toNat) (fs := []) rfl rfl (TOp.ixo und24 siz36 rfl rfl rfl (at_in he65 rfl) rfl) <|
             (TR.d (r := f32 e82) (fs := []) rfl rfl (TOp.load1_o rfl (at_cell he65) agg36 rfl rfl) <|
             (TR.l (r := optr 2 1 2) rfl rfl (LOp.fao und26 rfl siz24 rfl rfl rfl) <|
             (TR.d (r := sl r13.length (r13.map f32)) (fs := []) rfl rfl (TOp.load1_o rfl rfl agg24 rfl rfl) <|
             (TR.l (r := i64 v81) rfl rfl (LOp.move rfl rfl) <|
             (TR.l (r := i64 x6) rfl rfl (LOp.move rfl rfl) <|
             (TR.l (r := i64 x83) rfl rfl (LOp.eqr (LOp.mul rfl rfl rfl) (congrArg (ik .i64) hx66)) <|
             (TR.l (r := ptr [f32 e84]) rfl rfl (LOp.le (LOp.ix (f := f32) und24 siz36 rfl rfl rfl rfl he67) ALe.ptr) <|
             (TR.l (r := f32 e84) rfl rfl (LOp.load1 agg36 rfl rfl) <|
             (TR.l (r := b false) rfl rfl (LOp.eqb (LOp.fne rfl (OpF.tmp rfl) (OpF.tmp rfl)) hc68) <|
             TR.nil)))))))))))) rfl (by kernel_rfl) rfl fills_nil rfl ?_
            iterate 12 refine ROps.dropS ?_
            refine ROps.drop0 ?_
            refine zN ?_
            refine RunC.cond_false rfl rfl ?_
            refine RunC.skip ?_
            obtain ⟨x85, hx69, h28_⟩ := olet_some h28_
            refine RunC.regionW ?_
            refine zM (r := i64 v81) rfl rfl rfl rfl rfl ?_
            refine zL (r := i64 x85) rfl rfl rfl (LOp.eqr (LOp.add rfl rfl rfl) (congrArg (ik .i64) hx69)) ?_
            refine zA (r := i64 x85) rfl rfl rfl rfl rfl ?_
            refine zN ?_
            cases Option.some.inj h28_
            exact ⟨_, rfl, (Le.of ⟨aR, aR, aR, aR, aR, aR, trivial⟩ ⟨⟨rfl, .inr rfl⟩, ⟨rfl, .inr rfl⟩, ⟨rfl, .inr rfl⟩, ⟨rfl, .inl rfl⟩, ⟨rfl, .inl rfl⟩, ⟨rfl, .inl rfl⟩, ⟨rfl, .inl rfl⟩, ⟨rfl, .inl rfl⟩, ⟨rfl, .inl rfl⟩, ⟨rfl, .inl rfl⟩, trivial⟩)⟩
          ·refine RunC.regionW ?_
           refine zM (r := i64 v81) rfl rfl rfl rfl rfl ?_
           refine zL (r := optr 0 1 0) rfl rfl rfl (LOp.fao und26 rfl siz2 rfl rfl rfl) ?_
           refine ROps.d (r := i64 r2) (fs := []) (Γ' := [⟨1, some [i64 r2, i64 r3, sl r4.length (r4.map f32)]⟩, ⟨2, some (r80.map f32)⟩, ⟨1, some [i64 r10, i64 r11, sl r13.length (r13.map f32)]⟩, ⟨u76, none⟩, ⟨u77, none⟩, ⟨1, none⟩, ⟨2, none⟩, ⟨2, none⟩, ⟨1, none⟩, ⟨1, none⟩]) rfl rfl rfl (TOp.load1_o rfl rfl agg2 rfl rfl) rfl ?_
           refine zL (r := b false) rfl rfl rfl (LOp.eqb (LOp.lss rfl rfl rfl) hc64) ?_
           refine zN ?_
           refine RunC.cond_false rfl rfl ?_
           refine RunC.exit ?_
           cases Option.some.inj h28_
           have hx := ho28 _ rfl
           exact ⟨(Le.of ⟨aR, aR, trivial⟩ ⟨⟨rfl, .inr rfl⟩, ⟨rfl, .inl rfl⟩, ⟨rfl, .inl rfl⟩, ⟨rfl, .inl rfl⟩, ⟨rfl, .inl rfl⟩, ⟨rfl, .inl rfl⟩, ⟨rfl, .inl rfl⟩, ⟨rfl, .inl rfl⟩, ⟨rfl, .inl rfl⟩, ⟨rfl, .inl rfl⟩, trivial⟩), hx⟩
         ·rintro τ30 Γ30 ⟨hw30, rfl⟩
          refine RunC.le hw30 ?_
          replace h : w_FnMatrices_k12 a1 r2 r3 r4 = some q0 := h
          unfold w_FnMatrices_k12 at h
          refine RunC.seq ?_
          obtain ⟨r86, hf70, h⟩ := obind_some h
          refine RunC.regionW ?_
          refine zM (r := sl a1.length (a1.map (ik .u8))) rfl rfl rfl rfl rfl ?_
          refine zL (r := optr 0 1 0) rfl rfl rfl (LOp.fao und26 rfl siz2 rfl rfl rfl) ?_
          refine ROps.d (r := i64 r2) (fs := []) (Γ' := [⟨1, some [i64 r2, i64 r3, sl r4.length (r4.map f32)]⟩, ⟨2, none⟩, ⟨1, none⟩, ⟨u76, none⟩, ⟨u77, none⟩, ⟨1, none⟩, ⟨2, none⟩, ⟨2, none⟩, ⟨1, none⟩, ⟨1, none⟩]) rfl rfl rfl (TOp.load1_o rfl rfl agg2 rfl rfl) rfl ?_
          refine ROps.d (r := i64 r86) (fs := []) (Γ' := [⟨1, some [i64 r2, i64 r3, sl r4.length (r4.map f32)]⟩, ⟨2, none⟩, ⟨1, none⟩, ⟨u76, none⟩, ⟨u77, none⟩, ⟨1, none⟩, ⟨2, none⟩, ⟨2, none⟩, ⟨1, none⟩, ⟨1, none⟩]) rfl rfl rfl (TOp.callB (CallAs.func ent9 rfl rfl) (Bors.cons (Bor.sl (fun _ => rfl)) (Bors.cons (Bor.pure rfl) (Bors.cons (Bor.pure rfl) Bors.nil))) rfl rfl (w_r8At_ok a1 43 r2 r86 hf70)) rfl ?_
          refine zA (r := i64 r86) rfl rfl rfl rfl rfl ?_
          refine zN ?_
          refine RunC.seq ?_
          obtain ⟨r87, hf71, h⟩ := obind_some h
          refine RunC.regionW ?_
          refine zM (r := sl a1.length (a1.map (ik .u8))) rfl rfl rfl rfl rfl ?_
          refine zL (r := optr 0 1 1) rfl rfl rfl (LOp.fao und26 rfl siz2 rfl rfl rfl) ?_
          refine ROps.d (r := i64 r3) (fs := []) (Γ' := [⟨1, some [i64 r2, i64 r3, sl r4.length (r4.map f32)]⟩, ⟨2, none⟩, ⟨1, none⟩, ⟨u76, none⟩, ⟨u77, none⟩, ⟨1, none⟩, ⟨2, none⟩, ⟨2, none⟩, ⟨1, none⟩, ⟨1, none⟩]) rfl rfl rfl (TOp.load1_o rfl rfl agg2 rfl rfl) rfl ?_
          refine ROps.d (r := i64 r87) (fs := []) (Γ' := [⟨1, some [i64 r2, i64 r3, sl r4.length (r4.map f32)]⟩, ⟨2, none⟩, ⟨1, none⟩, ⟨u76, none⟩, ⟨u77, none⟩, ⟨1, none⟩, ⟨2, none⟩, ⟨2, none⟩, ⟨1, none⟩, ⟨1, none⟩]) rfl rfl rfl (TOp.callB (CallAs.func ent9 rfl rfl) (Bors.cons (Bor.sl (fun _ => rfl)) (Bors.cons (Bor.pure rfl) (Bors.cons (Bor.pure rfl) Bors.nil))) rfl rfl (w_r8At_ok a1 44 r3 r87 hf71)) rfl ?_
          refine zA (r := i64 r87) rfl rfl rfl rfl rfl ?_
          refine zN ?_
          refine RunC.seq ?_
          obtain ⟨x88, hx72, h⟩ := olet_some h
          obtain ⟨x89, hx73, h⟩ := olet_some h
          obtain ⟨r90, r91, r92, r93, hf74, h⟩ := obind4_some h
          refine RunC.regionW ?_
          refine ROps.d (r := agg [i64 r2, i64 r3, sl r4.length (r4.map f32)]) (fs := []) (Γ' := [⟨1, some [i64 r2, i64 r3, sl r4.length (r4.map f32)]⟩, ⟨2, none⟩, ⟨1, none⟩, ⟨u76, none⟩, ⟨u77, none⟩, ⟨1, none⟩, ⟨2, none⟩, ⟨2, none⟩, ⟨1, none⟩, ⟨1, none⟩]) rfl rfl rfl (TOp.loadAgg_o rfl agg26 siz26 rfl rfl rfl rfl) rfl ?_
          refine zM (r := i64 r86) rfl rfl rfl rfl rfl ?_
          refine zM (r := i64 r87) rfl rfl rfl rfl rfl ?_
          refine zL (r := optr 0 1 0) rfl rfl rfl (LOp.fao und26 rfl siz2 rfl rfl rfl) ?_
          refine ROps.d (r := i64 r2) (fs := []) (Γ' := [⟨1, some [i64 r2, i64 r3, sl r4.length (r4.map f32)]⟩, ⟨2, none⟩, ⟨1, none⟩, ⟨u76, none⟩, ⟨u77, none⟩, ⟨1, none⟩, ⟨2, none⟩, ⟨2, none⟩, ⟨1, none⟩, ⟨1, none⟩]) rfl rfl rfl (TOp.load1_o rfl rfl agg2 rfl rfl) rfl ?_
          refine zM (r := i64 r86) rfl rfl rfl rfl rfl ?_
          refine zL (r := i64 x88) rfl rfl rfl (LOp.eqr (LOp.sub rfl rfl rfl) (congrArg (ik .i64) hx72)) ?_
          refine zL (r := optr 0 1 1) rfl rfl rfl (LOp.fao und26 rfl siz2 rfl rfl rfl) ?_
          refine ROps.d (r := i64 r3) (fs := []) (Γ' := [⟨1, some [i64 r2, i64 r3, sl r4.length (r4.map f32)]⟩, ⟨2, none⟩, ⟨1, none⟩, ⟨u76, none⟩, ⟨u77, none⟩, ⟨1, none⟩, ⟨2, none⟩, ⟨2, none⟩, ⟨1, none⟩, ⟨1, none⟩]) rfl rfl rfl (TOp.load1_o rfl rfl agg2 rfl rfl) rfl ?_
          refine zM (r := i64 r87) rfl rfl rfl rfl rfl ?_
          refine zL (r := i64 x89) rfl rfl rfl (LOp.eqr (LOp.sub rfl rfl rfl) (congrArg (ik .i64) hx73)) ?_
          refine ROps.d (r := tup [agg [i64 r90, i64 r91, sl r93.length (r93.map f32)], b r92]) (fs := []) (Γ' := [⟨1, some [i64 r2, i64 r3, sl r4.length (r4.map f32)]⟩, ⟨2, none⟩, ⟨1, none⟩, ⟨u76, none⟩, ⟨u77, none⟩, ⟨1, none⟩, ⟨2, none⟩, ⟨2, none⟩, ⟨1, none⟩, ⟨1, none⟩]) rfl rfl rfl (TOp.callS (CallAs.func ent19 rfl rfl) (ALes.cons aR (ALes.cons aR (ALes.cons aR (ALes.cons aR (ALes.cons aR ALes.nil))))) (lts_cons (lt_agg (lts_cons rfl (lts_cons rfl (lts_cons (lt_sl (fun _ => rfl)) lts_nil)))) (lts_cons rfl (lts_cons rfl (lts_cons rfl (lts_cons rfl lts_nil))))) (lt_tup (lts_cons (lt_agg (lts_cons rfl (lts_cons rfl (lts_cons (lt_sl (fun _ => rfl)) lts_nil)))) (lts_cons rfl lts_nil))) (i_PartOfMatrix_ok r2 r3 r4 r86 r87 x88 x89 r90 r91 r92 r93 hf74) (Bor.tup (Bors.cons (Bor.agg (Bors.cons (Bor.pure rfl) (Bors.cons (Bor.pure rfl) (Bors.cons (Bor.own (f := f32) (fun _ => rfl) rfl rfl) Bors.nil)))) (Bors.cons (Bor.pure rfl) Bors.nil)))) rfl ?_
          refine zM (r := tup [agg [i64 r90, i64 r91, sl r93.length (r93.map f32)], b r92]) rfl rfl rfl rfl rfl ?_
          refine zL (r := agg [i64 r90, i64 r91, sl r93.length (r93.map f32)]) rfl rfl rfl (LOp.extract rfl rfl rfl) ?_
          refine zL (r := b r92) rfl rfl rfl (LOp.extract rfl rfl rfl) ?_
          refine ROps.d (r := optr 1 3 0) (fs := [(1, [i64 0, i64 0, nilsl])]) (Γ' := [⟨1, some [i64 r2, i64 r3, sl r4.length (r4.map f32)]⟩, ⟨3, some [i64 0, i64 0, nilsl]⟩, ⟨1, none⟩, ⟨u76, none⟩, ⟨u77, none⟩, ⟨1, none⟩, ⟨2, none⟩, ⟨2, none⟩, ⟨1, none⟩, ⟨1, none⟩]) rfl rfl rfl (TOp.alloc_o (g := ⟨2, none⟩) 1 rfl zer26 zok26 rfl) rfl ?_
          refine ROps.store_le (r := agg [i64 r90, i64 r91, sl r93.length (r93.map f32)]) (l' := [i64 r90, i64 r91, sl r93.length (r93.map f32)]) (Γ' := [⟨1, some [i64 r2, i64 r3, sl r4.length (r4.map f32)]⟩, ⟨3, some [i64 r90, i64 r91, sl r93.length (r93.map f32)]⟩, ⟨1, none⟩, ⟨u76, none⟩, ⟨u77, none⟩, ⟨1, none⟩, ⟨2, none⟩, ⟨2, none⟩, ⟨1, none⟩, ⟨1, none⟩]) rfl siz26 rfl rfl rfl aR rfl rfl rfl rfl (Nat.le_of_ble_eq_true rfl) rfl rfl ?_
          refine zA (r := b r92) rfl rfl rfl rfl rfl ?_
          refine zN ?_
          refine RunC.seq ?_
          obtain ⟨r94, r95, r96, r97, hf75, h⟩ := obind4_some h
          refine RunC.regionW ?_
          refine ROps.d (r := agg [i64 r2, i64 r3, sl r4.length (r4.map f32)]) (fs := []) (Γ' := [⟨1, some [i64 r2, i64 r3, sl r4.length (r4.map f32)]⟩, ⟨3, some [i64 r90, i64 r91, sl r93.length (r93.map f32)]⟩, ⟨1, none⟩, ⟨u76, none⟩, ⟨u77, none⟩, ⟨1, none⟩, ⟨2, none⟩, ⟨2, none⟩, ⟨1, none⟩, ⟨1, none⟩]) rfl rfl rfl (TOp.loadAgg_o rfl agg26 siz26 rfl rfl rfl rfl) rfl ?_
          refine ROps.d (r := agg [i64 r90, i64 r91, sl r93.length (r93.map f32)]) (fs := []) (Γ' := [⟨1, some [i64 r2, i64 r3, sl r4.length (r4.map f32)]⟩, ⟨3, some [i64 r90, i64 r91, sl r93.length (r93.map f32)]⟩, ⟨1, none⟩, ⟨u76, none⟩, ⟨u77, none⟩, ⟨1, none⟩, ⟨2, none⟩, ⟨2, none⟩, ⟨1, none⟩, ⟨1, none⟩]) rfl rfl rfl (TOp.loadAgg_o rfl agg26 siz26 rfl rfl rfl rfl) rfl ?_
          refine zM (r := i64 r86) rfl rfl rfl rfl rfl ?_
          refine zM (r := i64 r87) rfl rfl rfl rfl rfl ?_
          refine ROps.d (r := tup [agg [i64 r94, i64 r95, sl r97.length (r97.map f32)], b r96]) (fs := []) (Γ' := [⟨1, some [i64 r2, i64 r3, sl r4.length (r4.map f32)]⟩, ⟨3, some [i64 r90, i64 r91, sl r93.length (r93.map f32)]⟩, ⟨1, none⟩, ⟨u76, none⟩, ⟨u77, none⟩, ⟨1, none⟩, ⟨2, none⟩, ⟨2, none⟩, ⟨1, none⟩, ⟨1, none⟩]) rfl rfl rfl (TOp.callS (CallAs.func ent20 rfl rfl) (ALes.cons aR (ALes.cons aR (ALes.cons aR (ALes.cons aR ALes.nil)))) (lts_cons (lt_agg (lts_cons rfl (lts_cons rfl (lts_cons (lt_sl (fun _ => rfl)) lts_nil)))) (lts_cons (lt_agg (lts_cons rfl (lts_cons rfl (lts_cons (lt_sl (fun _ => rfl)) lts_nil)))) (lts_cons rfl (lts_cons rfl lts_nil)))) (lt_tup (lts_cons (lt_agg (lts_cons rfl (lts_cons rfl (lts_cons (lt_sl (fun _ => rfl)) lts_nil)))) (lts_cons rfl lts_nil))) (i_PutMatrix_ok r2 r3 r4 r90 r91 r93 r86 r87 r94 r95 r96 r97 hf75) (Bor.tup (Bors.cons (Bor.agg (Bors.cons (Bor.pure rfl) (Bors.cons (Bor.pure rfl) (Bors.cons (Bor.own (f := f32) (fun _ => rfl) rfl rfl) Bors.nil)))) (Bors.cons (Bor.pure rfl) Bors.nil)))) rfl ?_
          refine zM (r := tup [agg [i64 r94, i64 r95, sl r97.length (r97.map f32)], b r96]) rfl rfl rfl rfl rfl ?_
          refine zL (r := agg [i64 r94, i64 r95, sl r97.length (r97.map f32)]) rfl rfl rfl (LOp.extract rfl rfl rfl) ?_
          refine zL (r := b r96) rfl rfl rfl (LOp.extract rfl rfl rfl) ?_
          refine ROps.d (r := optr 2 2 0) (fs := [(2, [i64 0, i64 0, nilsl])]) (Γ' := [⟨1, some [i64 r2, i64 r3, sl r4.length (r4.map f32)]⟩, ⟨3, some [i64 r90, i64 r91, sl r93.length (r93.map f32)]⟩, ⟨2, some [i64 0, i64 0, nilsl]⟩, ⟨u76, none⟩, ⟨u77, none⟩, ⟨1, none⟩, ⟨2, none⟩, ⟨2, none⟩, ⟨1, none⟩, ⟨1, none⟩]) rfl rfl rfl (TOp.alloc_o (g := ⟨1, none⟩) 2 rfl zer26 zok26 rfl) rfl ?_
          refine ROps.store_le (r := agg [i64 r94, i64 r95, sl r97.length (r97.map f32)]) (l' := [i64 r94, i64 r95, sl r97.length (r97.map f32)]) (Γ' := [⟨1, some [i64 r2, i64 r3, sl r4.length (r4.map f32)]⟩, ⟨3, some [i64 r90, i64 r91, sl r93.length (r93.map f32)]⟩, ⟨2, some [i64 r94, i64 r95, sl r97.length (r97.map f32)]⟩, ⟨u76, none⟩, ⟨u77, none⟩, ⟨1, none⟩, ⟨2, none⟩, ⟨2, none⟩, ⟨1, none⟩, ⟨1, none⟩]) rfl siz26 rfl rfl rfl aR rfl rfl rfl rfl (Nat.le_of_ble_eq_true rfl) rfl rfl ?_
          refine zA (r := b r96) rfl rfl rfl rfl rfl ?_
          refine zN ?_
          refine RunC.wl (τ' := [(5, optr 0 1 0), (38, b r92), (39, optr 2 2 0), (40, b r96)]) (Γ' := [⟨1, some [i64 r2, i64 r3, sl r4.length (r4.map f32)]⟩, ⟨3, none⟩, ⟨2, some [i64 r94, i64 r95, sl r97.length (r97.map f32)]⟩, ⟨u76, none⟩, ⟨u77, none⟩, ⟨1, none⟩, ⟨2, none⟩, ⟨2, none⟩, ⟨1, none⟩, ⟨1, none⟩]) ⟨aR, aR, aR, aR, trivial⟩ ⟨⟨rfl, .inr rfl⟩, ⟨rfl, .inl rfl⟩, ⟨rfl, .inr rfl⟩, ⟨rfl, .inl rfl⟩, ⟨rfl, .inl rfl⟩, ⟨rfl, .inl rfl⟩, ⟨rfl, .inl rfl⟩, ⟨rfl, .inl rfl⟩, ⟨rfl, .inl rfl⟩, ⟨rfl, .inl rfl⟩, trivial⟩ ?_
          refine RunC.seq ?_
          obtain ⟨r98, r99, r100, r101, hf76, h⟩ := obind4_some h
          refine RunC.regionW ?_
          iterate 2 (refine ROps.d (r := agg [i64 r2, i64 r3, sl r4.length (r4.map f32)]) (fs := []) (Γ' := [⟨1, some [i64 r2, i64 r3, sl r4.length (r4.map f32)]⟩, ⟨3, none⟩, ⟨2, some [i64 r94, i64 r95, sl r97.length (r97.map f32)]⟩, ⟨u76, none⟩, ⟨u77, none⟩, ⟨1, none⟩, ⟨2, none⟩, ⟨2, none⟩, ⟨1, none⟩, ⟨1, none⟩]) rfl rfl rfl (TOp.loadAgg_o rfl agg26 siz26 rfl rfl rfl rfl) rfl ?_)
          refine ROps.d (r := tup [agg [i64 r98, i64 r99, sl r101.length (r101.map f32)], b r100]) (fs := []) (Γ' := [⟨1, some [i64 r2, i64 r3, sl r4.length (r4.map f32)]⟩, ⟨3, none⟩, ⟨2, some [i64 r94, i64 r95, sl r97.length (r97.map f32)]⟩, ⟨u76, none⟩, ⟨u77, none⟩, ⟨1, none⟩, ⟨2, none⟩, ⟨2, none⟩, ⟨1, none⟩, ⟨1, none⟩]) rfl rfl rfl (TOp.callS (CallAs.func ent21 rfl rfl) (ALes.cons aR (ALes.cons aR (ALes.cons (ALe.fl (by kernel_rfl) (by kernel_rfl)) (ALes.cons (ALe.fl (by kernel_rfl) (by kernel_rfl)) ALes.nil)))) (lts_cons (lt_agg (lts_cons rfl (lts_cons rfl (lts_cons (lt_sl (fun _ => rfl)) lts_nil)))) (lts_cons (lt_agg (lts_cons rfl (lts_cons rfl (lts_cons (lt_sl (fun _ => rfl)) lts_nil)))) (lts_cons rfl (lts_cons rfl lts_nil)))) (lt_tup (lts_cons (lt_agg (lts_cons rfl (lts_cons rfl (lts_cons (lt_sl (fun _ => rfl)) lts_nil)))) (lts_cons rfl lts_nil))) (i_WeighMatrices_ok r2 r3 r4 r2 r3 r4 (some 1073741824) (some 3212836864) r98 r99 r100 r101 hf76) (Bor.tup (Bors.cons (Bor.agg (Bors.cons (Bor.pure rfl) (Bors.cons (Bor.pure rfl) (Bors.cons (Bor.own (f := f32) (fun _ => rfl) rfl rfl) Bors.nil)))) (Bors.cons (Bor.pure rfl) Bors.nil)))) rfl ?_
          refine zM (r := tup [agg [i64 r98, i64 r99, sl r101.length (r101.map f32)], b r100]) rfl rfl rfl rfl rfl ?_
          refine zL (r := agg [i64 r98, i64 r99, sl r101.length (r101.map f32)]) rfl rfl rfl (LOp.extract rfl rfl rfl) ?_
          refine zL (r := b r100) rfl rfl rfl (LOp.extract rfl rfl rfl) ?_
          refine ROps.d (r := optr 1 4 0) (fs := [(1, [i64 0, i64 0, nilsl])]) (Γ' := [⟨1, some [i64 r2, i64 r3, sl r4.length (r4.map f32)]⟩, ⟨4, some [i64 0, i64 0, nilsl]⟩, ⟨2, some [i64 r94, i64 r95, sl r97.length (r97.map f32)]⟩, ⟨u76, none⟩, ⟨u77, none⟩, ⟨1, none⟩, ⟨2, none⟩, ⟨2, none⟩, ⟨1, none⟩, ⟨1, none⟩]) rfl rfl rfl (TOp.alloc_o (g := ⟨3, none⟩) 1 rfl zer26 zok26 rfl) rfl ?_
          refine ROps.store_le (r := agg [i64 r98, i64 r99, sl r101.length (r101.map f32)]) (l' := [i64 r98, i64 r99, sl r101.length (r101.map f32)]) (Γ' := [⟨1, some [i64 r2, i64 r3, sl r4.length (r4.map f32)]⟩, ⟨4, some [i64 r98, i64 r99, sl r101.length (r101.map f32)]⟩, ⟨2, some [i64 r94, i64 r95, sl r97.length (r97.map f32)]⟩, ⟨u76, none⟩, ⟨u77, none⟩, ⟨1, none⟩, ⟨2, none⟩, ⟨2, none⟩, ⟨1, none⟩, ⟨1, none⟩]) rfl siz26 rfl rfl rfl aR rfl rfl rfl rfl (Nat.le_of_ble_eq_true rfl) rfl rfl ?_
          refine zA (r := b r100) rfl rfl rfl rfl rfl ?_
          refine zN ?_
          refine RunC.seq ?_
          refine RunC.cutN (fun τ Γ => ( Le 761 τ Γ [(4, b false)] [⟨1, none⟩, ⟨4, none⟩, ⟨2, none⟩, ⟨u76, none⟩, ⟨u77, none⟩, ⟨1, none⟩, ⟨2, none⟩, ⟨2, none⟩, ⟨1, none⟩, ⟨1, none⟩] ∧ w_FnMatrices_k14 = some q0) ∨ (∃ (w105 : Bool), Le 761 τ Γ [(4, b w105)] [⟨1, none⟩, ⟨4, none⟩, ⟨2, none⟩, ⟨u76, none⟩, ⟨u77, none⟩, ⟨1, none⟩, ⟨2, none⟩, ⟨2, none⟩, ⟨1, none⟩, ⟨1, none⟩] ∧ w_FnMatrices_k16 w105 = some q0)) ?_ ?_
          ·rcases bsel_some h with ⟨hc77, h⟩ | ⟨hc77, h⟩
           ·rcases bsel_some h with ⟨hc78, h⟩ | ⟨hc78, h⟩
            ·rcases bsel_some h with ⟨hc79, h⟩ | ⟨hc79, h⟩
             ·obtain ⟨r102, hf80, h⟩ := obind_some h
              rcases bsel_some h with ⟨hc81, h⟩ | ⟨hc81, h⟩
              ·rcases bsel_some h with ⟨hc82, h⟩ | ⟨hc82, h⟩
               ·obtain ⟨e103, he83, h⟩ := obind_some h
                obtain ⟨e104, he84, h⟩ := obind_some h
                refine RunC.region_draw (Γ' := [⟨1, some [i64 r2, i64 r3, sl r4.length (r4.map f32)]⟩, ⟨4, some [i64 r98, i64 r99, sl r101.length (r101.map f32)]⟩, ⟨2, some [i64 r94, i64 r95, sl r97.length (r97.map f32)]⟩, ⟨u76, none⟩, ⟨u77, none⟩, ⟨1, none⟩, ⟨2, none⟩, ⟨2, none⟩, ⟨1, none⟩, ⟨1, none⟩]) 33 mixed 
                 (TR.l (r := b true) rfl rfl (LOp.eqb (LOp.move rfl rfl) hc77) <|
                 (TR.l (r := b true) rfl rfl (LOp.move rfl rfl) <|
                 (TR.l (r := b true) rfl rfl (LOp.eqb (LOp.move rfl rfl) hc78) <|
                 (TR.l (r := b true) rfl rfl (LOp.pick_true rfl rfl rfl) <|
                 (TR.l (r := b true) rfl rfl (LOp.move rfl rfl) <|
                 (TR.l (r := b true) rfl rfl (LOp.eqb (LOp.move rfl rfl) hc79) <|
                 (TR.l (r := b true) rfl rfl (LOp.pick_true rfl rfl rfl) <|
                 (TR.l (r := b true) rfl rfl (LOp.move rfl rfl) <|
                 (TR.d (r := agg [i64 r94, i64 r95, sl r97.length (r97.map f32)]) (fs := []) rfl rfl (TOp.loadAgg_o rfl agg26 siz26 rfl rfl rfl rfl) <|
                 (TR.d (r := agg [i64 r2, i64 r3, sl r4.length (r4.map f32)]) (fs := []) rfl rfl (TOp.loadAgg_o rfl agg26 siz26 rfl rfl rfl rfl) <|
                 (TR.d (r := b true) (fs := []) rfl rfl (TOp.eqb (TOp.callB (CallAs.func ent16 rfl rfl) (Bors.cons (Bor.agg (Bors.cons (Bor.pure rfl) (Bors.cons (Bor.pure rfl) (Bors.cons (Bor.sl (fun _ => rfl)) Bors.nil)))) (Bors.cons (Bor.agg (Bors.cons (Bor.pure rfl) (Bors.cons (Bor.pure rfl) (Bors.cons (Bor.sl (fun _ => rfl)) Bors.nil)))) Bors.nil)) rfl rfl (i_SameMatrix_ok r94 r95 r97 r2 r3 r4 r102 hf80)) hc81) <|
                 (TR.l (r := b true) rfl rfl (LOp.pick_true rfl rfl rfl) <|
                 (TR.l (r := b true) rfl rfl (LOp.move rfl rfl) <|
                 (TR.l (r := optr 1 4 2) rfl rfl (LOp.fao und26 rfl siz24 rfl rfl rfl) <|
                 (TR.d (r := sl r101.length (r101.map f32)) (fs := []) rfl rfl (TOp.load1_o rfl rfl agg24 rfl rfl) <|
                 (TR.l (r := i64 (r101.length : Int)) rfl rfl (LOp.len_sl und24 rfl rfl) <|
                 (TR.l (r := optr 0 1 2) rfl rfl (LOp.fao und26 rfl siz24 rfl rfl rfl) <|
                 (TR.d (r := sl r4.length (r4.map f32)) (fs := []) rfl rfl (TOp.load1_o rfl rfl agg24 rfl rfl) <|
                 (TR.l (r := i64 (r4.length : Int)) rfl rfl (LOp.len_sl und24 rfl rfl) <|
                 (TR.l (r := b true) rfl rfl (LOp.eqb (LOp.eql rfl rfl rfl) hc82) <|
                 (TR.l (r := b true) rfl rfl (LOp.pick_true rfl rfl rfl) <|
                 (TR.l (r := b true) rfl rfl (LOp.move rfl rfl) <|
                 (TR.l (r := optr 1 4 2) rfl rfl (LOp.fao und26 rfl siz24 rfl rfl rfl) <|
                 (TR.d (r := sl r101.length (r101.map f32)) (fs := []) rfl rfl (TOp.load1_o rfl rfl agg24 rfl rfl) <|
                 (TR.l (r := ptr [f32 e103]) rfl rfl (LOp.le (LOp.ix (f := f32) und24 siz36 rfl rfl rfl rfl he83) ALe.ptr) <|
                 (TR.l (r := f32 e103) rfl rfl (LOp.load1 agg36 rfl rfl) <|
                 (TR.l (r := optr 0 1 2) rfl rfl (LOp.fao und26 rfl siz24 rfl rfl rfl) <|
                 (TR.d (r := sl r4.length (r4.map f32)) (fs := []) rfl rfl (TOp.load1_o rfl rfl agg24 rfl rfl) <|
                 (TR.l (r := ptr [f32 e104]) rfl rfl (LOp.le (LOp.ix (f := f32) und24 siz36 rfl rfl rfl rfl he84) ALe.ptr) <|
                 (TR.l (r := f32 e104) rfl rfl (LOp.load1 agg36 rfl rfl) <|
                 (TR.l (r := b (feq .f32 e103 e104)) rfl rfl (LOp.feq rfl (OpF.tmp rfl) (OpF.tmp rfl)) <|
                 (TR.l (r := b (feq .f32 e103 e104)) rfl rfl (LOp.pick_true rfl rfl rfl) <|
                 (TR.l (r := b (feq .f32 e103 e104)) rfl rfl (LOp.assign rfl rfl) <|
                 TR.nil))))))))))))))))))))))))))))))))) rfl (by kernel_rfl) rfl fills_nil rfl ?_
                iterate 33 refine ROps.dropS ?_
                refine ROps.drop0 ?_
                refine zN ?_
                exact .inr (⟨(feq .f32 e103 e104), (Le.of ⟨aR, trivial⟩ ⟨⟨rfl, .inl rfl⟩, ⟨rfl, .inl rfl⟩, ⟨rfl, .inl rfl⟩, ⟨rfl, .inl rfl⟩, ⟨rfl, .inl rfl⟩, ⟨rfl, .inl rfl⟩, ⟨rfl, .inl rfl⟩, ⟨rfl, .inl rfl⟩, ⟨rfl, .inl rfl⟩, ⟨rfl, .inl rfl⟩, trivial⟩), h⟩)
               ·refine RunC.region_draw (Γ' := [⟨1, some [i64 r2, i64 r3, sl r4.length (r4.map f32)]⟩, ⟨4, some [i64 r98, i64 r99, sl r101.length (r101.map f32)]⟩, ⟨2, some [i64 r94, i64 r95, sl r97.length (r97.map f32)]⟩, ⟨u76, none⟩, ⟨u77, none⟩, ⟨1, none⟩, ⟨2, none⟩, ⟨2, none⟩, ⟨1, none⟩, ⟨1, none⟩]) 33 mixed 
                 (TR.l (r := b true) rfl rfl (LOp.eqb (LOp.move rfl rfl) hc77) <|
                 (TR.l (r := b true) rfl rfl (LOp.move rfl rfl) <|
                 (TR.l (r := b true) rfl rfl (LOp.eqb (LOp.move rfl rfl) hc78) <|
                 (TR.l (r := b true) rfl rfl (LOp.pick_true rfl rfl rfl) <|
                 (TR.l (r := b true) rfl rfl (LOp.move rfl rfl) <|
                 (TR.l (r := b true) rfl rfl (LOp.eqb (LOp.move rfl rfl) hc79) <|
                 (TR.l (r := b true) rfl rfl (LOp.pick_true rfl rfl rfl) <|
                 (TR.l (r := b true) rfl rfl (LOp.move rfl rfl) <|
                 (TR.d (r := agg [i64 r94, i64 r95, sl r97.length (r97.map f32)]) (fs := []) rfl rfl (TOp.loadAgg_o rfl agg26 siz26 rfl rfl rfl rfl) <|
                 (TR.d (r := agg [i64 r2, i64 r3, sl r4.length (r4.map f32)]) (fs := []) rfl rfl (TOp.loadAgg_o rfl agg26 siz26 rfl rfl rfl rfl) <|
                 (TR.d (r := b true) (fs := []) rfl rfl (TOp.eqb (TOp.callB (CallAs.func ent16 rfl rfl) (Bors.cons (Bor.agg (Bors.cons (Bor.pure rfl) (Bors.cons (Bor.pure rfl) (Bors.cons (Bor.sl (fun _ => rfl)) Bors.nil)))) (Bors.cons (Bor.agg (Bors.cons (Bor.pure rfl) (Bors.cons (Bor.pure rfl) (Bors.cons (Bor.sl (fun _ => rfl)) Bors.nil)))) Bors.nil)) rfl rfl (i_SameMatrix_ok r94 r95 r97 r2 r3 r4 r102 hf80)) hc81) <|
                 (TR.l (r := b true) rfl rfl (LOp.pick_true rfl rfl rfl) <|
                 (TR.l (r := b true) rfl rfl (LOp.move rfl rfl) <|
                 (TR.l (r := optr 1 4 2) rfl rfl (LOp.fao und26 rfl siz24 rfl rfl rfl) <|
                 (TR.d (r := sl r101.length (r101.map f32)) (fs := []) rfl rfl (TOp.load1_o rfl rfl agg24 rfl rfl) <|
                 (TR.l (r := i64 (r101.length : Int)) rfl rfl (LOp.len_sl und24 rfl rfl) <|
                 (TR.l (r := optr 0 1 2) rfl rfl (LOp.fao und26 rfl siz24 rfl rfl rfl) <|
                 (TR.d (r := sl r4.length (r4.map f32)) (fs := []) rfl rfl (TOp.load1_o rfl rfl agg24 rfl rfl) <|
                 (TR.l (r := i64 (r4.length : Int)) rfl rfl (LOp.len_sl und24 rfl rfl) <|
                 (TR.l (r := b false) rfl rfl (LOp.eqb (LOp.eql rfl rfl rfl) hc82) <|
                 (TR.l (r := b false) rfl rfl (LOp.pick_true rfl rfl rfl) <|
                 (TR.l (r := b false) rfl rfl (LOp.move rfl rfl) <|
                 (TR.s rfl rfl <|
                 (TR.s rfl rfl <|
                 (TR.s rfl rfl <|
                 (TR.s rfl rfl <|
                 (TR.s rfl rfl <|
                 (TR.s rfl rfl <|
                 (TR.s rfl rfl <|
                 (TR.s rfl rfl <|
                 (TR.s rfl rfl <|
                 (TR.l (r := b false) rfl rfl (LOp.pick_false rfl rfl rfl) <|
                 (TR.l (r := b false) rfl rfl (LOp.assign rfl rfl) <|
                 TR.nil))))))))))))))))))))))))))))))))) rfl (by kernel_rfl) rfl fills_nil rfl ?_
                iterate 33 refine ROps.dropS ?_
                refine ROps.drop0 ?_
                refine zN ?_
                exact .inl ⟨(Le.of ⟨aR, trivial⟩ ⟨⟨rfl, .inl rfl⟩, ⟨rfl, .inl rfl⟩, ⟨rfl, .inl rfl⟩, ⟨rfl, .inl rfl⟩, ⟨rfl, .inl rfl⟩, ⟨rfl, .inl rfl⟩, ⟨rfl, .inl rfl⟩, ⟨rfl, .inl rfl⟩, ⟨rfl, .inl rfl⟩, ⟨rfl, .inl rfl⟩, trivial⟩), h⟩
              ·refine RunC.region_draw (Γ' := [⟨1, some [i64 r2, i64 r3, sl r4.length (r4.map f32)]⟩, ⟨4, some [i64 r98, i64 r99, sl r101.length (r101.map f32)]⟩, ⟨2, some [i64 r94, i64 r95, sl r97.length (r97.map f32)]⟩, ⟨u76, none⟩, ⟨u77, none⟩, ⟨1, none⟩, ⟨2, none⟩, ⟨2, none⟩, ⟨1, none⟩, ⟨1, none⟩]) 33 mixed 
                (TR.l (r := b true) rfl rfl (LOp.eqb (LOp.move rfl rfl) hc77) <|
                (TR.l (r := b true) rfl rfl (LOp.move rfl rfl) <|
                (TR.l (r := b true) rfl rfl (LOp.eqb (LOp.move rfl rfl) hc78) <|
                (TR.l (r := b true) rfl rfl (LOp.pick_true rfl rfl rfl) <|
                (TR.l (r := b true) rfl rfl (LOp.move rfl rfl) <|
                (TR.l (r := b true) rfl rfl (LOp.eqb (LOp.move rfl rfl) hc79) <|
                (TR.l (r := b true) rfl rfl (LOp.pick_true rfl rfl rfl) <|
                (TR.l (r := b true) rfl rfl (LOp.move rfl rfl) <|
                (TR.d (r := agg [i64 r94, i64 r95, sl r97.length (r97.map f32)]) (fs := []) rfl rfl (TOp.loadAgg_o rfl agg26 siz26 rfl rfl rfl rfl) <|
                (TR.d (r := agg [i64 r2, i64 r3, sl r4.length (r4.map f32)]) (fs := []) rfl rfl (TOp.loadAgg_o rfl agg26 siz26 rfl rfl rfl rfl) <|
                (TR.d (r := b false) (fs := []) rfl rfl (TOp.eqb (TOp.callB (CallAs.func ent16 rfl rfl) (Bors.cons (Bor.agg (Bors.cons (Bor.pure rfl) (Bors.cons (Bor.pure rfl) (Bors.cons (Bor.sl (fun _ => rfl)) Bors.nil)))) (Bors.cons (Bor.agg (Bors.cons (Bor.pure rfl) (Bors.cons (Bor.pure rfl) (Bors.cons (Bor.sl (fun _ => rfl)) Bors.nil)))) Bors.nil)) rfl rfl (i_SameMatrix_ok r94 r95 r97 r2 r3 r4 r102 hf80)) hc81) <|
                (TR.l (r := b false) rfl rfl (LOp.pick_true rfl rfl rfl) <|
                (TR.l (r := b false) rfl rfl (LOp.move rfl rfl) <|
                (TR.s rfl rfl <|
                (TR.s rfl rfl <|
                (TR.s rfl rfl <|
                (TR.s rfl rfl <|
                (TR.s rfl rfl <|
                (TR.s rfl rfl <|
                (TR.s rfl rfl <|
                (TR.l (r := b false) rfl rfl (LOp.pick_false rfl rfl rfl) <|
                (TR.l (r := b false) rfl rfl (LOp.move rfl rfl) <|
                (TR.s rfl rfl <|
                (TR.s rfl rfl <|
                (TR.s rfl rfl <|
                (TR.s rfl rfl <|
                (TR.s rfl rfl <|
                (TR.s rfl rfl <|
                (TR.s rfl rfl <|
                (TR.s rfl rfl <|
                (TR.s rfl rfl <|
                (TR.l (r := b false) rfl rfl (LOp.pick_false rfl rfl rfl) <|
                (TR.l (r := b false) rfl rfl (LOp.assign rfl rfl) <|
                TR.nil))))))))))))))))))))))))))))))))) rfl (by kernel_rfl) rfl fills_nil rfl ?_
               iterate 33 refine ROps.dropS ?_
               refine ROps.drop0 ?_
               refine zN ?_
               exact .inl ⟨(Le.of ⟨aR, trivial⟩ ⟨⟨rfl, .inl rfl⟩, ⟨rfl, .inl rfl⟩, ⟨rfl, .inl rfl⟩, ⟨rfl, .inl rfl⟩, ⟨rfl, .inl rfl⟩, ⟨rfl, .inl rfl⟩, ⟨rfl, .inl rfl⟩, ⟨rfl, .inl rfl⟩, ⟨rfl, .inl rfl⟩, ⟨rfl, .inl rfl⟩, trivial⟩), h⟩
             ·refine RunC.region_draw (Γ' := [⟨1, some [i64 r2, i64 r3, sl r4.length (r4.map f32)]⟩, ⟨4, some [i64 r98, i64 r99, sl r101.length (r101.map f32)]⟩, ⟨2, some [i64 r94, i64 r95, sl r97.length (r97.map f32)]⟩, ⟨u76, none⟩, ⟨u77, none⟩, ⟨1, none⟩, ⟨2, none⟩, ⟨2, none⟩, ⟨1, none⟩, ⟨1, none⟩]) 33 mixed 
               (TR.l (r := b true) rfl rfl (LOp.eqb (LOp.move rfl rfl) hc77) <|
               (TR.l (r := b true) rfl rfl (LOp.move rfl rfl) <|
               (TR.l (r := b true) rfl rfl (LOp.eqb (LOp.move rfl rfl) hc78) <|
               (TR.l (r := b true) rfl rfl (LOp.pick_true rfl rfl rfl) <|
               (TR.l (r := b true) rfl rfl (LOp.move rfl rfl) <|
               (TR.l (r := b false) rfl rfl (LOp.eqb (LOp.move rfl rfl) hc79) <|
               (TR.l (r := b false) rfl rfl (LOp.pick_true rfl rfl rfl) <|
               (TR.l (r := b false) rfl rfl (LOp.move rfl rfl) <|
               (TR.s rfl rfl <|
               (TR.s rfl rfl <|
               (TR.s rfl rfl <|
               (TR.l (r := b false) rfl rfl (LOp.pick_false rfl rfl rfl) <|
               (TR.l (r := b false) rfl rfl (LOp.move rfl rfl) <|
               (TR.s rfl rfl <|
               (TR.s rfl rfl <|
               (TR.s rfl rfl <|
               (TR.s rfl rfl <|
               (TR.s rfl rfl <|
               (TR.s rfl rfl <|
               (TR.s rfl rfl <|
               (TR.l (r := b false) rfl rfl (LOp.pick_false rfl rfl rfl) <|
               (TR.l (r := b false) rfl rfl (LOp.move rfl rfl) <|
               (TR.s rfl rfl <|
               (TR.s rfl rfl <|
               (TR.s rfl rfl <|
               (TR.s rfl rfl <|
               (TR.s rfl rfl <|
               (TR.s rfl rfl <|
               (TR.s rfl rfl <|
               (TR.s rfl rfl <|
               (TR.s rfl rfl <|
               (TR.l (r := b false) rfl rfl (LOp.pick_false rfl rfl rfl) <|
               (TR.l (r := b false) rfl rfl (LOp.assign rfl rfl) <|
               TR.nil))))))))))))))))))))))))))))))))) rfl (by kernel_rfl) rfl fills_nil rfl ?_
              iterate 33 refine ROps.dropS ?_
              refine ROps.drop0 ?_
              refine zN ?_
              exact .inl ⟨(Le.of ⟨aR, trivial⟩ ⟨⟨rfl, .inl rfl⟩, ⟨rfl, .inl rfl⟩, ⟨rfl, .inl rfl⟩, ⟨rfl, .inl rfl⟩, ⟨rfl, .inl rfl⟩, ⟨rfl, .inl rfl⟩, ⟨rfl, .inl rfl⟩, ⟨rfl, .inl rfl⟩, ⟨rfl, .inl rfl⟩, ⟨rfl, .inl rfl⟩, trivial⟩), h⟩
            ·refine RunC.region_draw (Γ' := [⟨1, some [i64 r2, i64 r3, sl r4.length (r4.map f32)]⟩, ⟨4, some [i64 r98, i64 r99, sl r101.length (r101.map f32)]⟩, ⟨2, some [i64 r94, i64 r95, sl r97.length (r97.map f32)]⟩, ⟨u76, none⟩, ⟨u77, none⟩, ⟨1, none⟩, ⟨2, none⟩, ⟨2, none⟩, ⟨1, none⟩, ⟨1, none⟩]) 33 mixed 
              (TR.l (r := b true) rfl rfl (LOp.eqb (LOp.move rfl rfl) hc77) <|
              (TR.l (r := b true) rfl rfl (LOp.move rfl rfl) <|
              (TR.l (r := b false) rfl rfl (LOp.eqb (LOp.move rfl rfl) hc78) <|
              (TR.l (r := b false) rfl rfl (LOp.pick_true rfl rfl rfl) <|
              (TR.l (r := b false) rfl rfl (LOp.move rfl rfl) <|
              (TR.s rfl rfl <|
              (TR.l (r := b false) rfl rfl (LOp.pick_false rfl rfl rfl) <|
              (TR.l (r := b false) rfl rfl (LOp.move rfl rfl) <|
              (TR.s rfl rfl <|
              (TR.s rfl rfl <|
              (TR.s rfl rfl <|
              (TR.l (r := b false) rfl rfl (LOp.pick_false rfl rfl rfl) <|
              (TR.l (r := b false) rfl rfl (LOp.move rfl rfl) <|
              (TR.s rfl rfl <|
              (TR.s rfl rfl <|
              (TR.s rfl rfl <|
              (TR.s rfl rfl <|
              (TR.s rfl rfl <|
              (TR.s rfl rfl <|
              (TR.s rfl rfl <|
              (TR.l (r := b false) rfl rfl (LOp.pick_false rfl rfl rfl) <|
              (TR.l (r := b false) rfl rfl (LOp.move rfl rfl) <|
              (TR.s rfl rfl <|
              (TR.s rfl rfl <|
              (TR.s rfl rfl <|
              (TR.s rfl rfl <|
              (TR.s rfl rfl <|
              (TR.s rfl rfl <|
              (TR.s rfl rfl <|
              (TR.s rfl rfl <|
              (TR.s rfl rfl <|
              (TR.l (r := b false) rfl rfl (LOp.pick_false rfl rfl rfl) <|
              (TR.l (r := b false) rfl rfl (LOp.assign rfl rfl) <|
              TR.nil))))))))))))))))))))))))))))))))) rfl (by kernel_rfl) rfl fills_nil rfl ?_
             iterate 33 refine ROps.dropS ?_
             refine ROps.drop0 ?_
             refine zN ?_
             exact .inl ⟨(Le.of ⟨aR, trivial⟩ ⟨⟨rfl, .inl rfl⟩, ⟨rfl, .inl rfl⟩, ⟨rfl, .inl rfl⟩, ⟨rfl, .inl rfl⟩, ⟨rfl, .inl rfl⟩, ⟨rfl, .inl rfl⟩, ⟨rfl, .inl rfl⟩, ⟨rfl, .inl rfl⟩, ⟨rfl, .inl rfl⟩, ⟨rfl, .inl rfl⟩, trivial⟩), h⟩
           ·refine RunC.region_draw (Γ' := [⟨1, some [i64 r2, i64 r3, sl r4.length (r4.map f32)]⟩, ⟨4, some [i64 r98, i64 r99, sl r101.length (r101.map f32)]⟩, ⟨2, some [i64 r94, i64 r95, sl r97.length (r97.map f32)]⟩, ⟨u76, none⟩, ⟨u77, none⟩, ⟨1, none⟩, ⟨2, none⟩, ⟨2, none⟩, ⟨1, none⟩, ⟨1, none⟩]) 33 mixed 
             (TR.l (r := b false) rfl rfl (LOp.eqb (LOp.move rfl rfl) hc77) <|
             (TR.l (r := b false) rfl rfl (LOp.move rfl rfl) <|
             (TR.s rfl rfl <|
             (TR.l (r := b false) rfl rfl (LOp.pick_false rfl rfl rfl) <|
             (TR.l (r := b false) rfl rfl (LOp.move rfl rfl) <|
             (TR.s rfl rfl <|
             (TR.l (r := b false) rfl rfl (LOp.pick_false rfl rfl rfl) <|
             (TR.l (r := b false) rfl rfl (LOp.move rfl rfl) <|
             (TR.s rfl rfl <|
             (TR.s rfl rfl <|
             (TR.s rfl rfl <|
             (TR.l (r := b false) rfl rfl (LOp.pick_false rfl rfl rfl) <|
             (TR.l (r := b false) rfl rfl (LOp.move rfl rfl) <|
             (TR.s rfl rfl <|
             (TR.s rfl rfl <|
             (TR.s rfl rfl <|
             (TR.s rfl rfl <|
             (TR.s rfl rfl <|
             (TR.s rfl rfl <|
             (TR.s rfl rfl <|
             (TR.l (r := b false) rfl rfl (LOp.pick_false rfl rfl rfl) <|
             (TR.l (r := b false) rfl rfl (LOp.move rfl rfl) <|
             (TR.s rfl rfl <|
             (TR.s rfl rfl <|
             (TR.s rfl rfl <|
             (TR.s rfl rfl <|
             (TR.s rfl rfl <|
             (TR.s rfl rfl <|
             (TR.s rfl rfl <|
             (TR.s rfl rfl <|
             (TR.s rfl rfl <|
             (TR.l (r := b false) rfl rfl (LOp.pick_false rfl rfl rfl) <|
             (TR.l (r := b false) rfl rfl (LOp.assign rfl rfl) <|
             TR.nil))))))))))))))))))))))))))))))))) rfl (by kernel_rfl) rfl fills_nil rfl ?_
            iterate 33 refine ROps.dropS ?_
            refine ROps.drop0 ?_
            refine zN ?_
            exact .inl ⟨(Le.of ⟨aR, trivial⟩ ⟨⟨rfl, .inl rfl⟩, ⟨rfl, .inl rfl⟩, ⟨rfl, .inl rfl⟩, ⟨rfl, .inl rfl⟩, ⟨rfl, .inl rfl⟩, ⟨rfl, .inl rfl⟩, ⟨rfl, .inl rfl⟩, ⟨rfl, .inl rfl⟩, ⟨rfl, .inl rfl⟩, ⟨rfl, .inl rfl⟩, trivial⟩), h⟩
          ·rintro τ31 Γ31 (⟨hw31, h⟩ | ⟨w105, hw31, h⟩)
           ·refine RunC.le (τ' := [(4, b false)]) (Γ' := [⟨1, none⟩, ⟨4, none⟩, ⟨2, none⟩, ⟨u76, none⟩, ⟨u77, none⟩, ⟨1, none⟩, ⟨2, none⟩, ⟨2, none⟩, ⟨1, none⟩, ⟨1, none⟩]) hw31 ?_
            unfold w_FnMatrices_k14 at h
            refine RunC.ret ?_
            have hq := Option.some.inj h
            subst q0
            exact bodyQ.pure (.inr rfl) rfl (Res.one rfl (RV.tmp rfl))
           ·refine RunC.le (τ' := [(4, b w105)]) (Γ' := [⟨1, none⟩, ⟨4, none⟩, ⟨2, none⟩, ⟨u76, none⟩, ⟨u77, none⟩, ⟨1, none⟩, ⟨2, none⟩, ⟨2, none⟩, ⟨1, none⟩, ⟨1, none⟩]) hw31 ?_
            unfold w_FnMatrices_k16 at h
            refine RunC.ret ?_
            have hq := Option.some.inj h
            subst q0
            exact bodyQ.pure (.inr rfl) rfl (Res.one rfl (RV.tmp rfl))
end Go.Proofs.Ytcjbfpoaidjpaaa
