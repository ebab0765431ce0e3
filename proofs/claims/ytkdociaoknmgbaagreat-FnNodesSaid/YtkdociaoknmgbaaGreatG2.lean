/- Generated. -/
import Derived.Test.YtkdociaoknmgbaaGreatG1
namespace Go.Proofs.YtkdociaoknmgbaaGreat
open Go Go.AM Go.AM.AV
set_option maxRecDepth 20000
set_option maxHeartbeats 4000000
set_option linter.unusedVariables false
set_option linter.unusedSimpArgs false
noncomputable section
def w_FnNodes_b1 (a0 : List Int) (x3 : Int) (L10 : List F) (y11 : F) (v12 : Int) : Option (LR ((List F) × F × Int) ((List F)) (Bool)) :=
 bsel (decide (v12 < x3)) (
  need (apok 4 L10.length 1) <|
  olet (IntKind.i64.wrap (v12 + 1)) fun (x13 : Int) =>
  obind (w_b10At a0 x13 5) fun (r14 : Int) =>
  olet (IntKind.i64.wrap (2 + r14)) fun (x15 : Int) =>
  olet (fint .f32 x15) fun (x16 : F) =>
  olet (fop .quo .f32 x16 (some 1082130432)) fun (x17 : F) =>
  olet (fop .add .f32 y11 x17) fun (x18 : F) =>
  olet (IntKind.i64.wrap (v12 + 1)) fun (x19 : Int) =>
  some (LR.next ((L10 ++ ([y11] : List F)), x18, x19))) (
  some (LR.out L10))
def w_FnNodes_s1 (a0 : List Int) (x3 : Int) : ((List F) × F × Int) → Option (LR ((List F) × F × Int) ((List F)) (Bool)) := fun s => w_FnNodes_b1 a0 x3 s.1 s.2.1 s.2.2
def w_FnNodes_k3  : Option (Bool) :=
 some false
def w_FnNodes_b6 (L22 : List F) (r23 : List F) (r25 : List F) (v28 : Int) : Option (LR (Int) (Unit) (Bool)) :=
 bsel (decide (v28 < ((L22.length : Nat) : Int))) (
  obind (at? L22 v28) fun (e29 : F) =>
  obind2 (i_NewtonAt L22 r25 e29) fun (r30 : F) (r31 : Bool) =>
  bsel r31 (
   olet (fwiden r30) fun (x32 : F) =>
   obind (at? r23 v28) fun (e33 : F) =>
   olet (fwiden e33) fun (x34 : F) =>
   obind (w_b10Gap x32 x34) fun (r35 : F) =>
   bsel (flt .f64 (some 4576918229304087675) r35) (
    some (LR.ret false)) (
    olet (IntKind.i64.wrap (v28 + 1)) fun (x36 : Int) =>
    some (LR.next x36))) (
   some (LR.ret false))) (
  some (LR.out ()))
def w_FnNodes_s6 (L22 : List F) (r23 : List F) (r25 : List F) : (Int) → Option (LR (Int) (Unit) (Bool)) := fun s => w_FnNodes_b6 L22 r23 r25 s
def w_FnNodes_b7 (r40 : List F) (L42 : List F) (L44 : List F) (v46 : Int) : Option (LR ((List F) × (List F) × Int) ((List F) × (List F)) (Bool)) :=
 bsel (decide (v46 < ((r40.length : Nat) : Int))) (
  obind (at? L42 v46) fun (e47 : F) =>
  olet (fop .quo .f32 e47 (some 1098907648)) fun (x48 : F) =>
  obind (setAt? L42 v46 x48) fun (L49 : List F) =>
  obind (at? L44 v46) fun (e50 : F) =>
  olet (fop .quo .f32 e50 (some 1098907648)) fun (x51 : F) =>
  obind (setAt? L44 v46 x51) fun (L52 : List F) =>
  olet (IntKind.i64.wrap (v46 + 1)) fun (x53 : Int) =>
  some (LR.next (L49, L52, x53))) (
  some (LR.out (L42, L44)))
def w_FnNodes_s7 (r40 : List F) : ((List F) × (List F) × Int) → Option (LR ((List F) × (List F) × Int) ((List F) × (List F)) (Bool)) := fun s => w_FnNodes_b7 r40 s.1 s.2.1 s.2.2
def w_FnNodes_k9  : Option (Bool) :=
 some false
def w_FnNodes_b12 (L56 : List F) (r64 : List F) (y69 : F) (v70 : Int) : Option (LR (F × Int) (F) (Bool)) :=
 bsel (decide (v70 < ((r64.length : Nat) : Int))) (
  obind (at? L56 v70) fun (e71 : F) =>
  olet (fwiden e71) fun (x72 : F) =>
  obind (at? r64 v70) fun (e73 : F) =>
  olet (fwiden e73) fun (x74 : F) =>
  olet (fop .mul .f64 x72 x74) fun (x75 : F) =>
  olet (fop .add .f64 y69 x75) fun (x76 : F) =>
  olet (IntKind.i64.wrap (v70 + 1)) fun (x77 : Int) =>
  some (LR.next (x76, x77))) (
  some (LR.out y69))
def w_FnNodes_s12 (L56 : List F) (r64 : List F) : (F × Int) → Option (LR (F × Int) (F) (Bool)) := fun s => w_FnNodes_b12 L56 r64 s.1 s.2
def w_FnNodes_k14  : Option (Bool) :=
 some false
def w_FnNodes_b17 (r23 : List F) (L54 : List F) (y79 : F) (r81 : List F) (v84 : Int) : Option (LR (Int) (Unit) (Bool)) :=
 bsel (decide (v84 < ((r81.length : Nat) : Int))) (
  obind (at? r81 v84) fun (e85 : F) =>
  olet (fwiden e85) fun (x86 : F) =>
  obind (at? L54 v84) fun (e87 : F) =>
  olet (fwiden e87) fun (x88 : F) =>
  olet (fop .mul .f64 y79 x88) fun (x89 : F) =>
  olet (fop .add .f64 x86 x89) fun (x90 : F) =>
  obind (at? r23 v84) fun (e91 : F) =>
  olet (fwiden e91) fun (x92 : F) =>
  obind (w_b10Gap x90 x92) fun (r93 : F) =>
  bsel (flt .f64 (some 4576918229304087675) r93) (
   some (LR.ret false)) (
   olet (IntKind.i64.wrap (v84 + 1)) fun (x94 : Int) =>
   some (LR.next x94))) (
  some (LR.out ()))
def w_FnNodes_s17 (r23 : List F) (L54 : List F) (y79 : F) (r81 : List F) : (Int) → Option (LR (Int) (Unit) (Bool)) := fun s => w_FnNodes_b17 r23 L54 y79 r81 s
def w_FnNodes_k19  : Option (Bool) :=
 some false
def w_FnNodes_k21 (x3 : Int) (r101 : Int) : Option (Bool) :=
 some (decide (r101 = x3))
def w_FnNodes_k17 (x3 : Int) (r37 : Int) (r38 : Int) (r39 : List F) : Option (Bool) :=
 obind6 (i_CrossOf r37 r38 r39 (some 981668463) x3) fun (r95 : Int) (r96 : Int) (r97 : Bool) (r98 : List F) (r99 : List Int) (r100 : List Int) =>
 obind6 (i_CrossOf r37 r38 r39 (some 981668463) 1) fun (r101 : Int) (r102 : Int) (r103 : Bool) (r104 : List F) (r105 : List Int) (r106 : List Int) =>
 bsel r97 (
  bsel r103 (
   obind (w_b10FarMatrix r95 r96 r98 r37 r38 r39 (some 4576918229304087675)) fun (r107 : Bool) =>
   bsel r107 (
    w_FnNodes_k19) (
    bsel (decide ((r99.length : Int) = x3)) (
     bsel (decide ((r100.length : Int) = x3)) (
      bsel (decide ((r105.length : Int) = 1)) (
       bsel (decide ((r106.length : Int) = 1)) (
        obind (at? r105 0) fun (e108 : Int) =>
        obind (at? r99 0) fun (e109 : Int) =>
        bsel (decide (e108 = e109)) (
         obind (at? r106 0) fun (e110 : Int) =>
         obind (at? r100 0) fun (e111 : Int) =>
         bsel (decide (e110 = e111)) (
          obind (s_ValidMatrix r101 r102 r104) fun (r112 : Bool) =>
          bsel r112 (
           w_FnNodes_k21 x3 r101) (
           w_FnNodes_k19)) (
          w_FnNodes_k19)) (
         w_FnNodes_k19)) (
        w_FnNodes_k19)) (
       w_FnNodes_k19)) (
      w_FnNodes_k19)) (
     w_FnNodes_k19))) (
   w_FnNodes_k19)) (
  w_FnNodes_k19)
def w_FnNodes_k16 (x3 : Int) (r23 : List F) (r37 : Int) (r38 : Int) (r39 : List F) (L54 : List F) (y79 : F) (r81 : List F) : Option (Bool) :=
 obind (loopM (w_FnNodes_s17 r23 L54 y79 r81) 0) fun z => osum z (fun e => w_FnNodes_k17 x3 r37 r38 r39) (fun r => some r)
def w_FnNodes_k12 (x3 : Int) (r23 : List F) (r37 : Int) (r38 : Int) (r39 : List F) (L54 : List F) (r64 : List F) (y79 : F) : Option (Bool) :=
 obind2 (s_TimesVector r37 r38 r39 r64) fun (r80 : Bool) (r81 : List F) =>
 bsel r80 (
  bsel (!decide (((r81.length : Nat) : Int) = x3)) (
   w_FnNodes_k14) (
   w_FnNodes_k16 x3 r23 r37 r38 r39 L54 y79 r81)) (
  w_FnNodes_k14)
def w_FnNodes_k11 (x3 : Int) (r23 : List F) (r37 : Int) (r38 : Int) (r39 : List F) (L54 : List F) (L56 : List F) (r64 : List F) : Option (Bool) :=
 obind (loopM (w_FnNodes_s12 L56 r64) (some 0, 0)) fun z => osum z (fun e => w_FnNodes_k12 x3 r23 r37 r38 r39 L54 r64 e) (fun r => some r)
def w_FnNodes_k7 (x3 : Int) (r23 : List F) (r37 : Int) (r38 : Int) (r39 : List F) (L54 : List F) (L56 : List F) : Option (Bool) :=
 obind5 (s_FactorRows r37 r38 r39) fun (r58 : Int) (r59 : Int) (r60 : Bool) (r61 : List F) (r62 : List Int) =>
 obind2 (i_UpdatedSolve r58 r59 r61 r62 L54 L56 r23) fun (r63 : Bool) (r64 : List F) =>
 bsel r60 (
  bsel r63 (
   bsel (!decide (((r64.length : Nat) : Int) = x3)) (
    w_FnNodes_k9) (
    w_FnNodes_k11 x3 r23 r37 r38 r39 L54 L56 r64)) (
   w_FnNodes_k9)) (
  w_FnNodes_k9)
def w_FnNodes_k6 (a0 : List Int) (a1 : List Int) (x3 : Int) (r23 : List F) : Option (Bool) :=
 obind3 (s_B10Square a0 x3) fun (r37 : Int) (r38 : Int) (r39 : List F) =>
 obind (s_B10Vector a1 x3) fun (r40 : List F) =>
 obind (s_B10Vector a0 x3) fun (r41 : List F) =>
 obind (loopM (w_FnNodes_s7 r40) (r40, r41, 0)) fun z => osum z (fun e => w_FnNodes_k7 x3 r23 r37 r38 r39 e.1 e.2) (fun r => some r)
def w_FnNodes_k5 (a0 : List Int) (a1 : List Int) (x3 : Int) (L22 : List F) (r23 : List F) (r25 : List F) : Option (Bool) :=
 obind (loopM (w_FnNodes_s6 L22 r23 r25) 0) fun z => osum z (fun e => w_FnNodes_k6 a0 a1 x3 r23) (fun r => some r)
def w_FnNodes_k1 (a0 : List Int) (a1 : List Int) (x3 : Int) (L22 : List F) : Option (Bool) :=
 obind (s_B10Vector a1 x3) fun (r23 : List F) =>
 obind2 (i_DividedOf L22 r23) fun (r24 : Bool) (r25 : List F) =>
 bsel r24 (
  bsel (!decide (((r25.length : Nat) : Int) = x3)) (
   w_FnNodes_k3) (
   obind (at? r25 0) fun (e26 : F) =>
   obind (at? r23 0) fun (e27 : F) =>
   bsel (!feq .f32 e26 e27) (
    w_FnNodes_k3) (
    w_FnNodes_k5 a0 a1 x3 L22 r23 r25))) (
  w_FnNodes_k3)
def w_FnNodes (a0 : List Int) (a1 : List Int) : Option (Bool) :=
 obind (w_b10Long a0 a1) fun (r1 : Bool) =>
 bsel r1 (
  some true) (
  obind (w_b10At a1 0 6) fun (r2 : Int) =>
  olet (IntKind.i64.wrap (1 + r2)) fun (x3 : Int) =>
  obind (w_b10At a0 0 9) fun (r4 : Int) =>
  olet (IntKind.i64.wrap (r4 - 4)) fun (x5 : Int) =>
  olet (fint .f32 x5) fun (x6 : F) =>
  olet (fop .quo .f32 x6 (some 1073741824)) fun (x7 : F) =>
  obind (loopM (w_FnNodes_s1 a0 x3) (([] : List F), x7, 0)) fun z => osum z (fun e => w_FnNodes_k1 a0 a1 x3 e) (fun r => some r))
theorem w_FnNodes_ok (a0 : List Int) (a1 : List Int) (q0 : Bool) (h : w_FnNodes a0 a1 = some q0) : Ev Tryz.prog 4 [sl a0.length (a0.map (ik .u8)), sl a1.length (a1.map (ik .u8))] [] (b q0) [] := by
 refine yE Tryz.func4 5 623 0 [(0, sl a0.length (a0.map (ik .u8))), (1, sl a1.length (a1.map (ik .u8)))] [⟨0, none⟩, ⟨0, none⟩, ⟨0, none⟩, ⟨0, none⟩, ⟨0, none⟩] rfl ?_
 unfold w_FnNodes at h
 refine zQ<|ya rfl (b false)<|zN ?_
 refine yS<|yS ?_
 obtain ⟨r1, hf1, h⟩ := oS h
 rcases oB h with ⟨hc2, h⟩ | ⟨hc2, h⟩
 ·refine yW<|ym rfl (sl a0.length (a0.map (ik .u8)))<|ym rfl (sl a1.length (a1.map (ik .u8)))<|yd rfl (b true) (TOp.eqb (yc ent5 rfl rfl (bS (bS bN)) (w_b10Long_ok a0 a1 r1 hf1)) hc2)<|zN ?_
  refine yT<|zQ<|ya rfl (b true)<|zN ?_
  refine RunC.ret ?_
  have hq := oI h
  subst q0
  exact bodyQ.pure (.inr rfl) rfl (Res.one rfl (RV.tmp rfl))
 ·refine yW<|ym rfl (sl a0.length (a0.map (ik .u8)))<|ym rfl (sl a1.length (a1.map (ik .u8)))<|yd rfl (b false) (TOp.eqb (yc ent5 rfl rfl (bS (bS bN)) (w_b10Long_ok a0 a1 r1 hf1)) hc2)<|zN ?_
  refine yF<|RunC.skip<|yS ?_
  obtain ⟨r2, hf3, h⟩ := oS h
  obtain ⟨x3, hx4, h⟩ := oL h
  refine yW<|ym rfl (sl a1.length (a1.map (ik .u8)))<|yd rfl (i64 r2) (yc ent6 rfl rfl (bS (bP bN0)) (w_b10At_ok a1 0 6 r2 hf3))<|yl rfl (i64 x3) (LOp.eqr (LOp.add rfl rfl rfl) (congrArg (ik .i64) hx4))<|ya rfl (i64 x3)<|zN ?_
  refine zQ<|ye rfl (oref 0 1 0 0) ([⟨1, some (([] : List F).map f32)⟩, ⟨0, none⟩, ⟨0, none⟩, ⟨0, none⟩, ⟨0, none⟩]) (TOp.buildSlice_o (g := ⟨0, none⟩) (za := f32 (some 0)) (qs := []) 0 rfl und25 siz41 zer41 rfl zel41 rfl rfl trivial rfl)<|ya rfl (oref 0 1 0 0)<|zN ?_
  refine yS ?_
  obtain ⟨r4, hf5, h⟩ := oS h
  obtain ⟨x5, hx6, h⟩ := oL h
  obtain ⟨x6, hx7, h⟩ := oL h
  obtain ⟨x7, hx8, h⟩ := oL h
  refine yW<|ym rfl (sl a0.length (a0.map (ik .u8)))<|yd rfl (i64 r4) (yc ent6 rfl rfl (bS (bP bN0)) (w_b10At_ok a0 0 9 r4 hf5))<|yl rfl (i64 x5) (LOp.eqr (LOp.sub rfl rfl rfl) (congrArg (ik .i64) hx6))<|yl rfl (f32 x6) (LOp.eqr (LOp.i2f (src := 2) (dst := 41) ⟨_, pun2⟩ pun41 rfl rfl) (congrArg (f .f32) hx7))<|yd rfl (f32 x7) (TOp.eqr (TOp.fop (.inr (.inr (.inr rfl))) rfl (OpF.tmp rfl) (OpF.const rfl (by kernel_rfl) (by kernel_rfl))) (congrArg (f .f32) hx8))<|ya rfl (f32 x7)<|zN ?_
  refine yS<|zQ<|ya rfl (i64 0)<|zN ?_
  obtain ⟨z22, hz_22, h⟩ := oS h
  refine RunC.cutN (fun τ Γ => ∃ (L22 : List F) (u20 : Nat) (u21 : Nat), Le 623 τ Γ [(0, sl a0.length (a0.map (ik .u8))), (1, sl a1.length (a1.map (ik .u8))), (5, i64 x3), (6, oref 0 u20 0 L22.length)] [⟨u20, some (L22.map f32)⟩, ⟨u21, none⟩, ⟨0, none⟩, ⟨0, none⟩, ⟨0, none⟩] ∧ z22 = .inl L22) ?_ ?_
  ·refine RunC.block (RunC.loop (RunL.loopM (x := z22) (w_FnNodes_s1 a0 x3) (fun (s : (List F) × F × Int) τ Γ => ∃ (u8 : Nat) (u9 : Nat), Le 623 τ Γ [(0, sl a0.length (a0.map (ik .u8))), (1, sl a1.length (a1.map (ik .u8))), (5, i64 x3), (6, oref 0 u8 0 s.1.length), (7, f32 s.2.1), (8, i64 s.2.2)] [⟨u8, some (s.1.map f32)⟩, ⟨u9, none⟩, ⟨0, none⟩, ⟨0, none⟩, ⟨0, none⟩]) ?_ _ _ _ hz_22 ⟨1, 0, (Le.of ⟨aR, aR, aR, aR, aR, aR, trivial⟩ ⟨⟨rfl, .inr rfl⟩, ⟨rfl, .inl rfl⟩, ⟨rfl, .inr rfl⟩, ⟨rfl, .inr rfl⟩, ⟨rfl, .inr rfl⟩, trivial⟩)⟩))
   rintro ⟨L10, y11, v12⟩ τ22 Γ22 y22_ ⟨u8, u9, hw22⟩ h22_ ho22 hr22
   refine RunC.le (τ' := [(0, sl a0.length (a0.map (ik .u8))), (1, sl a1.length (a1.map (ik .u8))), (5, i64 x3), (6, oref 0 u8 0 L10.length), (7, f32 y11), (8, i64 v12)]) (Γ' := [⟨u8, some (L10.map f32)⟩, ⟨u9, none⟩, ⟨0, none⟩, ⟨0, none⟩, ⟨0, none⟩]) hw22 ?_
   replace h22_ : w_FnNodes_b1 a0 x3 L10 y11 v12 = some y22_ := h22_
   unfold w_FnNodes_b1 at h22_
   refine yS<|yS ?_
   rcases oB h22_ with ⟨hc9, h22_⟩ | ⟨hc9, h22_⟩
   ·refine yW<|ym rfl (i64 v12)<|ym rfl (i64 x3)<|yl rfl (b true) (LOp.eqb (LOp.lss rfl rfl rfl) hc9)<|zN ?_
    refine yT<|RunC.skip<|yS<|RunC.block<|yS ?_
    obtain ⟨hm10, h22_⟩ := need_some h22_
    refine yW<|ym rfl (oref 0 u8 0 L10.length)<|ym rfl (f32 y11)<|ye rfl (oref 1 (u9 + 1) 0 1) ([⟨u8, some (L10.map f32)⟩, ⟨(u9 + 1), some (([y11] : List F).map f32)⟩, ⟨0, none⟩, ⟨0, none⟩, ⟨0, none⟩]) (TOp.buildSlice_o (g := ⟨u9, none⟩) (za := f32 (some 0)) (qs := [(0, [f32 y11])]) 1 rfl und25 siz41 zer41 rfl zel41 rfl rfl ⟨rfl, ⟨_, ALe.refl _, rfl⟩, trivial⟩ rfl)<|ROps.app (f := f32) (xs := L10) (ys := ([y11] : List F)) (Γ' := [⟨(u8 + 1), some ((L10 ++ ([y11] : List F)).map f32)⟩, ⟨(u9 + 1), some (([y11] : List F).map f32)⟩, ⟨0, none⟩, ⟨0, none⟩, ⟨0, none⟩]) rfl pun25 inf41 rfl rfl rfl rfl rfl rfl rfl rfl rfl (by simp) (ReadAs.own rfl (by simp)) (ones_map (fun _ => rfl)) (ap_by hm10) (ap_mx hm10) rfl<|ya rfl (oref 0 (u8 + 1) 0 (L10.length + 1))<|zN ?_
    refine RunC.wl (τ' := [(0, sl a0.length (a0.map (ik .u8))), (1, sl a1.length (a1.map (ik .u8))), (5, i64 x3), (6, oref 0 (u8 + 1) 0 (L10.length + 1)), (7, f32 y11), (8, i64 v12)]) (Γ' := [⟨(u8 + 1), some ((L10 ++ ([y11] : List F)).map f32)⟩, ⟨(u9 + 1), none⟩, ⟨0, none⟩, ⟨0, none⟩, ⟨0, none⟩]) ⟨aR, aR, aR, aR, aR, aR, trivial⟩ ⟨⟨rfl, .inr rfl⟩, ⟨rfl, .inl rfl⟩, ⟨rfl, .inr rfl⟩, ⟨rfl, .inr rfl⟩, ⟨rfl, .inr rfl⟩, trivial⟩ ?_
    obtain ⟨x13, hx11, h22_⟩ := oL h22_
    obtain ⟨r14, hf12, h22_⟩ := oS h22_
    obtain ⟨x15, hx13, h22_⟩ := oL h22_
    obtain ⟨x16, hx14, h22_⟩ := oL h22_
    obtain ⟨x17, hx15, h22_⟩ := oL h22_
    obtain ⟨x18, hx16, h22_⟩ := oL h22_
    refine yW<|ym rfl (f32 y11)<|ym rfl (sl a0.length (a0.map (ik .u8)))<|ym rfl (i64 v12)<|yl rfl (i64 x13) (LOp.eqr (LOp.add rfl rfl rfl) (congrArg (ik .i64) hx11))<|yd rfl (i64 r14) (yc ent6 rfl rfl (bS (bP bN0)) (w_b10At_ok a0 x13 5 r14 hf12))<|yl rfl (i64 x15) (LOp.eqr (LOp.add rfl rfl rfl) (congrArg (ik .i64) hx13))<|yl rfl (f32 x16) (LOp.eqr (LOp.i2f (src := 2) (dst := 41) ⟨_, pun2⟩ pun41 rfl rfl) (congrArg (f .f32) hx14))<|yd rfl (f32 x17) (TOp.eqr (TOp.fop (.inr (.inr (.inr rfl))) rfl (OpF.tmp rfl) (OpF.const rfl (by kernel_rfl) (by kernel_rfl))) (congrArg (f .f32) hx15))<|yd rfl (f32 x18) (TOp.eqr (TOp.fop (.inl rfl) rfl (OpF.tmp rfl) (OpF.tmp rfl)) (congrArg (f .f32) hx16))<|ya rfl (f32 x18)<|zN ?_
    obtain ⟨x19, hx17, h22_⟩ := oL h22_
    refine yW<|ym rfl (i64 v12)<|yl rfl (i64 x19) (LOp.eqr (LOp.add rfl rfl rfl) (congrArg (ik .i64) hx17))<|ya rfl (i64 x19)<|zN ?_
    cases oI h22_
    exact ⟨_, rfl, (u8 + 1), (u9 + 1), (Le.of ⟨aR, aR, aR, (by first | exact ALe.refl _ | exact ALe.eq (by rw [(app_len rfl rfl)] <;> rfl) | exact ALe.eq (by simp)), aR, aR, trivial⟩ ⟨⟨rfl, .inr rfl⟩, ⟨rfl, .inl rfl⟩, ⟨rfl, .inr rfl⟩, ⟨rfl, .inr rfl⟩, ⟨rfl, .inr rfl⟩, trivial⟩)⟩
   ·refine yW<|ym rfl (i64 v12)<|ym rfl (i64 x3)<|yl rfl (b false) (LOp.eqb (LOp.lss rfl rfl rfl) hc9)<|zN ?_
    refine yF<|RunC.exit ?_
    cases oI h22_
    have hx := ho22 _ rfl
    exact ⟨L10, u8, u9, (Le.of ⟨aR, aR, aR, aR, trivial⟩ ⟨⟨rfl, .inr rfl⟩, ⟨rfl, .inl rfl⟩, ⟨rfl, .inr rfl⟩, ⟨rfl, .inr rfl⟩, ⟨rfl, .inr rfl⟩, trivial⟩), hx⟩
  ·rintro τ23 Γ23 ⟨L22, u20, u21, hw23, rfl⟩
   refine RunC.le hw23 ?_
   replace h : w_FnNodes_k1 a0 a1 x3 L22 = some q0 := h
   unfold w_FnNodes_k1 at h
   refine yS ?_
   obtain ⟨r23, hf18, h⟩ := oS h
   refine yW<|ym rfl (sl a1.length (a1.map (ik .u8)))<|ym rfl (i64 x3)<|yd rfl (sFc r23) (TOp.callS (CallAs.func ent8 rfl rfl) (ALes.cons aR (ALes.cons aR ALes.nil)) (lts_cons (lt_sl (fun _ => rfl)) (lts_cons rfl lts_nil)) (lt_sl (fun _ => rfl)) (s_B10Vector_ok a1 x3 r23 hf18) (Bor.own (f := f32) (fun _ => rfl) rfl rfl))<|ya rfl (sFc r23)<|zN ?_
   refine yS ?_
   obtain ⟨r24, r25, hf19, h⟩ := obind2_some h
   refine yW<|ym rfl (oref 0 u20 0 L22.length)<|ym rfl (sFc r23)<|ye rfl (tup [oref 1 (u21 + 1) 0 r25.length, b r24]) [⟨u20, some (L22.map f32)⟩, ⟨(u21 + 1), some (r25.map f32)⟩, ⟨0, none⟩, ⟨0, none⟩, ⟨0, none⟩] (TOp.eqr (TOp.callBN (ls := [(r25.map f32)]) [1] (CallAs.func ent29 rfl rfl) (Bors.cons (Bor.own (f := f32) (fun _ => rfl) rfl rfl) (bS bN)) rfl (i_DividedOf_ok L22 r23 r24 r25 hf19) (and_all (lts0_map (f := f32) (fun _ => rfl) _) rfl) (and_all (noss_map (f := f32) (fun _ => rfl) _) rfl) rfl (by decide) (ns_of ⟨⟨_, rfl⟩, trivial⟩)) (by simp [ren, rens, sigma, newNames]))<|ym rfl (tup [oref 1 (u21 + 1) 0 r25.length, b r24])<|yl rfl (oref 1 (u21 + 1) 0 r25.length) y3<|yl rfl (b r24) y3<|ya rfl (oref 1 (u21 + 1) 0 r25.length)<|ya rfl (b r24)<|zN ?_
   refine yS<|yS<|RunC.cutN (fun τ Γ => ( Le 623 τ Γ [(0, sl a0.length (a0.map (ik .u8))), (1, sl a1.length (a1.map (ik .u8))), (5, i64 x3), (6, oref 0 u20 0 L22.length), (9, (sFc r23)), (10, oref 1 (u21 + 1) 0 r25.length), (91, b true)] [⟨u20, some (L22.map f32)⟩, ⟨(u21 + 1), some (r25.map f32)⟩, ⟨0, none⟩, ⟨0, none⟩, ⟨0, none⟩] ∧ w_FnNodes_k3 = some q0) ∨ ( Le 623 τ Γ [(0, sl a0.length (a0.map (ik .u8))), (1, sl a1.length (a1.map (ik .u8))), (5, i64 x3), (6, oref 0 u20 0 L22.length), (9, (sFc r23)), (10, oref 1 (u21 + 1) 0 r25.length), (91, b false)] [⟨u20, some (L22.map f32)⟩, ⟨(u21 + 1), some (r25.map f32)⟩, ⟨0, none⟩, ⟨0, none⟩, ⟨0, none⟩] ∧ w_FnNodes_k5 a0 a1 x3 L22 r23 r25 = some q0)) ?_ ?_
   ·rcases oB h with ⟨hc20, h⟩ | ⟨hc20, h⟩
    ·rcases oB h with ⟨hc21, h⟩ | ⟨hc21, h⟩
     ·refine RunC.region_draw (Γ' := [⟨u20, some (L22.map f32)⟩, ⟨(u21 + 1), some (r25.map f32)⟩, ⟨0, none⟩, ⟨0, none⟩, ⟨0, none⟩]) 17 mixed 
       (tl rfl (b true) (yv hc20) <|
       (tl rfl (b false) (LOp.eqb (LOp.not rfl rfl) rfl) <|
       (tm rfl (b false) <|
       (tm rfl (oref 1 (u21 + 1) 0 r25.length) <|
       (tl rfl (i64 ((r25.length : Nat) : Int)) (LOp.len_oref und25 rfl rfl) <|
       (tm rfl (i64 x3) <|
       (tl rfl (b true) (LOp.eqb (LOp.neq rfl rfl rfl) hc21) <|
       (tl rfl (b true) yp <|
       (tm rfl (b true) <|
       (ts rfl <|
       (ts rfl <|
       (ts rfl <|
       (ts rfl <|
       (ts rfl <|
       (ts rfl <|
       (ts rfl <|
       (tl rfl (b true) yq <|
       TR.nil))))))))))))))))) rfl (by kernel_rfl) rfl fills_nil rfl ?_
      iterate 17 refine ROps.dropS ?_
      refine ROps.drop0<|zN ?_
      exact .inl ⟨(Le.of ⟨aR, aR, aR, aR, aR, aR, aR, trivial⟩ ⟨⟨rfl, .inr rfl⟩, ⟨rfl, .inr rfl⟩, ⟨rfl, .inr rfl⟩, ⟨rfl, .inr rfl⟩, ⟨rfl, .inr rfl⟩, trivial⟩), h⟩
     ·obtain ⟨e26, he22, h⟩ := oS h
      obtain ⟨e27, he23, h⟩ := oS h
      rcases oB h with ⟨hc24, h⟩ | ⟨hc24, h⟩
      ·refine RunC.region_draw (Γ' := [⟨u20, some (L22.map f32)⟩, ⟨(u21 + 1), some (r25.map f32)⟩, ⟨0, none⟩, ⟨0, none⟩, ⟨0, none⟩]) 17 mixed 
        (tl rfl (b true) (yv hc20) <|
        (tl rfl (b false) (LOp.eqb (LOp.not rfl rfl) rfl) <|
        (tm rfl (b false) <|
        (tm rfl (oref 1 (u21 + 1) 0 r25.length) <|
        (tl rfl (i64 ((r25.length : Nat) : Int)) (LOp.len_oref und25 rfl rfl) <|
        (tm rfl (i64 x3) <|
        (tl rfl (b false) (LOp.eqb (LOp.neq rfl rfl rfl) hc21) <|
        (tl rfl (b false) yp <|
        (tm rfl (b false) <|
        (tm rfl (oref 1 (u21 + 1) 0 r25.length) <|
        (TR.d (r := optr 1 (u21 + 1) ((0 : Int).toNat)) (fs := []) rfl rfl (TOp.ixo und25 siz41 rfl rfl rfl (at_in he22 rfl) rfl) <|
        (TR.d (r := f32 e26) (fs := []) rfl rfl (TOp.load1_o rfl (at_cell he22) agg41 rfl rfl) <|
        (tm rfl (sFc r23) <|
        (tl rfl (ptr [f32 e27]) (LOp.le (LOp.ix (f := f32) und25 siz41 rfl rfl rfl rfl he23) ALe.ptr) <|
        (tl rfl (f32 e27) (y2 agg41) <|
        (tl rfl (b true) (LOp.eqb (LOp.fne rfl (OpF.tmp rfl) (OpF.tmp rfl)) hc24) <|
        (tl rfl (b true) yp <|
        TR.nil))))))))))))))))) rfl (by kernel_rfl) rfl fills_nil rfl ?_
       iterate 17 refine ROps.dropS ?_
       refine ROps.drop0<|zN ?_
       exact .inl ⟨(Le.of ⟨aR, aR, aR, aR, aR, aR, aR, trivial⟩ ⟨⟨rfl, .inr rfl⟩, ⟨rfl, .inr rfl⟩, ⟨rfl, .inr rfl⟩, ⟨rfl, .inr rfl⟩, ⟨rfl, .inr rfl⟩, trivial⟩), h⟩
      ·refine RunC.region_draw (Γ' := [⟨u20, some (L22.map f32)⟩, ⟨(u21 + 1), some (r25.map f32)⟩, ⟨0, none⟩, ⟨0, none⟩, ⟨0, none⟩]) 17 mixed 
        (tl rfl (b true) (yv hc20) <|
        (tl rfl (b false) (LOp.eqb (LOp.not rfl rfl) rfl) <|
        (tm rfl (b false) <|
        (tm rfl (oref 1 (u21 + 1) 0 r25.length) <|
        (tl rfl (i64 ((r25.length : Nat) : Int)) (LOp.len_oref und25 rfl rfl) <|
        (tm rfl (i64 x3) <|
        (tl rfl (b false) (LOp.eqb (LOp.neq rfl rfl rfl) hc21) <|
        (tl rfl (b false) yp <|
        (tm rfl (b false) <|
        (tm rfl (oref 1 (u21 + 1) 0 r25.length) <|
        (TR.d (r := optr 1 (u21 + 1) ((0 : Int).toNat)) (fs := []) rfl rfl (TOp.ixo und25 siz41 rfl rfl rfl (at_in he22 rfl) rfl) <|
        (TR.d (r := f32 e26) (fs := []) rfl rfl (TOp.load1_o rfl (at_cell he22) agg41 rfl rfl) <|
        (tm rfl (sFc r23) <|
        (tl rfl (ptr [f32 e27]) (LOp.le (LOp.ix (f := f32) und25 siz41 rfl rfl rfl rfl he23) ALe.ptr) <|
        (tl rfl (f32 e27) (y2 agg41) <|
        (tl rfl (b false) (LOp.eqb (LOp.fne rfl (OpF.tmp rfl) (OpF.tmp rfl)) hc24) <|
        (tl rfl (b false) yp <|
        TR.nil))))))))))))))))) rfl (by kernel_rfl) rfl fills_nil rfl ?_
       iterate 17 refine ROps.dropS ?_
       refine ROps.drop0<|zN ?_
       exact .inr (⟨(Le.of ⟨aR, aR, aR, aR, aR, aR, aR, trivial⟩ ⟨⟨rfl, .inr rfl⟩, ⟨rfl, .inr rfl⟩, ⟨rfl, .inr rfl⟩, ⟨rfl, .inr rfl⟩, ⟨rfl, .inr rfl⟩, trivial⟩), h⟩)
    ·refine RunC.region_draw (Γ' := [⟨u20, some (L22.map f32)⟩, ⟨(u21 + 1), some (r25.map f32)⟩, ⟨0, none⟩, ⟨0, none⟩, ⟨0, none⟩]) 17 mixed 
      (tl rfl (b false) (yv hc20) <|
      (tl rfl (b true) (LOp.eqb (LOp.not rfl rfl) rfl) <|
      (tm rfl (b true) <|
      (ts rfl <|
      (ts rfl <|
      (ts rfl <|
      (ts rfl <|
      (tl rfl (b true) yq <|
      (tm rfl (b true) <|
      (ts rfl <|
      (ts rfl <|
      (ts rfl <|
      (ts rfl <|
      (ts rfl <|
      (ts rfl <|
      (ts rfl <|
      (tl rfl (b true) yq <|
      TR.nil))))))))))))))))) rfl (by kernel_rfl) rfl fills_nil rfl ?_
     iterate 17 refine ROps.dropS ?_
     refine ROps.drop0<|zN ?_
     exact .inl ⟨(Le.of ⟨aR, aR, aR, aR, aR, aR, aR, trivial⟩ ⟨⟨rfl, .inr rfl⟩, ⟨rfl, .inr rfl⟩, ⟨rfl, .inr rfl⟩, ⟨rfl, .inr rfl⟩, ⟨rfl, .inr rfl⟩, trivial⟩), h⟩
   ·rintro τ24 Γ24 (⟨hw24, h⟩ | ⟨hw24, h⟩)
    ·refine RunC.le (τ' := [(0, sl a0.length (a0.map (ik .u8))), (1, sl a1.length (a1.map (ik .u8))), (5, i64 x3), (6, oref 0 u20 0 L22.length), (9, (sFc r23)), (10, oref 1 (u21 + 1) 0 r25.length), (91, b true)]) (Γ' := [⟨u20, some (L22.map f32)⟩, ⟨(u21 + 1), some (r25.map f32)⟩, ⟨0, none⟩, ⟨0, none⟩, ⟨0, none⟩]) hw24 ?_
     unfold w_FnNodes_k3 at h
     refine yT<|zQ<|ya rfl (b false)<|zN ?_
     refine RunC.ret ?_
     have hq := oI h
     subst q0
     exact bodyQ.pure (.inr rfl) rfl (Res.one rfl (RV.tmp rfl))
    ·refine RunC.le (τ' := [(0, sl a0.length (a0.map (ik .u8))), (1, sl a1.length (a1.map (ik .u8))), (5, i64 x3), (6, oref 0 u20 0 L22.length), (9, (sFc r23)), (10, oref 1 (u21 + 1) 0 r25.length), (91, b false)]) (Γ' := [⟨u20, some (L22.map f32)⟩, ⟨(u21 + 1), some (r25.map f32)⟩, ⟨0, none⟩, ⟨0, none⟩, ⟨0, none⟩]) hw24 ?_
     unfold w_FnNodes_k5 at h
     refine yF<|RunC.skip<|yS<|zQ<|ym rfl (oref 0 u20 0 L22.length)<|yl rfl (i64 ((L22.length : Nat) : Int)) (LOp.len_oref und25 rfl rfl)<|ym rfl (i64 0)<|zN ?_
     obtain ⟨z25, hz_25, h⟩ := oS h
     refine RunC.cutN (fun τ Γ => Le 623 τ Γ [(0, sl a0.length (a0.map (ik .u8))), (1, sl a1.length (a1.map (ik .u8))), (5, i64 x3), (9, (sFc r23))] [⟨u20, none⟩, ⟨(u21 + 1), none⟩, ⟨0, none⟩, ⟨0, none⟩, ⟨0, none⟩] ∧ z25 = .inl ()) ?_ ?_
     ·refine RunC.block (RunC.loop (RunL.loopM (x := z25) (w_FnNodes_s6 L22 r23 r25) (fun (s : Int) τ Γ => Le 623 τ Γ [(0, sl a0.length (a0.map (ik .u8))), (1, sl a1.length (a1.map (ik .u8))), (5, i64 x3), (6, oref 0 u20 0 L22.length), (9, (sFc r23)), (10, oref 1 (u21 + 1) 0 r25.length), (93, i64 ((L22.length : Nat) : Int)), (94, i64 s)] [⟨u20, some (L22.map f32)⟩, ⟨(u21 + 1), some (r25.map f32)⟩, ⟨0, none⟩, ⟨0, none⟩, ⟨0, none⟩]) ?_ _ _ _ hz_25 (Le.of ⟨aR, aR, aR, aR, aR, aR, aR, aR, trivial⟩ ⟨⟨rfl, .inr rfl⟩, ⟨rfl, .inr rfl⟩, ⟨rfl, .inr rfl⟩, ⟨rfl, .inr rfl⟩, ⟨rfl, .inr rfl⟩, trivial⟩)))
      rintro v28 τ25 Γ25 y25_ hw25 h25_ ho25 hr25
      refine RunC.le (τ' := [(0, sl a0.length (a0.map (ik .u8))), (1, sl a1.length (a1.map (ik .u8))), (5, i64 x3), (6, oref 0 u20 0 L22.length), (9, (sFc r23)), (10, oref 1 (u21 + 1) 0 r25.length), (93, i64 ((L22.length : Nat) : Int)), (94, i64 v28)]) (Γ' := [⟨u20, some (L22.map f32)⟩, ⟨(u21 + 1), some (r25.map f32)⟩, ⟨0, none⟩, ⟨0, none⟩, ⟨0, none⟩]) hw25 ?_
      replace h25_ : w_FnNodes_b6 L22 r23 r25 v28 = some y25_ := h25_
      unfold w_FnNodes_b6 at h25_
      refine yS ?_
      rcases oB h25_ with ⟨hc25, h25_⟩ | ⟨hc25, h25_⟩
      ·refine yW<|yl rfl (b true) (LOp.eqb (LOp.lss rfl rfl rfl) hc25)<|zN ?_
       refine yS<|yT<|RunC.skip<|yS<|RunC.block<|zQ<|ym rfl (i64 v28)<|ya rfl (i64 v28)<|zN ?_
       refine yS ?_
       obtain ⟨e29, he26, h25_⟩ := oS h25_
       obtain ⟨r30, r31, hf27, h25_⟩ := obind2_some h25_
       refine yW<|ym rfl (oref 0 u20 0 L22.length)<|ym rfl (oref 1 (u21 + 1) 0 r25.length)<|ym rfl (oref 0 u20 0 L22.length)<|ym rfl (i64 v28)<|yd rfl (optr 0 u20 v28.toNat) (TOp.ixo und25 siz41 rfl rfl rfl (at_in he26 rfl) rfl)<|yd rfl (f32 e29) (TOp.load1_o rfl (at_cell he26) agg41 rfl rfl)<|yd rfl (tup [f32 r30, b r31]) (yc ent30 rfl rfl (Bors.cons (Bor.own (f := f32) (fun _ => rfl) rfl rfl) (Bors.cons (Bor.own (f := f32) (fun _ => rfl) rfl rfl) bN0)) (i_NewtonAt_ok L22 r25 e29 r30 r31 hf27))<|ym rfl (tup [f32 r30, b r31])<|yl rfl (f32 r30) y3<|yl rfl (b r31) y3<|ya rfl (f32 r30)<|ya rfl (b r31)<|zN ?_
       refine yS ?_
       rcases oB h25_ with ⟨hc28, h25_⟩ | ⟨hc28, h25_⟩
       ·obtain ⟨x32, hx29, h25_⟩ := oL h25_
        obtain ⟨e33, he30, h25_⟩ := oS h25_
        obtain ⟨x34, hx31, h25_⟩ := oL h25_
        obtain ⟨r35, hf32, h25_⟩ := oS h25_
        rcases oB h25_ with ⟨hc33, h25_⟩ | ⟨hc33, h25_⟩
        ·refine yW<|yl rfl (b true) (yv hc28)<|yl rfl (b false) y1<|ym rfl (b false)<|ym rfl (f32 r30)<|yd rfl (f64 x32) (TOp.eqr (TOp.widen (src := 41) (dst := 48) ⟨_, pun41⟩ pun48 rfl (OpF.tmp rfl)) (congrArg (f .f64) hx29))<|ym rfl (sFc r23)<|ym rfl (i64 v28)<|yl rfl (ptr [f32 e33]) (LOp.le (LOp.ix (f := f32) und25 siz41 rfl rfl rfl rfl he30) ALe.ptr)<|yl rfl (f32 e33) (y2 agg41)<|yd rfl (f64 x34) (TOp.eqr (TOp.widen (src := 41) (dst := 48) ⟨_, pun41⟩ pun48 rfl (OpF.tmp rfl)) (congrArg (f .f64) hx31))<|yd rfl (f64 r35) (yc ent28 rfl rfl (bP bN0) (w_b10Gap_ok x32 x34 r35 hf32))<|yl rfl (b true) (LOp.eqb (LOp.fgt rfl (OpF.tmp rfl) (OpF.const rfl (by kernel_rfl) (by kernel_rfl))) hc33)<|yl rfl (b true) yp<|zN ?_
         refine yT<|zQ<|ya rfl (b false)<|zN ?_
         refine RunC.ret ?_
         cases oI h25_
         have hx26_ := hr25 _ rfl
         subst hx26_
         have hq := oI h
         subst q0
         exact bodyQ.pure (.inr rfl) rfl (Res.one rfl (RV.tmp rfl))
        ·refine yW<|yl rfl (b true) (yv hc28)<|yl rfl (b false) y1<|ym rfl (b false)<|ym rfl (f32 r30)<|yd rfl (f64 x32) (TOp.eqr (TOp.widen (src := 41) (dst := 48) ⟨_, pun41⟩ pun48 rfl (OpF.tmp rfl)) (congrArg (f .f64) hx29))<|ym rfl (sFc r23)<|ym rfl (i64 v28)<|yl rfl (ptr [f32 e33]) (LOp.le (LOp.ix (f := f32) und25 siz41 rfl rfl rfl rfl he30) ALe.ptr)<|yl rfl (f32 e33) (y2 agg41)<|yd rfl (f64 x34) (TOp.eqr (TOp.widen (src := 41) (dst := 48) ⟨_, pun41⟩ pun48 rfl (OpF.tmp rfl)) (congrArg (f .f64) hx31))<|yd rfl (f64 r35) (yc ent28 rfl rfl (bP bN0) (w_b10Gap_ok x32 x34 r35 hf32))<|yl rfl (b false) (LOp.eqb (LOp.fgt rfl (OpF.tmp rfl) (OpF.const rfl (by kernel_rfl) (by kernel_rfl))) hc33)<|yl rfl (b false) yp<|zN ?_
         refine yF<|RunC.skip ?_
         obtain ⟨x36, hx34, h25_⟩ := oL h25_
         refine yW<|yl rfl (i64 x36) (LOp.eqr (LOp.add rfl rfl rfl) (congrArg (ik .i64) hx34))<|ym rfl (i64 x36)<|zN ?_
         cases oI h25_
         exact ⟨_, rfl, (Le.of ⟨aR, aR, aR, aR, aR, aR, aR, aR, trivial⟩ ⟨⟨rfl, .inr rfl⟩, ⟨rfl, .inr rfl⟩, ⟨rfl, .inr rfl⟩, ⟨rfl, .inr rfl⟩, ⟨rfl, .inr rfl⟩, trivial⟩)⟩
       ·refine yW<|yl rfl (b false) (yv hc28)<|yl rfl (b true) y0<|ym rfl (b true)<|ROps.s rfl rfl rfl<|ROps.s rfl rfl rfl<|ROps.s rfl rfl rfl<|ROps.s rfl rfl rfl<|ROps.s rfl rfl rfl<|ROps.s rfl rfl rfl<|ROps.s rfl rfl rfl<|ROps.s rfl rfl rfl<|ROps.s rfl rfl rfl<|yl rfl (b true) yq<|zN ?_
        refine yT<|zQ<|ya rfl (b false)<|zN ?_
        refine RunC.ret ?_
        cases oI h25_
        have hx27_ := hr25 _ rfl
        subst hx27_
        have hq := oI h
        subst q0
        exact bodyQ.pure (.inr rfl) rfl (Res.one rfl (RV.tmp rfl))
      ·refine yW<|yl rfl (b false) (LOp.eqb (LOp.lss rfl rfl rfl) hc25)<|zN ?_
       refine yS<|yF<|RunC.exit ?_
       cases oI h25_
       have hx := ho25 _ rfl
       exact ⟨(Le.of ⟨aR, aR, aR, aR, trivial⟩ ⟨⟨rfl, .inl rfl⟩, ⟨rfl, .inl rfl⟩, ⟨rfl, .inr rfl⟩, ⟨rfl, .inr rfl⟩, ⟨rfl, .inr rfl⟩, trivial⟩), hx⟩
     ·rintro τ28 Γ28 ⟨hw28, rfl⟩
      refine RunC.le hw28 ?_
      replace h : w_FnNodes_k6 a0 a1 x3 r23 = some q0 := h
      unfold w_FnNodes_k6 at h
      refine yS ?_
      obtain ⟨r37, r38, r39, hf35, h⟩ := obind3_some h
      refine yW<|ym rfl (sl a0.length (a0.map (ik .u8)))<|ym rfl (i64 x3)<|yd rfl (agg (mXc r37 r38 r39)) (TOp.callS (CallAs.func ent7 rfl rfl) (ALes.cons aR (ALes.cons aR ALes.nil)) (lts_cons (lt_sl (fun _ => rfl)) (lts_cons rfl lts_nil)) (lt_agg (lts_cons rfl (lts_cons rfl (lts_cons (lt_sl (fun _ => rfl)) lts_nil)))) (s_B10Square_ok a0 x3 r37 r38 r39 hf35) (Bor.agg (bP (bP (Bors.cons (Bor.own (f := f32) (fun _ => rfl) rfl rfl) bN)))))<|ye rfl (optr 0 (u20 + 1) 0) [⟨(u20 + 1), some zMx⟩, ⟨(u21 + 1), none⟩, ⟨0, none⟩, ⟨0, none⟩, ⟨0, none⟩] (TOp.alloc_o (g := ⟨u20, none⟩) 0 rfl zer27 zok27 rfl)<|ys (agg (mXc r37 r38 r39)) (mXc r37 r38 r39) [⟨(u20 + 1), some (mXc r37 r38 r39)⟩, ⟨(u21 + 1), none⟩, ⟨0, none⟩, ⟨0, none⟩, ⟨0, none⟩] siz27<|zN ?_
      refine yS ?_
      obtain ⟨r40, hf36, h⟩ := oS h
      refine yW<|ym rfl (sl a1.length (a1.map (ik .u8)))<|ym rfl (i64 x3)<|ye rfl (oref 1 (u21 + 2) 0 r40.length) [⟨(u20 + 1), some (mXc r37 r38 r39)⟩, ⟨(u21 + 2), some (r40.map f32)⟩, ⟨0, none⟩, ⟨0, none⟩, ⟨0, none⟩] (TOp.eqr (TOp.callBN (ls := [(r40.map f32)]) [1] (CallAs.func ent8 rfl rfl) (bS bN0) rfl (s_B10Vector_ok a1 x3 r40 hf36) (and_all (lts0_map (f := f32) (fun _ => rfl) _) rfl) (and_all (noss_map (f := f32) (fun _ => rfl) _) rfl) rfl (by decide) (ns_of ⟨⟨_, rfl⟩, trivial⟩)) (by simp [ren, rens, sigma, newNames]))<|ya rfl (oref 1 (u21 + 2) 0 r40.length)<|zN ?_
      refine yS ?_
      obtain ⟨r41, hf37, h⟩ := oS h
      refine yW<|ym rfl (sl a0.length (a0.map (ik .u8)))<|ym rfl (i64 x3)<|ye rfl (oref 2 1 0 r41.length) [⟨(u20 + 1), some (mXc r37 r38 r39)⟩, ⟨(u21 + 2), some (r40.map f32)⟩, ⟨1, some (r41.map f32)⟩, ⟨0, none⟩, ⟨0, none⟩] (TOp.callBN (ls := [(r41.map f32)]) [2] (CallAs.func ent8 rfl rfl) (bS bN0) rfl (s_B10Vector_ok a0 x3 r41 hf37) (and_all (lts0_map (f := f32) (fun _ => rfl) _) rfl) (and_all (noss_map (f := f32) (fun _ => rfl) _) rfl) rfl (by decide) (ns_of ⟨⟨_, rfl⟩, trivial⟩))<|ya rfl (oref 2 1 0 r41.length)<|zN ?_
      refine yS<|zQ<|ym rfl (oref 1 (u21 + 2) 0 r40.length)<|yl rfl (i64 ((r40.length : Nat) : Int)) (LOp.len_oref und25 rfl rfl)<|ym rfl (i64 0)<|zN ?_
      obtain ⟨z29, hz_29, h⟩ := oS h
      refine RunC.cutN (fun τ Γ => ∃ (L54 : List F) (L56 : List F), L54.length = r40.length ∧ L56.length = r41.length ∧ Le 623 τ Γ [(5, i64 x3), (9, (sFc r23)), (15, optr 0 (u20 + 1) 0), (16, oref 1 (u21 + 2) 0 r40.length), (17, oref 2 1 0 r41.length)] [⟨(u20 + 1), some (mXc r37 r38 r39)⟩, ⟨(u21 + 2), some (L54.map f32)⟩, ⟨1, some (L56.map f32)⟩, ⟨0, none⟩, ⟨0, none⟩] ∧ z29 = .inl (L54, L56)) ?_ ?_
      ·refine RunC.block (RunC.loop (RunL.loopM (x := z29) (w_FnNodes_s7 r40) (fun (s : (List F) × (List F) × Int) τ Γ => s.1.length = r40.length ∧ s.2.1.length = r41.length ∧ Le 623 τ Γ [(5, i64 x3), (9, (sFc r23)), (15, optr 0 (u20 + 1) 0), (16, oref 1 (u21 + 2) 0 r40.length), (17, oref 2 1 0 r41.length), (131, i64 ((r40.length : Nat) : Int)), (132, i64 s.2.2)] [⟨(u20 + 1), some (mXc r37 r38 r39)⟩, ⟨(u21 + 2), some (s.1.map f32)⟩, ⟨1, some (s.2.1.map f32)⟩, ⟨0, none⟩, ⟨0, none⟩]) ?_ _ _ _ hz_29 ⟨rfl, rfl, (Le.of ⟨aR, aR, aR, aR, aR, aR, aR, trivial⟩ ⟨⟨rfl, .inr rfl⟩, ⟨rfl, .inr rfl⟩, ⟨rfl, .inr rfl⟩, ⟨rfl, .inr rfl⟩, ⟨rfl, .inr rfl⟩, trivial⟩)⟩))
       rintro ⟨L42, L44, v46⟩ τ29 Γ29 y29_ ⟨hl43, hl45, hw29⟩ h29_ ho29 hr29
       refine RunC.le (τ' := [(5, i64 x3), (9, (sFc r23)), (15, optr 0 (u20 + 1) 0), (16, oref 1 (u21 + 2) 0 r40.length), (17, oref 2 1 0 r41.length), (131, i64 ((r40.length : Nat) : Int)), (132, i64 v46)]) (Γ' := [⟨(u20 + 1), some (mXc r37 r38 r39)⟩, ⟨(u21 + 2), some (L42.map f32)⟩, ⟨1, some (L44.map f32)⟩, ⟨0, none⟩, ⟨0, none⟩]) hw29 ?_
       replace hl43 : L42.length = r40.length := hl43
       replace hl45 : L44.length = r41.length := hl45
       replace h29_ : w_FnNodes_b7 r40 L42 L44 v46 = some y29_ := h29_
       unfold w_FnNodes_b7 at h29_
       refine yS ?_
       rcases oB h29_ with ⟨hc38, h29_⟩ | ⟨hc38, h29_⟩
       ·refine yW<|yl rfl (b true) (LOp.eqb (LOp.lss rfl rfl rfl) hc38)<|zN ?_
        refine yS<|yT<|RunC.skip<|yS<|RunC.block<|zQ<|ym rfl (i64 v46)<|ya rfl (i64 v46)<|zN ?_
        refine yS ?_
        obtain ⟨e47, he39, h29_⟩ := oS h29_
        obtain ⟨x48, hx40, h29_⟩ := oL h29_
        obtain ⟨L49, he41, h29_⟩ := oS h29_
        refine yW<|ym rfl (oref 1 (u21 + 2) 0 r40.length)<|ym rfl (i64 v46)<|ym rfl (oref 1 (u21 + 2) 0 r40.length)<|ym rfl (i64 v46)<|yd rfl (optr 1 (u21 + 2) v46.toNat) (TOp.ixo und25 siz41 rfl rfl rfl (at_in he39 hl43) rfl)<|yd rfl (f32 e47) (TOp.load1_o rfl (at_cell he39) agg41 rfl rfl)<|yd rfl (f32 x48) (TOp.eqr (TOp.fop (.inr (.inr (.inr rfl))) rfl (OpF.tmp rfl) (OpF.const rfl (by kernel_rfl) (by kernel_rfl))) (congrArg (f .f32) hx40))<|yd rfl (optr 1 (u21 + 2) v46.toNat) (TOp.ixo und25 siz41 rfl rfl rfl (set_in he41 hl43) rfl)<|ROps.st (f := f32) (i := v46) (Γ' := [⟨(u20 + 1), some (mXc r37 r38 r39)⟩, ⟨(u21 + 2), some (L49.map f32)⟩, ⟨1, some (L44.map f32)⟩, ⟨0, none⟩, ⟨0, none⟩]) rfl siz41 rfl rfl rfl aR rfl rfl rfl he41 rfl<|zN ?_
        obtain ⟨e50, he42, h29_⟩ := oS h29_
        obtain ⟨x51, hx43, h29_⟩ := oL h29_
        obtain ⟨L52, he44, h29_⟩ := oS h29_
        refine yW<|ym rfl (oref 2 1 0 r41.length)<|ym rfl (i64 v46)<|ym rfl (oref 2 1 0 r41.length)<|ym rfl (i64 v46)<|yd rfl (optr 2 1 v46.toNat) (TOp.ixo und25 siz41 rfl rfl rfl (at_in he42 hl45) rfl)<|yd rfl (f32 e50) (TOp.load1_o rfl (at_cell he42) agg41 rfl rfl)<|yd rfl (f32 x51) (TOp.eqr (TOp.fop (.inr (.inr (.inr rfl))) rfl (OpF.tmp rfl) (OpF.const rfl (by kernel_rfl) (by kernel_rfl))) (congrArg (f .f32) hx43))<|yd rfl (optr 2 1 v46.toNat) (TOp.ixo und25 siz41 rfl rfl rfl (set_in he44 hl45) rfl)<|ROps.st (f := f32) (i := v46) (Γ' := [⟨(u20 + 1), some (mXc r37 r38 r39)⟩, ⟨(u21 + 2), some (L49.map f32)⟩, ⟨1, some (L52.map f32)⟩, ⟨0, none⟩, ⟨0, none⟩]) rfl siz41 rfl rfl rfl aR rfl rfl rfl he44 rfl<|zN ?_
        obtain ⟨x53, hx45, h29_⟩ := oL h29_
        refine yW<|yl rfl (i64 x53) (LOp.eqr (LOp.add rfl rfl rfl) (congrArg (ik .i64) hx45))<|ym rfl (i64 x53)<|zN ?_
        cases oI h29_
        exact ⟨_, rfl, ((setAt?_len he41).trans hl43), ((setAt?_len he44).trans hl45), (Le.of ⟨aR, aR, aR, aR, aR, aR, aR, trivial⟩ ⟨⟨rfl, .inr rfl⟩, ⟨rfl, .inr rfl⟩, ⟨rfl, .inr rfl⟩, ⟨rfl, .inr rfl⟩, ⟨rfl, .inr rfl⟩, trivial⟩)⟩
       ·refine yW<|yl rfl (b false) (LOp.eqb (LOp.lss rfl rfl rfl) hc38)<|zN ?_
        refine yS<|yF<|RunC.exit ?_
        cases oI h29_
        have hx := ho29 _ rfl
        exact ⟨L42, L44, hl43, hl45, (Le.of ⟨aR, aR, aR, aR, aR, trivial⟩ ⟨⟨rfl, .inr rfl⟩, ⟨rfl, .inr rfl⟩, ⟨rfl, .inr rfl⟩, ⟨rfl, .inr rfl⟩, ⟨rfl, .inr rfl⟩, trivial⟩), hx⟩
      ·rintro τ30 Γ30 ⟨L54, L56, hl55, hl57, hw30, rfl⟩
       refine RunC.le hw30 ?_
       replace h : w_FnNodes_k7 x3 r23 r37 r38 r39 L54 L56 = some q0 := h
       unfold w_FnNodes_k7 at h
       refine yS ?_
       obtain ⟨r58, r59, r60, r61, r62, hf46, h⟩ := obind5_some h
       refine yW<|yd rfl (agg (mXc r37 r38 r39)) (TOp.loadAgg_o rfl agg27 siz27 rfl rfl rfl rfl)<|yd rfl (tup [agg [i64 r58, i64 r59, (sFc r61), sl r62.length (r62.map i64)], b r60]) (TOp.callS (CallAs.func ent31 rfl rfl) (ALes.cons aR ALes.nil) (lts_cons (lt_agg (lts_cons rfl (lts_cons rfl (lts_cons (lt_sl (fun _ => rfl)) lts_nil)))) lts_nil) (lt_tup (lts_cons (lt_agg (lts_cons rfl (lts_cons rfl (lts_cons (lt_sl (fun _ => rfl)) (lts_cons (lt_sl (fun _ => rfl)) lts_nil))))) (lts_cons rfl lts_nil))) (s_FactorRows_ok r37 r38 r39 r58 r59 r60 r61 r62 hf46) (Bor.tup (Bors.cons (Bor.agg (bP (bP (Bors.cons (Bor.own (f := f32) (fun _ => rfl) rfl rfl) (Bors.cons (Bor.own (f := i64) (fun _ => rfl) rfl rfl) bN))))) bN0)))<|ym rfl (tup [agg [i64 r58, i64 r59, (sFc r61), sl r62.length (r62.map i64)], b r60])<|yl rfl (agg [i64 r58, i64 r59, (sFc r61), sl r62.length (r62.map i64)]) y3<|yl rfl (b r60) y3<|ye rfl (optr 3 1 0) ([⟨(u20 + 1), some (mXc r37 r38 r39)⟩, ⟨(u21 + 2), some (L54.map f32)⟩, ⟨1, some (L56.map f32)⟩, ⟨1, some [i64 0, i64 0, nilsl, nilsl]⟩, ⟨0, none⟩]) (TOp.alloc_o (g := ⟨0, none⟩) 3 rfl zer32 zok32 rfl)<|ys (agg [i64 r58, i64 r59, (sFc r61), sl r62.length (r62.map i64)]) [i64 r58, i64 r59, (sFc r61), sl r62.length (r62.map i64)] ([⟨(u20 + 1), some (mXc r37 r38 r39)⟩, ⟨(u21 + 2), some (L54.map f32)⟩, ⟨1, some (L56.map f32)⟩, ⟨1, some [i64 r58, i64 r59, (sFc r61), sl r62.length (r62.map i64)]⟩, ⟨0, none⟩]) siz32<|ya rfl (b r60)<|zN ?_
       refine yS ?_
       obtain ⟨r63, r64, hf47, h⟩ := obind2_some h
       refine yW<|yd rfl (agg [i64 r58, i64 r59, (sFc r61), sl r62.length (r62.map i64)]) (TOp.loadAgg_o rfl agg32 siz32 rfl rfl rfl rfl)<|ym rfl (oref 1 (u21 + 2) 0 r40.length)<|ym rfl (oref 2 1 0 r41.length)<|ym rfl (sFc r23)<|ye rfl (tup [oref 4 1 0 r64.length, b r63]) ([⟨(u20 + 1), some (mXc r37 r38 r39)⟩, ⟨(u21 + 2), some (L54.map f32)⟩, ⟨1, some (L56.map f32)⟩, ⟨1, some [i64 r58, i64 r59, (sFc r61), sl r62.length (r62.map i64)]⟩, ⟨1, some (r64.map f32)⟩]) (TOp.callBN (ls := [(r64.map f32)]) [4] (CallAs.func ent32 rfl rfl) (Bors.cons (Bor.agg (bP (bP (bS (bS bN))))) (Bors.cons (Bor.own (f := f32) (fun _ => rfl) rfl hl55) (Bors.cons (Bor.own (f := f32) (fun _ => rfl) rfl hl57) (bS bN)))) rfl (i_UpdatedSolve_ok r58 r59 r61 r62 L54 L56 r23 r63 r64 hf47) (and_all (lts0_map (f := f32) (fun _ => rfl) _) rfl) (and_all (noss_map (f := f32) (fun _ => rfl) _) rfl) rfl (by decide) (ns_of ⟨⟨_, rfl⟩, trivial⟩))<|ym rfl (tup [oref 4 1 0 r64.length, b r63])<|yl rfl (oref 4 1 0 r64.length) y3<|yl rfl (b r63) y3<|ya rfl (oref 4 1 0 r64.length)<|ya rfl (b r63)<|zN ?_
       refine RunC.wl (τ' := [(5, i64 x3), (9, (sFc r23)), (15, optr 0 (u20 + 1) 0), (16, oref 1 (u21 + 2) 0 r40.length), (17, oref 2 1 0 r41.length), (20, b r60), (21, oref 4 1 0 r64.length), (22, b r63)]) (Γ' := [⟨(u20 + 1), some (mXc r37 r38 r39)⟩, ⟨(u21 + 2), some (L54.map f32)⟩, ⟨1, some (L56.map f32)⟩, ⟨1, none⟩, ⟨1, some (r64.map f32)⟩]) ⟨aR, aR, aR, aR, aR, aR, aR, aR, trivial⟩ ⟨⟨rfl, .inr rfl⟩, ⟨rfl, .inr rfl⟩, ⟨rfl, .inr rfl⟩, ⟨rfl, .inl rfl⟩, ⟨rfl, .inr rfl⟩, trivial⟩<|yS<|yS<|RunC.cutN (fun τ Γ => ( L54.length = r40.length ∧ L56.length = r41.length ∧ Le 623 τ Γ [(5, i64 x3), (9, (sFc r23)), (15, optr 0 (u20 + 1) 0), (16, oref 1 (u21 + 2) 0 r40.length), (17, oref 2 1 0 r41.length), (21, oref 4 1 0 r64.length), (176, b true)] [⟨(u20 + 1), some (mXc r37 r38 r39)⟩, ⟨(u21 + 2), some (L54.map f32)⟩, ⟨1, some (L56.map f32)⟩, ⟨1, none⟩, ⟨1, some (r64.map f32)⟩] ∧ w_FnNodes_k9 = some q0) ∨ ( L54.length = r40.length ∧ L56.length = r41.length ∧ Le 623 τ Γ [(5, i64 x3), (9, (sFc r23)), (15, optr 0 (u20 + 1) 0), (16, oref 1 (u21 + 2) 0 r40.length), (17, oref 2 1 0 r41.length), (21, oref 4 1 0 r64.length), (176, b false)] [⟨(u20 + 1), some (mXc r37 r38 r39)⟩, ⟨(u21 + 2), some (L54.map f32)⟩, ⟨1, some (L56.map f32)⟩, ⟨1, none⟩, ⟨1, some (r64.map f32)⟩] ∧ w_FnNodes_k11 x3 r23 r37 r38 r39 L54 L56 r64 = some q0)) ?_ ?_
       ·rcases oB h with ⟨hc48, h⟩ | ⟨hc48, h⟩
        ·rcases oB h with ⟨hc49, h⟩ | ⟨hc49, h⟩
         ·rcases oB h with ⟨hc50, h⟩ | ⟨hc50, h⟩
          ·refine yW<|yl rfl (b true) (yv hc48)<|yl rfl (b false) y1<|ym rfl (b false)<|yl rfl (b true) (yv hc49)<|yl rfl (b false) y1<|yl rfl (b false) yp<|ym rfl (b false)<|ym rfl (oref 4 1 0 r64.length)<|yl rfl (i64 ((r64.length : Nat) : Int)) (LOp.len_oref und25 rfl rfl)<|ym rfl (i64 x3)<|yl rfl (b true) (LOp.eqb (LOp.neq rfl rfl rfl) hc50)<|yl rfl (b true) yp<|zN ?_
           exact .inl ⟨hl55, hl57, (Le.of ⟨aR, aR, aR, aR, aR, aR, aR, trivial⟩ ⟨⟨rfl, .inr rfl⟩, ⟨rfl, .inr rfl⟩, ⟨rfl, .inr rfl⟩, ⟨rfl, .inl rfl⟩, ⟨rfl, .inr rfl⟩, trivial⟩), h⟩
          ·refine yW<|yl rfl (b true) (yv hc48)<|yl rfl (b false) y1<|ym rfl (b false)<|yl rfl (b true) (yv hc49)<|yl rfl (b false) y1<|yl rfl (b false) yp<|ym rfl (b false)<|ym rfl (oref 4 1 0 r64.length)<|yl rfl (i64 ((r64.length : Nat) : Int)) (LOp.len_oref und25 rfl rfl)<|ym rfl (i64 x3)<|yl rfl (b false) (LOp.eqb (LOp.neq rfl rfl rfl) hc50)<|yl rfl (b false) yp<|zN ?_
           exact .inr (⟨hl55, hl57, (Le.of ⟨aR, aR, aR, aR, aR, aR, aR, trivial⟩ ⟨⟨rfl, .inr rfl⟩, ⟨rfl, .inr rfl⟩, ⟨rfl, .inr rfl⟩, ⟨rfl, .inl rfl⟩, ⟨rfl, .inr rfl⟩, trivial⟩), h⟩)
         ·refine yW<|yl rfl (b true) (yv hc48)<|yl rfl (b false) y1<|ym rfl (b false)<|yl rfl (b false) (yv hc49)<|yl rfl (b true) y0<|yl rfl (b true) yp<|ym rfl (b true)<|ROps.s rfl rfl rfl<|ROps.s rfl rfl rfl<|ROps.s rfl rfl rfl<|ROps.s rfl rfl rfl<|yl rfl (b true) yq<|zN ?_
          exact .inl ⟨hl55, hl57, (Le.of ⟨aR, aR, aR, aR, aR, aR, aR, trivial⟩ ⟨⟨rfl, .inr rfl⟩, ⟨rfl, .inr rfl⟩, ⟨rfl, .inr rfl⟩, ⟨rfl, .inl rfl⟩, ⟨rfl, .inr rfl⟩, trivial⟩), h⟩
        ·refine yW<|yl rfl (b false) (yv hc48)<|yl rfl (b true) y0<|ym rfl (b true)<|ROps.s rfl rfl rfl<|ROps.s rfl rfl rfl<|yl rfl (b true) yq<|ym rfl (b true)<|ROps.s rfl rfl rfl<|ROps.s rfl rfl rfl<|ROps.s rfl rfl rfl<|ROps.s rfl rfl rfl<|yl rfl (b true) yq<|zN ?_
         exact .inl ⟨hl55, hl57, (Le.of ⟨aR, aR, aR, aR, aR, aR, aR, trivial⟩ ⟨⟨rfl, .inr rfl⟩, ⟨rfl, .inr rfl⟩, ⟨rfl, .inr rfl⟩, ⟨rfl, .inl rfl⟩, ⟨rfl, .inr rfl⟩, trivial⟩), h⟩
       ·rintro τ31 Γ31 (⟨hl65, hl66, hw31, h⟩ | ⟨hl67, hl68, hw31, h⟩)
        ·refine RunC.le (τ' := [(5, i64 x3), (9, (sFc r23)), (15, optr 0 (u20 + 1) 0), (16, oref 1 (u21 + 2) 0 r40.length), (17, oref 2 1 0 r41.length), (21, oref 4 1 0 r64.length), (176, b true)]) (Γ' := [⟨(u20 + 1), some (mXc r37 r38 r39)⟩, ⟨(u21 + 2), some (L54.map f32)⟩, ⟨1, some (L56.map f32)⟩, ⟨1, none⟩, ⟨1, some (r64.map f32)⟩]) hw31 ?_
         unfold w_FnNodes_k9 at h
         refine yT<|zQ<|ya rfl (b false)<|zN ?_
         refine RunC.ret ?_
         have hq := oI h
         subst q0
         exact bodyQ.pure (.inr rfl) rfl (Res.one rfl (RV.tmp rfl))
        ·refine RunC.le (τ' := [(5, i64 x3), (9, (sFc r23)), (15, optr 0 (u20 + 1) 0), (16, oref 1 (u21 + 2) 0 r40.length), (17, oref 2 1 0 r41.length), (21, oref 4 1 0 r64.length), (176, b false)]) (Γ' := [⟨(u20 + 1), some (mXc r37 r38 r39)⟩, ⟨(u21 + 2), some (L54.map f32)⟩, ⟨1, some (L56.map f32)⟩, ⟨1, none⟩, ⟨1, some (r64.map f32)⟩]) hw31 ?_
         unfold w_FnNodes_k11 at h
         refine yF<|RunC.skip<|zQ<|yl rfl (f64 (some 0)) (LOp.le (LOp.assign rfl rfl) (ALe.fl (by kernel_rfl) (by kernel_rfl)))<|zN ?_
         refine yS<|zQ<|ym rfl (oref 4 1 0 r64.length)<|yl rfl (i64 ((r64.length : Nat) : Int)) (LOp.len_oref und25 rfl rfl)<|ym rfl (i64 0)<|zN ?_
         obtain ⟨z32, hz_32, h⟩ := oS h
         refine RunC.cutN (fun τ Γ => ∃ (y79 : F), L54.length = r40.length ∧ Le 623 τ Γ [(5, i64 x3), (9, (sFc r23)), (15, optr 0 (u20 + 1) 0), (16, oref 1 (u21 + 2) 0 r40.length), (21, oref 4 1 0 r64.length), (23, f64 y79)] [⟨(u20 + 1), some (mXc r37 r38 r39)⟩, ⟨(u21 + 2), some (L54.map f32)⟩, ⟨1, none⟩, ⟨1, none⟩, ⟨1, some (r64.map f32)⟩] ∧ z32 = .inl y79) ?_ ?_
         ·refine RunC.block (RunC.loop (RunL.loopM (x := z32) (w_FnNodes_s12 L56 r64) (fun (s : F × Int) τ Γ => Le 623 τ Γ [(5, i64 x3), (9, (sFc r23)), (15, optr 0 (u20 + 1) 0), (16, oref 1 (u21 + 2) 0 r40.length), (17, oref 2 1 0 r41.length), (21, oref 4 1 0 r64.length), (23, f64 s.1), (178, i64 ((r64.length : Nat) : Int)), (179, i64 s.2)] [⟨(u20 + 1), some (mXc r37 r38 r39)⟩, ⟨(u21 + 2), some (L54.map f32)⟩, ⟨1, some (L56.map f32)⟩, ⟨1, none⟩, ⟨1, some (r64.map f32)⟩]) ?_ _ _ _ hz_32 (Le.of ⟨aR, aR, aR, aR, aR, aR, aR, aR, aR, trivial⟩ ⟨⟨rfl, .inr rfl⟩, ⟨rfl, .inr rfl⟩, ⟨rfl, .inr rfl⟩, ⟨rfl, .inl rfl⟩, ⟨rfl, .inr rfl⟩, trivial⟩)))
          rintro ⟨y69, v70⟩ τ32 Γ32 y32_ hw32 h32_ ho32 hr32
          refine RunC.le (τ' := [(5, i64 x3), (9, (sFc r23)), (15, optr 0 (u20 + 1) 0), (16, oref 1 (u21 + 2) 0 r40.length), (17, oref 2 1 0 r41.length), (21, oref 4 1 0 r64.length), (23, f64 y69), (178, i64 ((r64.length : Nat) : Int)), (179, i64 v70)]) (Γ' := [⟨(u20 + 1), some (mXc r37 r38 r39)⟩, ⟨(u21 + 2), some (L54.map f32)⟩, ⟨1, some (L56.map f32)⟩, ⟨1, none⟩, ⟨1, some (r64.map f32)⟩]) hw32 ?_
          replace h32_ : w_FnNodes_b12 L56 r64 y69 v70 = some y32_ := h32_
          unfold w_FnNodes_b12 at h32_
          refine yS ?_
          rcases oB h32_ with ⟨hc51, h32_⟩ | ⟨hc51, h32_⟩
          ·refine yW<|yl rfl (b true) (LOp.eqb (LOp.lss rfl rfl rfl) hc51)<|zN ?_
           refine yS<|yT<|RunC.skip<|yS<|RunC.block<|zQ<|ym rfl (i64 v70)<|ya rfl (i64 v70)<|zN ?_
           obtain ⟨e71, he52, h32_⟩ := oS h32_
           obtain ⟨x72, hx53, h32_⟩ := oL h32_
           obtain ⟨e73, he54, h32_⟩ := oS h32_
           obtain ⟨x74, hx55, h32_⟩ := oL h32_
           obtain ⟨x75, hx56, h32_⟩ := oL h32_
           obtain ⟨x76, hx57, h32_⟩ := oL h32_
           refine RunC.region_draw (Γ' := [⟨(u20 + 1), some (mXc r37 r38 r39)⟩, ⟨(u21 + 2), some (L54.map f32)⟩, ⟨1, some (L56.map f32)⟩, ⟨1, none⟩, ⟨1, some (r64.map f32)⟩]) 14 mixed 
            (tm rfl (f64 y69) <|
            (tm rfl (oref 2 1 0 r41.length) <|
            (tm rfl (i64 v70) <|
            (TR.d (r := optr 2 1 v70.toNat) (fs := []) rfl rfl (TOp.ixo und25 siz41 rfl rfl rfl (at_in he52 hl68) rfl) <|
            (TR.d (r := f32 e71) (fs := []) rfl rfl (TOp.load1_o rfl (at_cell he52) agg41 rfl rfl) <|
            (TR.d (r := f64 x72) (fs := []) rfl rfl (TOp.eqr (TOp.widen (src := 41) (dst := 48) ⟨_, pun41⟩ pun48 rfl (OpF.tmp rfl)) (congrArg (f .f64) hx53)) <|
            (tm rfl (oref 4 1 0 r64.length) <|
            (tm rfl (i64 v70) <|
            (TR.d (r := optr 4 1 v70.toNat) (fs := []) rfl rfl (TOp.ixo und25 siz41 rfl rfl rfl (at_in he54 rfl) rfl) <|
            (TR.d (r := f32 e73) (fs := []) rfl rfl (TOp.load1_o rfl (at_cell he54) agg41 rfl rfl) <|
            (TR.d (r := f64 x74) (fs := []) rfl rfl (TOp.eqr (TOp.widen (src := 41) (dst := 48) ⟨_, pun41⟩ pun48 rfl (OpF.tmp rfl)) (congrArg (f .f64) hx55)) <|
            (TR.d (r := f64 x75) (fs := []) rfl rfl (TOp.eqr (TOp.fop (.inr (.inr (.inl rfl))) rfl (OpF.tmp rfl) (OpF.tmp rfl)) (congrArg (f .f64) hx56)) <|
            (TR.d (r := f64 x76) (fs := []) rfl rfl (TOp.eqr (TOp.fop (.inl rfl) rfl (OpF.tmp rfl) (OpF.tmp rfl)) (congrArg (f .f64) hx57)) <|
            (tl rfl (f64 x76) (LOp.assign rfl rfl) <|
            TR.nil)))))))))))))) rfl (by kernel_rfl) rfl fills_nil rfl ?_
           iterate 14 refine ROps.dropS ?_
           refine ROps.drop0<|zN ?_
           obtain ⟨x77, hx58, h32_⟩ := oL h32_
           refine yW<|yl rfl (i64 x77) (LOp.eqr (LOp.add rfl rfl rfl) (congrArg (ik .i64) hx58))<|ym rfl (i64 x77)<|zN ?_
           cases oI h32_
           exact ⟨_, rfl, (Le.of ⟨aR, aR, aR, aR, aR, aR, aR, aR, aR, trivial⟩ ⟨⟨rfl, .inr rfl⟩, ⟨rfl, .inr rfl⟩, ⟨rfl, .inr rfl⟩, ⟨rfl, .inl rfl⟩, ⟨rfl, .inr rfl⟩, trivial⟩)⟩
          ·refine yW<|yl rfl (b false) (LOp.eqb (LOp.lss rfl rfl rfl) hc51)<|zN ?_
           refine yS<|yF<|RunC.exit ?_
           cases oI h32_
           have hx := ho32 _ rfl
           exact ⟨y69, hl67, (Le.of ⟨aR, aR, aR, aR, aR, aR, trivial⟩ ⟨⟨rfl, .inr rfl⟩, ⟨rfl, .inr rfl⟩, ⟨rfl, .inl rfl⟩, ⟨rfl, .inl rfl⟩, ⟨rfl, .inr rfl⟩, trivial⟩), hx⟩
         ·rintro τ33 Γ33 ⟨y79, hl78, hw33, rfl⟩
          refine RunC.le hw33 ?_
          replace h : w_FnNodes_k12 x3 r23 r37 r38 r39 L54 r64 y79 = some q0 := h
          unfold w_FnNodes_k12 at h
          refine yS ?_
          obtain ⟨r80, r81, hf59, h⟩ := obind2_some h
          refine yW<|yd rfl (agg (mXc r37 r38 r39)) (TOp.loadAgg_o rfl agg27 siz27 rfl rfl rfl rfl)<|ym rfl (oref 4 1 0 r64.length)<|ye rfl (tup [oref 2 2 0 r81.length, b r80]) [⟨(u20 + 1), some (mXc r37 r38 r39)⟩, ⟨(u21 + 2), some (L54.map f32)⟩, ⟨2, some (r81.map f32)⟩, ⟨1, none⟩, ⟨1, some (r64.map f32)⟩] (TOp.callBN (ls := [(r81.map f32)]) [2] (CallAs.func ent23 rfl rfl) (Bors.cons (Bor.agg (bP (bP (bS bN)))) (Bors.cons (Bor.own (f := f32) (fun _ => rfl) rfl rfl) bN)) rfl (s_TimesVector_ok r37 r38 r39 r64 r80 r81 hf59) (and_all (lts0_map (f := f32) (fun _ => rfl) _) rfl) (and_all (noss_map (f := f32) (fun _ => rfl) _) rfl) rfl (by decide) (ns_of ⟨⟨_, rfl⟩, trivial⟩))<|ym rfl (tup [oref 2 2 0 r81.length, b r80])<|yl rfl (oref 2 2 0 r81.length) y3<|yl rfl (b r80) y3<|ya rfl (oref 2 2 0 r81.length)<|ya rfl (b r80)<|zN ?_
          refine RunC.wl (τ' := [(5, i64 x3), (9, (sFc r23)), (15, optr 0 (u20 + 1) 0), (16, oref 1 (u21 + 2) 0 r40.length), (23, f64 y79), (25, oref 2 2 0 r81.length), (26, b r80)]) (Γ' := [⟨(u20 + 1), some (mXc r37 r38 r39)⟩, ⟨(u21 + 2), some (L54.map f32)⟩, ⟨2, some (r81.map f32)⟩, ⟨1, none⟩, ⟨1, none⟩]) ⟨aR, aR, aR, aR, aR, aR, aR, trivial⟩ ⟨⟨rfl, .inr rfl⟩, ⟨rfl, .inr rfl⟩, ⟨rfl, .inr rfl⟩, ⟨rfl, .inl rfl⟩, ⟨rfl, .inl rfl⟩, trivial⟩<|yS<|yS<|RunC.cutN (fun τ Γ => ( L54.length = r40.length ∧ Le 623 τ Γ [(5, i64 x3), (9, (sFc r23)), (15, optr 0 (u20 + 1) 0), (16, oref 1 (u21 + 2) 0 r40.length), (23, f64 y79), (25, oref 2 2 0 r81.length), (209, b true)] [⟨(u20 + 1), some (mXc r37 r38 r39)⟩, ⟨(u21 + 2), some (L54.map f32)⟩, ⟨2, some (r81.map f32)⟩, ⟨1, none⟩, ⟨1, none⟩] ∧ w_FnNodes_k14 = some q0) ∨ ( L54.length = r40.length ∧ Le 623 τ Γ [(5, i64 x3), (9, (sFc r23)), (15, optr 0 (u20 + 1) 0), (16, oref 1 (u21 + 2) 0 r40.length), (23, f64 y79), (25, oref 2 2 0 r81.length), (209, b false)] [⟨(u20 + 1), some (mXc r37 r38 r39)⟩, ⟨(u21 + 2), some (L54.map f32)⟩, ⟨2, some (r81.map f32)⟩, ⟨1, none⟩, ⟨1, none⟩] ∧ w_FnNodes_k16 x3 r23 r37 r38 r39 L54 y79 r81 = some q0)) ?_ ?_
          ·rcases oB h with ⟨hc60, h⟩ | ⟨hc60, h⟩
           ·rcases oB h with ⟨hc61, h⟩ | ⟨hc61, h⟩
            ·refine yW<|yl rfl (b true) (yv hc60)<|yl rfl (b false) y1<|ym rfl (b false)<|ym rfl (oref 2 2 0 r81.length)<|yl rfl (i64 ((r81.length : Nat) : Int)) (LOp.len_oref und25 rfl rfl)<|ym rfl (i64 x3)<|yl rfl (b true) (LOp.eqb (LOp.neq rfl rfl rfl) hc61)<|yl rfl (b true) yp<|zN ?_
             exact .inl ⟨hl78, (Le.of ⟨aR, aR, aR, aR, aR, aR, aR, trivial⟩ ⟨⟨rfl, .inr rfl⟩, ⟨rfl, .inr rfl⟩, ⟨rfl, .inr rfl⟩, ⟨rfl, .inl rfl⟩, ⟨rfl, .inl rfl⟩, trivial⟩), h⟩
            ·refine yW<|yl rfl (b true) (yv hc60)<|yl rfl (b false) y1<|ym rfl (b false)<|ym rfl (oref 2 2 0 r81.length)<|yl rfl (i64 ((r81.length : Nat) : Int)) (LOp.len_oref und25 rfl rfl)<|ym rfl (i64 x3)<|yl rfl (b false) (LOp.eqb (LOp.neq rfl rfl rfl) hc61)<|yl rfl (b false) yp<|zN ?_
             exact .inr (⟨hl78, (Le.of ⟨aR, aR, aR, aR, aR, aR, aR, trivial⟩ ⟨⟨rfl, .inr rfl⟩, ⟨rfl, .inr rfl⟩, ⟨rfl, .inr rfl⟩, ⟨rfl, .inl rfl⟩, ⟨rfl, .inl rfl⟩, trivial⟩), h⟩)
           ·refine yW<|yl rfl (b false) (yv hc60)<|yl rfl (b true) y0<|ym rfl (b true)<|ROps.s rfl rfl rfl<|ROps.s rfl rfl rfl<|ROps.s rfl rfl rfl<|ROps.s rfl rfl rfl<|yl rfl (b true) yq<|zN ?_
            exact .inl ⟨hl78, (Le.of ⟨aR, aR, aR, aR, aR, aR, aR, trivial⟩ ⟨⟨rfl, .inr rfl⟩, ⟨rfl, .inr rfl⟩, ⟨rfl, .inr rfl⟩, ⟨rfl, .inl rfl⟩, ⟨rfl, .inl rfl⟩, trivial⟩), h⟩
          ·rintro τ34 Γ34 (⟨hl82, hw34, h⟩ | ⟨hl83, hw34, h⟩)
           ·refine RunC.le (τ' := [(5, i64 x3), (9, (sFc r23)), (15, optr 0 (u20 + 1) 0), (16, oref 1 (u21 + 2) 0 r40.length), (23, f64 y79), (25, oref 2 2 0 r81.length), (209, b true)]) (Γ' := [⟨(u20 + 1), some (mXc r37 r38 r39)⟩, ⟨(u21 + 2), some (L54.map f32)⟩, ⟨2, some (r81.map f32)⟩, ⟨1, none⟩, ⟨1, none⟩]) hw34 ?_
            unfold w_FnNodes_k14 at h
            refine yT<|zQ<|ya rfl (b false)<|zN ?_
            refine RunC.ret ?_
            have hq := oI h
            subst q0
            exact bodyQ.pure (.inr rfl) rfl (Res.one rfl (RV.tmp rfl))
           ·refine RunC.le (τ' := [(5, i64 x3), (9, (sFc r23)), (15, optr 0 (u20 + 1) 0), (16, oref 1 (u21 + 2) 0 r40.length), (23, f64 y79), (25, oref 2 2 0 r81.length), (209, b false)]) (Γ' := [⟨(u20 + 1), some (mXc r37 r38 r39)⟩, ⟨(u21 + 2), some (L54.map f32)⟩, ⟨2, some (r81.map f32)⟩, ⟨1, none⟩, ⟨1, none⟩]) hw34 ?_
            unfold w_FnNodes_k16 at h
            refine yF<|RunC.skip<|yS<|zQ<|ym rfl (oref 2 2 0 r81.length)<|yl rfl (i64 ((r81.length : Nat) : Int)) (LOp.len_oref und25 rfl rfl)<|ym rfl (i64 0)<|zN ?_
            obtain ⟨z35, hz_35, h⟩ := oS h
            refine RunC.cutN (fun τ Γ => Le 623 τ Γ [(5, i64 x3), (15, optr 0 (u20 + 1) 0)] [⟨(u20 + 1), some (mXc r37 r38 r39)⟩, ⟨(u21 + 2), none⟩, ⟨2, none⟩, ⟨1, none⟩, ⟨1, none⟩] ∧ z35 = .inl ()) ?_ ?_
            ·refine RunC.block (RunC.loop (RunL.loopM (x := z35) (w_FnNodes_s17 r23 L54 y79 r81) (fun (s : Int) τ Γ => Le 623 τ Γ [(5, i64 x3), (9, (sFc r23)), (15, optr 0 (u20 + 1) 0), (16, oref 1 (u21 + 2) 0 r40.length), (23, f64 y79), (25, oref 2 2 0 r81.length), (211, i64 ((r81.length : Nat) : Int)), (212, i64 s)] [⟨(u20 + 1), some (mXc r37 r38 r39)⟩, ⟨(u21 + 2), some (L54.map f32)⟩, ⟨2, some (r81.map f32)⟩, ⟨1, none⟩, ⟨1, none⟩]) ?_ _ _ _ hz_35 (Le.of ⟨aR, aR, aR, aR, aR, aR, aR, aR, trivial⟩ ⟨⟨rfl, .inr rfl⟩, ⟨rfl, .inr rfl⟩, ⟨rfl, .inr rfl⟩, ⟨rfl, .inl rfl⟩, ⟨rfl, .inl rfl⟩, trivial⟩)))
             rintro v84 τ35 Γ35 y35_ hw35 h35_ ho35 hr35
             refine RunC.le (τ' := [(5, i64 x3), (9, (sFc r23)), (15, optr 0 (u20 + 1) 0), (16, oref 1 (u21 + 2) 0 r40.length), (23, f64 y79), (25, oref 2 2 0 r81.length), (211, i64 ((r81.length : Nat) : Int)), (212, i64 v84)]) (Γ' := [⟨(u20 + 1), some (mXc r37 r38 r39)⟩, ⟨(u21 + 2), some (L54.map f32)⟩, ⟨2, some (r81.map f32)⟩, ⟨1, none⟩, ⟨1, none⟩]) hw35 ?_
             replace h35_ : w_FnNodes_b17 r23 L54 y79 r81 v84 = some y35_ := h35_
             unfold w_FnNodes_b17 at h35_
             refine yS ?_
             rcases oB h35_ with ⟨hc62, h35_⟩ | ⟨hc62, h35_⟩
             ·refine yW<|yl rfl (b true) (LOp.eqb (LOp.lss rfl rfl rfl) hc62)<|zN ?_
              refine yS<|yT<|RunC.skip<|yS<|RunC.block<|zQ<|ym rfl (i64 v84)<|ya rfl (i64 v84)<|zN ?_
              refine yS ?_
              obtain ⟨e85, he63, h35_⟩ := oS h35_
              obtain ⟨x86, hx64, h35_⟩ := oL h35_
              obtain ⟨e87, he65, h35_⟩ := oS h35_
              obtain ⟨x88, hx66, h35_⟩ := oL h35_
              obtain ⟨x89, hx67, h35_⟩ := oL h35_
              obtain ⟨x90, hx68, h35_⟩ := oL h35_
              obtain ⟨e91, he69, h35_⟩ := oS h35_
              obtain ⟨x92, hx70, h35_⟩ := oL h35_
              obtain ⟨r93, hf71, h35_⟩ := oS h35_
              rcases oB h35_ with ⟨hc72, h35_⟩ | ⟨hc72, h35_⟩
              ·refine RunC.region_draw (Γ' := [⟨(u20 + 1), some (mXc r37 r38 r39)⟩, ⟨(u21 + 2), some (L54.map f32)⟩, ⟨2, some (r81.map f32)⟩, ⟨1, none⟩, ⟨1, none⟩]) 20 mixed 
                (tm rfl (oref 2 2 0 r81.length) <|
                (tm rfl (i64 v84) <|
                (TR.d (r := optr 2 2 v84.toNat) (fs := []) rfl rfl (TOp.ixo und25 siz41 rfl rfl rfl (at_in he63 rfl) rfl) <|
                (TR.d (r := f32 e85) (fs := []) rfl rfl (TOp.load1_o rfl (at_cell he63) agg41 rfl rfl) <|
                (TR.d (r := f64 x86) (fs := []) rfl rfl (TOp.eqr (TOp.widen (src := 41) (dst := 48) ⟨_, pun41⟩ pun48 rfl (OpF.tmp rfl)) (congrArg (f .f64) hx64)) <|
                (tm rfl (f64 y79) <|
                (tm rfl (oref 1 (u21 + 2) 0 r40.length) <|
                (tm rfl (i64 v84) <|
                (TR.d (r := optr 1 (u21 + 2) v84.toNat) (fs := []) rfl rfl (TOp.ixo und25 siz41 rfl rfl rfl (at_in he65 hl83) rfl) <|
                (TR.d (r := f32 e87) (fs := []) rfl rfl (TOp.load1_o rfl (at_cell he65) agg41 rfl rfl) <|
                (TR.d (r := f64 x88) (fs := []) rfl rfl (TOp.eqr (TOp.widen (src := 41) (dst := 48) ⟨_, pun41⟩ pun48 rfl (OpF.tmp rfl)) (congrArg (f .f64) hx66)) <|
                (TR.d (r := f64 x89) (fs := []) rfl rfl (TOp.eqr (TOp.fop (.inr (.inr (.inl rfl))) rfl (OpF.tmp rfl) (OpF.tmp rfl)) (congrArg (f .f64) hx67)) <|
                (TR.d (r := f64 x90) (fs := []) rfl rfl (TOp.eqr (TOp.fop (.inl rfl) rfl (OpF.tmp rfl) (OpF.tmp rfl)) (congrArg (f .f64) hx68)) <|
                (tm rfl (sFc r23) <|
                (tm rfl (i64 v84) <|
                (tl rfl (ptr [f32 e91]) (LOp.le (LOp.ix (f := f32) und25 siz41 rfl rfl rfl rfl he69) ALe.ptr) <|
                (tl rfl (f32 e91) (y2 agg41) <|
                (TR.d (r := f64 x92) (fs := []) rfl rfl (TOp.eqr (TOp.widen (src := 41) (dst := 48) ⟨_, pun41⟩ pun48 rfl (OpF.tmp rfl)) (congrArg (f .f64) hx70)) <|
                (TR.d (r := f64 r93) (fs := []) rfl rfl (yc ent28 rfl rfl (bP bN0) (w_b10Gap_ok x90 x92 r93 hf71)) <|
                (tl rfl (b true) (LOp.eqb (LOp.fgt rfl (OpF.tmp rfl) (OpF.const rfl (by kernel_rfl) (by kernel_rfl))) hc72) <|
                TR.nil)))))))))))))))))))) rfl (by kernel_rfl) rfl fills_nil rfl ?_
               iterate 20 refine ROps.dropS ?_
               refine ROps.drop0<|zN ?_
               refine yT<|zQ<|ya rfl (b false)<|zN ?_
               refine RunC.ret ?_
               cases oI h35_
               have hx36_ := hr35 _ rfl
               subst hx36_
               have hq := oI h
               subst q0
               exact bodyQ.pure (.inr rfl) rfl (Res.one rfl (RV.tmp rfl))
              ·refine RunC.region_draw (Γ' := [⟨(u20 + 1), some (mXc r37 r38 r39)⟩, ⟨(u21 + 2), some (L54.map f32)⟩, ⟨2, some (r81.map f32)⟩, ⟨1, none⟩, ⟨1, none⟩]) 20 mixed 
                (tm rfl (oref 2 2 0 r81.length) <|
                (tm rfl (i64 v84) <|
                (TR.d (r := optr 2 2 v84.toNat) (fs := []) rfl rfl (TOp.ixo und25 siz41 rfl rfl rfl (at_in he63 rfl) rfl) <|
                (TR.d (r := f32 e85) (fs := []) rfl rfl (TOp.load1_o rfl (at_cell he63) agg41 rfl rfl) <|
                (TR.d (r := f64 x86) (fs := []) rfl rfl (TOp.eqr (TOp.widen (src := 41) (dst := 48) ⟨_, pun41⟩ pun48 rfl (OpF.tmp rfl)) (congrArg (f .f64) hx64)) <|
                (tm rfl (f64 y79) <|
                (tm rfl (oref 1 (u21 + 2) 0 r40.length) <|
                (tm rfl (i64 v84) <|
                (TR.d (r := optr 1 (u21 + 2) v84.toNat) (fs := []) rfl rfl (TOp.ixo und25 siz41 rfl rfl rfl (at_in he65 hl83) rfl) <|
                (TR.d (r := f32 e87) (fs := []) rfl rfl (TOp.load1_o rfl (at_cell he65) agg41 rfl rfl) <|
                (TR.d (r := f64 x88) (fs := []) rfl rfl (TOp.eqr (TOp.widen (src := 41) (dst := 48) ⟨_, pun41⟩ pun48 rfl (OpF.tmp rfl)) (congrArg (f .f64) hx66)) <|
                (TR.d (r := f64 x89) (fs := []) rfl rfl (TOp.eqr (TOp.fop (.inr (.inr (.inl rfl))) rfl (OpF.tmp rfl) (OpF.tmp rfl)) (congrArg (f .f64) hx67)) <|
                (TR.d (r := f64 x90) (fs := []) rfl rfl (TOp.eqr (TOp.fop (.inl rfl) rfl (OpF.tmp rfl) (OpF.tmp rfl)) (congrArg (f .f64) hx68)) <|
                (tm rfl (sFc r23) <|
                (tm rfl (i64 v84) <|
                (tl rfl (ptr [f32 e91]) (LOp.le (LOp.ix (f := f32) und25 siz41 rfl rfl rfl rfl he69) ALe.ptr) <|
                (tl rfl (f32 e91) (y2 agg41) <|
                (TR.d (r := f64 x92) (fs := []) rfl rfl (TOp.eqr (TOp.widen (src := 41) (dst := 48) ⟨_, pun41⟩ pun48 rfl (OpF.tmp rfl)) (congrArg (f .f64) hx70)) <|
                (TR.d (r := f64 r93) (fs := []) rfl rfl (yc ent28 rfl rfl (bP bN0) (w_b10Gap_ok x90 x92 r93 hf71)) <|
                (tl rfl (b false) (LOp.eqb (LOp.fgt rfl (OpF.tmp rfl) (OpF.const rfl (by kernel_rfl) (by kernel_rfl))) hc72) <|
                TR.nil)))))))))))))))))))) rfl (by kernel_rfl) rfl fills_nil rfl ?_
               iterate 20 refine ROps.dropS ?_
               refine ROps.drop0<|zN ?_
               refine yF<|RunC.skip ?_
               obtain ⟨x94, hx73, h35_⟩ := oL h35_
               refine yW<|yl rfl (i64 x94) (LOp.eqr (LOp.add rfl rfl rfl) (congrArg (ik .i64) hx73))<|ym rfl (i64 x94)<|zN ?_
               cases oI h35_
               exact ⟨_, rfl, (Le.of ⟨aR, aR, aR, aR, aR, aR, aR, aR, trivial⟩ ⟨⟨rfl, .inr rfl⟩, ⟨rfl, .inr rfl⟩, ⟨rfl, .inr rfl⟩, ⟨rfl, .inl rfl⟩, ⟨rfl, .inl rfl⟩, trivial⟩)⟩
             ·refine yW<|yl rfl (b false) (LOp.eqb (LOp.lss rfl rfl rfl) hc62)<|zN ?_
              refine yS<|yF<|RunC.exit ?_
              cases oI h35_
              have hx := ho35 _ rfl
              exact ⟨(Le.of ⟨aR, aR, trivial⟩ ⟨⟨rfl, .inr rfl⟩, ⟨rfl, .inl rfl⟩, ⟨rfl, .inl rfl⟩, ⟨rfl, .inl rfl⟩, ⟨rfl, .inl rfl⟩, trivial⟩), hx⟩
            ·rintro τ37 Γ37 ⟨hw37, rfl⟩
             refine RunC.le hw37 ?_
             replace h : w_FnNodes_k17 x3 r37 r38 r39 = some q0 := h
             unfold w_FnNodes_k17 at h
             refine yS ?_
             obtain ⟨r95, r96, r97, r98, r99, r100, hf74, h⟩ := obind6_some h
             refine yW<|yd rfl (agg (mXc r37 r38 r39)) (TOp.loadAgg_o rfl agg27 siz27 rfl rfl rfl rfl)<|ym rfl (i64 x3)<|yd rfl (tup [agg (mXc r95 r96 r98), sl r99.length (r99.map i64), sl r100.length (r100.map i64), b r97]) (TOp.callS (CallAs.func ent33 rfl rfl) (ALes.cons aR (ALes.cons (ALe.fl (by kernel_rfl) (by kernel_rfl)) (ALes.cons aR ALes.nil))) (lts_cons (lt_agg (lts_cons rfl (lts_cons rfl (lts_cons (lt_sl (fun _ => rfl)) lts_nil)))) (lts_cons rfl (lts_cons rfl lts_nil))) (lt_tup (lts_cons (lt_agg (lts_cons rfl (lts_cons rfl (lts_cons (lt_sl (fun _ => rfl)) lts_nil)))) (lts_cons (lt_sl (fun _ => rfl)) (lts_cons (lt_sl (fun _ => rfl)) (lts_cons rfl lts_nil))))) (i_CrossOf_ok r37 r38 r39 (some 981668463) x3 r95 r96 r97 r98 r99 r100 hf74) (Bor.tup (Bors.cons (Bor.agg (bP (bP (Bors.cons (Bor.own (f := f32) (fun _ => rfl) rfl rfl) bN)))) (Bors.cons (Bor.own (f := i64) (fun _ => rfl) rfl rfl) (Bors.cons (Bor.own (f := i64) (fun _ => rfl) rfl rfl) bN0)))))<|ym rfl (tup [agg (mXc r95 r96 r98), sl r99.length (r99.map i64), sl r100.length (r100.map i64), b r97])<|yl rfl (agg (mXc r95 r96 r98)) y3<|yl rfl (sl r99.length (r99.map i64)) y3<|yl rfl (sl r100.length (r100.map i64)) y3<|yl rfl (b r97) y3<|ye rfl (optr 1 (u21 + 3) 0) [⟨(u20 + 1), some (mXc r37 r38 r39)⟩, ⟨(u21 + 3), some zMx⟩, ⟨2, none⟩, ⟨1, none⟩, ⟨1, none⟩] (TOp.alloc_o (g := ⟨(u21 + 2), none⟩) 1 rfl zer27 zok27 rfl)<|ys (agg (mXc r95 r96 r98)) (mXc r95 r96 r98) [⟨(u20 + 1), some (mXc r37 r38 r39)⟩, ⟨(u21 + 3), some (mXc r95 r96 r98)⟩, ⟨2, none⟩, ⟨1, none⟩, ⟨1, none⟩] siz27<|ya rfl (sl r99.length (r99.map i64))<|ya rfl (sl r100.length (r100.map i64))<|ya rfl (b r97)<|zN ?_
             refine yS ?_
             obtain ⟨r101, r102, r103, r104, r105, r106, hf75, h⟩ := obind6_some h
             refine yW<|yd rfl (agg (mXc r37 r38 r39)) (TOp.loadAgg_o rfl agg27 siz27 rfl rfl rfl rfl)<|yd rfl (tup [agg (mXc r101 r102 r104), sl r105.length (r105.map i64), sl r106.length (r106.map i64), b r103]) (TOp.callS (CallAs.func ent33 rfl rfl) (ALes.cons aR (ALes.cons (ALe.fl (by kernel_rfl) (by kernel_rfl)) (ALes.cons aR ALes.nil))) (lts_cons (lt_agg (lts_cons rfl (lts_cons rfl (lts_cons (lt_sl (fun _ => rfl)) lts_nil)))) (lts_cons rfl (lts_cons rfl lts_nil))) (lt_tup (lts_cons (lt_agg (lts_cons rfl (lts_cons rfl (lts_cons (lt_sl (fun _ => rfl)) lts_nil)))) (lts_cons (lt_sl (fun _ => rfl)) (lts_cons (lt_sl (fun _ => rfl)) (lts_cons rfl lts_nil))))) (i_CrossOf_ok r37 r38 r39 (some 981668463) 1 r101 r102 r103 r104 r105 r106 hf75) (Bor.tup (Bors.cons (Bor.agg (bP (bP (Bors.cons (Bor.own (f := f32) (fun _ => rfl) rfl rfl) bN)))) (Bors.cons (Bor.own (f := i64) (fun _ => rfl) rfl rfl) (Bors.cons (Bor.own (f := i64) (fun _ => rfl) rfl rfl) bN0)))))<|ym rfl (tup [agg (mXc r101 r102 r104), sl r105.length (r105.map i64), sl r106.length (r106.map i64), b r103])<|yl rfl (agg (mXc r101 r102 r104)) y3<|yl rfl (sl r105.length (r105.map i64)) y3<|yl rfl (sl r106.length (r106.map i64)) y3<|yl rfl (b r103) y3<|ye rfl (optr 2 3 0) [⟨(u20 + 1), some (mXc r37 r38 r39)⟩, ⟨(u21 + 3), some (mXc r95 r96 r98)⟩, ⟨3, some zMx⟩, ⟨1, none⟩, ⟨1, none⟩] (TOp.alloc_o (g := ⟨2, none⟩) 2 rfl zer27 zok27 rfl)<|ys (agg (mXc r101 r102 r104)) (mXc r101 r102 r104) [⟨(u20 + 1), some (mXc r37 r38 r39)⟩, ⟨(u21 + 3), some (mXc r95 r96 r98)⟩, ⟨3, some (mXc r101 r102 r104)⟩, ⟨1, none⟩, ⟨1, none⟩] siz27<|ya rfl (sl r105.length (r105.map i64))<|ya rfl (sl r106.length (r106.map i64))<|ya rfl (b r103)<|zN ?_
             refine yS<|RunC.cutN (fun τ Γ => ( Le 623 τ Γ [(4, b false)] [⟨(u20 + 1), none⟩, ⟨(u21 + 3), none⟩, ⟨3, none⟩, ⟨1, none⟩, ⟨1, none⟩] ∧ w_FnNodes_k19 = some q0) ∨ ( Le 623 τ Γ [(4, b (decide (r101 = x3)))] [⟨(u20 + 1), none⟩, ⟨(u21 + 3), none⟩, ⟨3, none⟩, ⟨1, none⟩, ⟨1, none⟩] ∧ w_FnNodes_k21 x3 r101 = some q0)) ?_ ?_
             ·rcases oB h with ⟨hc76, h⟩ | ⟨hc76, h⟩
              ·rcases oB h with ⟨hc77, h⟩ | ⟨hc77, h⟩
               ·obtain ⟨r107, hf78, h⟩ := oS h
                rcases oB h with ⟨hc79, h⟩ | ⟨hc79, h⟩
                ·refine RunC.region_draw (Γ' := [⟨(u20 + 1), some (mXc r37 r38 r39)⟩, ⟨(u21 + 3), some (mXc r95 r96 r98)⟩, ⟨3, some (mXc r101 r102 r104)⟩, ⟨1, none⟩, ⟨1, none⟩]) 61 mixed 
                  (tl rfl (b true) (yv hc76) <|
                  (tm rfl (b true) <|
                  (tl rfl (b true) (yv hc77) <|
                  (tl rfl (b true) yq <|
                  (tm rfl (b true) <|
                  (TR.d (r := agg (mXc r95 r96 r98)) (fs := []) rfl rfl (TOp.loadAgg_o rfl agg27 siz27 rfl rfl rfl rfl) <|
                  (TR.d (r := agg (mXc r37 r38 r39)) (fs := []) rfl rfl (TOp.loadAgg_o rfl agg27 siz27 rfl rfl rfl rfl) <|
                  (TR.d (r := b true) (fs := []) rfl rfl (TOp.eqb (TOp.callB (CallAs.func ent22 rfl rfl) (Bors.cons (Bor.agg (bP (bP (bS bN)))) (Bors.cons (Bor.agg (bP (bP (bS bN)))) (Bors.cons (Bor.le (ALe.fl (by kernel_rfl) (by kernel_rfl)) (Bor.pure rfl)) bN))) rfl rfl (w_b10FarMatrix_ok r95 r96 r98 r37 r38 r39 (some 4576918229304087675) r107 hf78)) hc79) <|
                  (tl rfl (b false) (LOp.eqb (LOp.not rfl rfl) rfl) <|
                  (tl rfl (b false) yq <|
                  (tm rfl (b false) <|
                  (ts rfl <|
                  (ts rfl <|
                  (ts rfl <|
                  (ts rfl <|
                  (tl rfl (b false) yp <|
                  (tm rfl (b false) <|
                  (ts rfl <|
                  (ts rfl <|
                  (ts rfl <|
                  (ts rfl <|
                  (tl rfl (b false) yp <|
                  (tm rfl (b false) <|
                  (ts rfl <|
                  (ts rfl <|
                  (ts rfl <|
                  (tl rfl (b false) yp <|
                  (tm rfl (b false) <|
                  (ts rfl <|
                  (ts rfl <|
                  (ts rfl <|
                  (tl rfl (b false) yp <|
                  (tm rfl (b false) <|
                  (ts rfl <|
                  (ts rfl <|
                  (ts rfl <|
                  (ts rfl <|
                  (ts rfl <|
                  (ts rfl <|
                  (ts rfl <|
                  (tl rfl (b false) yp <|
                  (tm rfl (b false) <|
                  (ts rfl <|
                  (ts rfl <|
                  (ts rfl <|
                  (ts rfl <|
                  (ts rfl <|
                  (ts rfl <|
                  (ts rfl <|
                  (tl rfl (b false) yp <|
                  (tm rfl (b false) <|
                  (ts rfl <|
                  (ts rfl <|
                  (tl rfl (b false) yp <|
                  (tm rfl (b false) <|
                  (ts rfl <|
                  (ts rfl <|
                  (ts rfl <|
                  (ts rfl <|
                  (tl rfl (b false) yp <|
                  (tl rfl (b false) (LOp.assign rfl rfl) <|
                  TR.nil))))))))))))))))))))))))))))))))))))))))))))))))))))))))))))) rfl (by kernel_rfl) rfl fills_nil rfl ?_
                 iterate 61 refine ROps.dropS ?_
                 refine ROps.drop0<|zN ?_
                 exact .inl ⟨(Le.of ⟨aR, trivial⟩ ⟨⟨rfl, .inl rfl⟩, ⟨rfl, .inl rfl⟩, ⟨rfl, .inl rfl⟩, ⟨rfl, .inl rfl⟩, ⟨rfl, .inl rfl⟩, trivial⟩), h⟩
                ·rcases oB h with ⟨hc80, h⟩ | ⟨hc80, h⟩
                 ·rcases oB h with ⟨hc81, h⟩ | ⟨hc81, h⟩
                  ·rcases oB h with ⟨hc82, h⟩ | ⟨hc82, h⟩
                   ·rcases oB h with ⟨hc83, h⟩ | ⟨hc83, h⟩
                    ·obtain ⟨e108, he84, h⟩ := oS h
                     obtain ⟨e109, he85, h⟩ := oS h
                     rcases oB h with ⟨hc86, h⟩ | ⟨hc86, h⟩
                     ·obtain ⟨e110, he87, h⟩ := oS h
                      obtain ⟨e111, he88, h⟩ := oS h
                      rcases oB h with ⟨hc89, h⟩ | ⟨hc89, h⟩
                      ·obtain ⟨r112, hf90, h⟩ := oS h
                       rcases oB h with ⟨hc91, h⟩ | ⟨hc91, h⟩
                       ·refine RunC.region_draw (Γ' := [⟨(u20 + 1), some (mXc r37 r38 r39)⟩, ⟨(u21 + 3), some (mXc r95 r96 r98)⟩, ⟨3, some (mXc r101 r102 r104)⟩, ⟨1, none⟩, ⟨1, none⟩]) 61 mixed 
                         (tl rfl (b true) (yv hc76) <|
                         (tm rfl (b true) <|
                         (tl rfl (b true) (yv hc77) <|
                         (tl rfl (b true) yq <|
                         (tm rfl (b true) <|
                         (TR.d (r := agg (mXc r95 r96 r98)) (fs := []) rfl rfl (TOp.loadAgg_o rfl agg27 siz27 rfl rfl rfl rfl) <|
                         (TR.d (r := agg (mXc r37 r38 r39)) (fs := []) rfl rfl (TOp.loadAgg_o rfl agg27 siz27 rfl rfl rfl rfl) <|
                         (TR.d (r := b false) (fs := []) rfl rfl (TOp.eqb (TOp.callB (CallAs.func ent22 rfl rfl) (Bors.cons (Bor.agg (bP (bP (bS bN)))) (Bors.cons (Bor.agg (bP (bP (bS bN)))) (Bors.cons (Bor.le (ALe.fl (by kernel_rfl) (by kernel_rfl)) (Bor.pure rfl)) bN))) rfl rfl (w_b10FarMatrix_ok r95 r96 r98 r37 r38 r39 (some 4576918229304087675) r107 hf78)) hc79) <|
                         (tl rfl (b true) (LOp.eqb (LOp.not rfl rfl) rfl) <|
                         (tl rfl (b true) yq <|
                         (tm rfl (b true) <|
                         (tm rfl (sl r99.length (r99.map i64)) <|
                         (tl rfl (i64 (r99.length : Int)) (LOp.len_sl und30 rfl rfl) <|
                         (tm rfl (i64 x3) <|
                         (tl rfl (b true) (LOp.eqb (LOp.eql rfl rfl rfl) hc80) <|
                         (tl rfl (b true) yq <|
                         (tm rfl (b true) <|
                         (tm rfl (sl r100.length (r100.map i64)) <|
                         (tl rfl (i64 (r100.length : Int)) (LOp.len_sl und30 rfl rfl) <|
                         (tm rfl (i64 x3) <|
                         (tl rfl (b true) (LOp.eqb (LOp.eql rfl rfl rfl) hc81) <|
                         (tl rfl (b true) yq <|
                         (tm rfl (b true) <|
                         (tm rfl (sl r105.length (r105.map i64)) <|
                         (tl rfl (i64 (r105.length : Int)) (LOp.len_sl und30 rfl rfl) <|
                         (tl rfl (b true) (LOp.eqb (LOp.eql rfl rfl rfl) hc82) <|
                         (tl rfl (b true) yq <|
                         (tm rfl (b true) <|
                         (tm rfl (sl r106.length (r106.map i64)) <|
                         (tl rfl (i64 (r106.length : Int)) (LOp.len_sl und30 rfl rfl) <|
                         (tl rfl (b true) (LOp.eqb (LOp.eql rfl rfl rfl) hc83) <|
                         (tl rfl (b true) yq <|
                         (tm rfl (b true) <|
                         (tm rfl (sl r105.length (r105.map i64)) <|
                         (tl rfl (ptr [i64 e108]) (LOp.le (LOp.ix (f := i64) und30 siz2 rfl rfl rfl rfl he84) ALe.ptr) <|
                         (tl rfl (i64 e108) (y2 agg2) <|
                         (tm rfl (sl r99.length (r99.map i64)) <|
                         (tl rfl (ptr [i64 e109]) (LOp.le (LOp.ix (f := i64) und30 siz2 rfl rfl rfl rfl he85) ALe.ptr) <|
                         (tl rfl (i64 e109) (y2 agg2) <|
                         (tl rfl (b true) (LOp.eqb (LOp.eql rfl rfl rfl) hc86) <|
                         (tl rfl (b true) yq <|
                         (tm rfl (b true) <|
                         (tm rfl (sl r106.length (r106.map i64)) <|
                         (tl rfl (ptr [i64 e110]) (LOp.le (LOp.ix (f := i64) und30 siz2 rfl rfl rfl rfl he87) ALe.ptr) <|
                         (tl rfl (i64 e110) (y2 agg2) <|
                         (tm rfl (sl r100.length (r100.map i64)) <|
                         (tl rfl (ptr [i64 e111]) (LOp.le (LOp.ix (f := i64) und30 siz2 rfl rfl rfl rfl he88) ALe.ptr) <|
                         (tl rfl (i64 e111) (y2 agg2) <|
                         (tl rfl (b true) (LOp.eqb (LOp.eql rfl rfl rfl) hc89) <|
                         (tl rfl (b true) yq <|
                         (tm rfl (b true) <|
                         (TR.d (r := agg (mXc r101 r102 r104)) (fs := []) rfl rfl (TOp.loadAgg_o rfl agg27 siz27 rfl rfl rfl rfl) <|
                         (TR.d (r := b true) (fs := []) rfl rfl (TOp.eqb (TOp.callB (CallAs.func ent21 rfl rfl) (Bors.cons (Bor.agg (bP (bP (bS bN)))) bN) rfl rfl (s_ValidMatrix_ok r101 r102 r104 r112 hf90)) hc91) <|
                         (tl rfl (b true) yq <|
                         (tm rfl (b true) <|
                         (tl rfl (optr 2 3 0) (LOp.fao und27 rfl siz2 rfl rfl rfl) <|
                         (TR.d (r := i64 r101) (fs := []) rfl rfl (TOp.load1_o rfl rfl agg2 rfl rfl) <|
                         (tm rfl (i64 x3) <|
                         (tl rfl (b (decide (r101 = x3))) (LOp.eql rfl rfl rfl) <|
                         (tl rfl (b (decide (r101 = x3))) yq <|
                         (tl rfl (b (decide (r101 = x3))) (LOp.assign rfl rfl) <|
                         TR.nil))))))))))))))))))))))))))))))))))))))))))))))))))))))))))))) rfl (by kernel_rfl) rfl fills_nil rfl ?_
                        iterate 61 refine ROps.dropS ?_
                        refine ROps.drop0<|zN ?_
                        exact .inr (⟨(Le.of ⟨aR, trivial⟩ ⟨⟨rfl, .inl rfl⟩, ⟨rfl, .inl rfl⟩, ⟨rfl, .inl rfl⟩, ⟨rfl, .inl rfl⟩, ⟨rfl, .inl rfl⟩, trivial⟩), h⟩)
                       ·refine RunC.region_draw (Γ' := [⟨(u20 + 1), some (mXc r37 r38 r39)⟩, ⟨(u21 + 3), some (mXc r95 r96 r98)⟩, ⟨3, some (mXc r101 r102 r104)⟩, ⟨1, none⟩, ⟨1, none⟩]) 61 mixed 
                         (tl rfl (b true) (yv hc76) <|
                         (tm rfl (b true) <|
                         (tl rfl (b true) (yv hc77) <|
                         (tl rfl (b true) yq <|
                         (tm rfl (b true) <|
                         (TR.d (r := agg (mXc r95 r96 r98)) (fs := []) rfl rfl (TOp.loadAgg_o rfl agg27 siz27 rfl rfl rfl rfl) <|
                         (TR.d (r := agg (mXc r37 r38 r39)) (fs := []) rfl rfl (TOp.loadAgg_o rfl agg27 siz27 rfl rfl rfl rfl) <|
                         (TR.d (r := b false) (fs := []) rfl rfl (TOp.eqb (TOp.callB (CallAs.func ent22 rfl rfl) (Bors.cons (Bor.agg (bP (bP (bS bN)))) (Bors.cons (Bor.agg (bP (bP (bS bN)))) (Bors.cons (Bor.le (ALe.fl (by kernel_rfl) (by kernel_rfl)) (Bor.pure rfl)) bN))) rfl rfl (w_b10FarMatrix_ok r95 r96 r98 r37 r38 r39 (some 4576918229304087675) r107 hf78)) hc79) <|
                         (tl rfl (b true) (LOp.eqb (LOp.not rfl rfl) rfl) <|
                         (tl rfl (b true) yq <|
                         (tm rfl (b true) <|
                         (tm rfl (sl r99.length (r99.map i64)) <|
                         (tl rfl (i64 (r99.length : Int)) (LOp.len_sl und30 rfl rfl) <|
                         (tm rfl (i64 x3) <|
                         (tl rfl (b true) (LOp.eqb (LOp.eql rfl rfl rfl) hc80) <|
                         (tl rfl (b true) yq <|
                         (tm rfl (b true) <|
                         (tm rfl (sl r100.length (r100.map i64)) <|
                         (tl rfl (i64 (r100.length : Int)) (LOp.len_sl und30 rfl rfl) <|
                         (tm rfl (i64 x3) <|
                         (tl rfl (b true) (LOp.eqb (LOp.eql rfl rfl rfl) hc81) <|
                         (tl rfl (b true) yq <|
                         (tm rfl (b true) <|
                         (tm rfl (sl r105.length (r105.map i64)) <|
                         (tl rfl (i64 (r105.length : Int)) (LOp.len_sl und30 rfl rfl) <|
                         (tl rfl (b true) (LOp.eqb (LOp.eql rfl rfl rfl) hc82) <|
                         (tl rfl (b true) yq <|
                         (tm rfl (b true) <|
                         (tm rfl (sl r106.length (r106.map i64)) <|
                         (tl rfl (i64 (r106.length : Int)) (LOp.len_sl und30 rfl rfl) <|
                         (tl rfl (b true) (LOp.eqb (LOp.eql rfl rfl rfl) hc83) <|
                         (tl rfl (b true) yq <|
                         (tm rfl (b true) <|
                         (tm rfl (sl r105.length (r105.map i64)) <|
                         (tl rfl (ptr [i64 e108]) (LOp.le (LOp.ix (f := i64) und30 siz2 rfl rfl rfl rfl he84) ALe.ptr) <|
                         (tl rfl (i64 e108) (y2 agg2) <|
                         (tm rfl (sl r99.length (r99.map i64)) <|
                         (tl rfl (ptr [i64 e109]) (LOp.le (LOp.ix (f := i64) und30 siz2 rfl rfl rfl rfl he85) ALe.ptr) <|
                         (tl rfl (i64 e109) (y2 agg2) <|
                         (tl rfl (b true) (LOp.eqb (LOp.eql rfl rfl rfl) hc86) <|
                         (tl rfl (b true) yq <|
                         (tm rfl (b true) <|
                         (tm rfl (sl r106.length (r106.map i64)) <|
                         (tl rfl (ptr [i64 e110]) (LOp.le (LOp.ix (f := i64) und30 siz2 rfl rfl rfl rfl he87) ALe.ptr) <|
                         (tl rfl (i64 e110) (y2 agg2) <|
                         (tm rfl (sl r100.length (r100.map i64)) <|
                         (tl rfl (ptr [i64 e111]) (LOp.le (LOp.ix (f := i64) und30 siz2 rfl rfl rfl rfl he88) ALe.ptr) <|
                         (tl rfl (i64 e111) (y2 agg2) <|
                         (tl rfl (b true) (LOp.eqb (LOp.eql rfl rfl rfl) hc89) <|
                         (tl rfl (b true) yq <|
                         (tm rfl (b true) <|
                         (TR.d (r := agg (mXc r101 r102 r104)) (fs := []) rfl rfl (TOp.loadAgg_o rfl agg27 siz27 rfl rfl rfl rfl) <|
                         (TR.d (r := b false) (fs := []) rfl rfl (TOp.eqb (TOp.callB (CallAs.func ent21 rfl rfl) (Bors.cons (Bor.agg (bP (bP (bS bN)))) bN) rfl rfl (s_ValidMatrix_ok r101 r102 r104 r112 hf90)) hc91) <|
                         (tl rfl (b false) yq <|
                         (tm rfl (b false) <|
                         (ts rfl <|
                         (ts rfl <|
                         (ts rfl <|
                         (ts rfl <|
                         (tl rfl (b false) yp <|
                         (tl rfl (b false) (LOp.assign rfl rfl) <|
                         TR.nil))))))))))))))))))))))))))))))))))))))))))))))))))))))))))))) rfl (by kernel_rfl) rfl fills_nil rfl ?_
                        iterate 61 refine ROps.dropS ?_
                        refine ROps.drop0<|zN ?_
                        exact .inl ⟨(Le.of ⟨aR, trivial⟩ ⟨⟨rfl, .inl rfl⟩, ⟨rfl, .inl rfl⟩, ⟨rfl, .inl rfl⟩, ⟨rfl, .inl rfl⟩, ⟨rfl, .inl rfl⟩, trivial⟩), h⟩
                      ·refine RunC.region_draw (Γ' := [⟨(u20 + 1), some (mXc r37 r38 r39)⟩, ⟨(u21 + 3), some (mXc r95 r96 r98)⟩, ⟨3, some (mXc r101 r102 r104)⟩, ⟨1, none⟩, ⟨1, none⟩]) 61 mixed 
                        (tl rfl (b true) (yv hc76) <|
                        (tm rfl (b true) <|
                        (tl rfl (b true) (yv hc77) <|
                        (tl rfl (b true) yq <|
                        (tm rfl (b true) <|
                        (TR.d (r := agg (mXc r95 r96 r98)) (fs := []) rfl rfl (TOp.loadAgg_o rfl agg27 siz27 rfl rfl rfl rfl) <|
                        (TR.d (r := agg (mXc r37 r38 r39)) (fs := []) rfl rfl (TOp.loadAgg_o rfl agg27 siz27 rfl rfl rfl rfl) <|
                        (TR.d (r := b false) (fs := []) rfl rfl (TOp.eqb (TOp.callB (CallAs.func ent22 rfl rfl) (Bors.cons (Bor.agg (bP (bP (bS bN)))) (Bors.cons (Bor.agg (bP (bP (bS bN)))) (Bors.cons (Bor.le (ALe.fl (by kernel_rfl) (by kernel_rfl)) (Bor.pure rfl)) bN))) rfl rfl (w_b10FarMatrix_ok r95 r96 r98 r37 r38 r39 (some 4576918229304087675) r107 hf78)) hc79) <|
                        (tl rfl (b true) (LOp.eqb (LOp.not rfl rfl) rfl) <|
                        (tl rfl (b true) yq <|
                        (tm rfl (b true) <|
                        (tm rfl (sl r99.length (r99.map i64)) <|
                        (tl rfl (i64 (r99.length : Int)) (LOp.len_sl und30 rfl rfl) <|
                        (tm rfl (i64 x3) <|
                        (tl rfl (b true) (LOp.eqb (LOp.eql rfl rfl rfl) hc80) <|
                        (tl rfl (b true) yq <|
                        (tm rfl (b true) <|
                        (tm rfl (sl r100.length (r100.map i64)) <|
                        (tl rfl (i64 (r100.length : Int)) (LOp.len_sl und30 rfl rfl) <|
                        (tm rfl (i64 x3) <|
                        (tl rfl (b true) (LOp.eqb (LOp.eql rfl rfl rfl) hc81) <|
                        (tl rfl (b true) yq <|
                        (tm rfl (b true) <|
                        (tm rfl (sl r105.length (r105.map i64)) <|
                        (tl rfl (i64 (r105.length : Int)) (LOp.len_sl und30 rfl rfl) <|
                        (tl rfl (b true) (LOp.eqb (LOp.eql rfl rfl rfl) hc82) <|
                        (tl rfl (b true) yq <|
                        (tm rfl (b true) <|
                        (tm rfl (sl r106.length (r106.map i64)) <|
                        (tl rfl (i64 (r106.length : Int)) (LOp.len_sl und30 rfl rfl) <|
                        (tl rfl (b true) (LOp.eqb (LOp.eql rfl rfl rfl) hc83) <|
                        (tl rfl (b true) yq <|
                        (tm rfl (b true) <|
                        (tm rfl (sl r105.length (r105.map i64)) <|
                        (tl rfl (ptr [i64 e108]) (LOp.le (LOp.ix (f := i64) und30 siz2 rfl rfl rfl rfl he84) ALe.ptr) <|
                        (tl rfl (i64 e108) (y2 agg2) <|
                        (tm rfl (sl r99.length (r99.map i64)) <|
                        (tl rfl (ptr [i64 e109]) (LOp.le (LOp.ix (f := i64) und30 siz2 rfl rfl rfl rfl he85) ALe.ptr) <|
                        (tl rfl (i64 e109) (y2 agg2) <|
                        (tl rfl (b true) (LOp.eqb (LOp.eql rfl rfl rfl) hc86) <|
                        (tl rfl (b true) yq <|
                        (tm rfl (b true) <|
                        (tm rfl (sl r106.length (r106.map i64)) <|
                        (tl rfl (ptr [i64 e110]) (LOp.le (LOp.ix (f := i64) und30 siz2 rfl rfl rfl rfl he87) ALe.ptr) <|
                        (tl rfl (i64 e110) (y2 agg2) <|
                        (tm rfl (sl r100.length (r100.map i64)) <|
                        (tl rfl (ptr [i64 e111]) (LOp.le (LOp.ix (f := i64) und30 siz2 rfl rfl rfl rfl he88) ALe.ptr) <|
                        (tl rfl (i64 e111) (y2 agg2) <|
                        (tl rfl (b false) (LOp.eqb (LOp.eql rfl rfl rfl) hc89) <|
                        (tl rfl (b false) yq <|
                        (tm rfl (b false) <|
                        (ts rfl <|
                        (ts rfl <|
                        (tl rfl (b false) yp <|
                        (tm rfl (b false) <|
                        (ts rfl <|
                        (ts rfl <|
                        (ts rfl <|
                        (ts rfl <|
                        (tl rfl (b false) yp <|
                        (tl rfl (b false) (LOp.assign rfl rfl) <|
                        TR.nil))))))))))))))))))))))))))))))))))))))))))))))))))))))))))))) rfl (by kernel_rfl) rfl fills_nil rfl ?_
                       iterate 61 refine ROps.dropS ?_
                       refine ROps.drop0<|zN ?_
                       exact .inl ⟨(Le.of ⟨aR, trivial⟩ ⟨⟨rfl, .inl rfl⟩, ⟨rfl, .inl rfl⟩, ⟨rfl, .inl rfl⟩, ⟨rfl, .inl rfl⟩, ⟨rfl, .inl rfl⟩, trivial⟩), h⟩
                     ·refine RunC.region_draw (Γ' := [⟨(u20 + 1), some (mXc r37 r38 r39)⟩, ⟨(u21 + 3), some (mXc r95 r96 r98)⟩, ⟨3, some (mXc r101 r102 r104)⟩, ⟨1, none⟩, ⟨1, none⟩]) 61 mixed 
                       (tl rfl (b true) (yv hc76) <|
                       (tm rfl (b true) <|
                       (tl rfl (b true) (yv hc77) <|
                       (tl rfl (b true) yq <|
                       (tm rfl (b true) <|
                       (TR.d (r := agg (mXc r95 r96 r98)) (fs := []) rfl rfl (TOp.loadAgg_o rfl agg27 siz27 rfl rfl rfl rfl) <|
                       (TR.d (r := agg (mXc r37 r38 r39)) (fs := []) rfl rfl (TOp.loadAgg_o rfl agg27 siz27 rfl rfl rfl rfl) <|
                       (TR.d (r := b false) (fs := []) rfl rfl (TOp.eqb (TOp.callB (CallAs.func ent22 rfl rfl) (Bors.cons (Bor.agg (bP (bP (bS bN)))) (Bors.cons (Bor.agg (bP (bP (bS bN)))) (Bors.cons (Bor.le (ALe.fl (by kernel_rfl) (by kernel_rfl)) (Bor.pure rfl)) bN))) rfl rfl (w_b10FarMatrix_ok r95 r96 r98 r37 r38 r39 (some 4576918229304087675) r107 hf78)) hc79) <|
                       (tl rfl (b true) (LOp.eqb (LOp.not rfl rfl) rfl) <|
                       (tl rfl (b true) yq <|
                       (tm rfl (b true) <|
                       (tm rfl (sl r99.length (r99.map i64)) <|
                       (tl rfl (i64 (r99.length : Int)) (LOp.len_sl und30 rfl rfl) <|
                       (tm rfl (i64 x3) <|
                       (tl rfl (b true) (LOp.eqb (LOp.eql rfl rfl rfl) hc80) <|
                       (tl rfl (b true) yq <|
                       (tm rfl (b true) <|
                       (tm rfl (sl r100.length (r100.map i64)) <|
                       (tl rfl (i64 (r100.length : Int)) (LOp.len_sl und30 rfl rfl) <|
                       (tm rfl (i64 x3) <|
                       (tl rfl (b true) (LOp.eqb (LOp.eql rfl rfl rfl) hc81) <|
                       (tl rfl (b true) yq <|
                       (tm rfl (b true) <|
                       (tm rfl (sl r105.length (r105.map i64)) <|
                       (tl rfl (i64 (r105.length : Int)) (LOp.len_sl und30 rfl rfl) <|
                       (tl rfl (b true) (LOp.eqb (LOp.eql rfl rfl rfl) hc82) <|
                       (tl rfl (b true) yq <|
                       (tm rfl (b true) <|
                       (tm rfl (sl r106.length (r106.map i64)) <|
                       (tl rfl (i64 (r106.length : Int)) (LOp.len_sl und30 rfl rfl) <|
                       (tl rfl (b true) (LOp.eqb (LOp.eql rfl rfl rfl) hc83) <|
                       (tl rfl (b true) yq <|
                       (tm rfl (b true) <|
                       (tm rfl (sl r105.length (r105.map i64)) <|
                       (tl rfl (ptr [i64 e108]) (LOp.le (LOp.ix (f := i64) und30 siz2 rfl rfl rfl rfl he84) ALe.ptr) <|
                       (tl rfl (i64 e108) (y2 agg2) <|
                       (tm rfl (sl r99.length (r99.map i64)) <|
                       (tl rfl (ptr [i64 e109]) (LOp.le (LOp.ix (f := i64) und30 siz2 rfl rfl rfl rfl he85) ALe.ptr) <|
                       (tl rfl (i64 e109) (y2 agg2) <|
                       (tl rfl (b false) (LOp.eqb (LOp.eql rfl rfl rfl) hc86) <|
                       (tl rfl (b false) yq <|
                       (tm rfl (b false) <|
                       (ts rfl <|
                       (ts rfl <|
                       (ts rfl <|
                       (ts rfl <|
                       (ts rfl <|
                       (ts rfl <|
                       (ts rfl <|
                       (tl rfl (b false) yp <|
                       (tm rfl (b false) <|
                       (ts rfl <|
                       (ts rfl <|
                       (tl rfl (b false) yp <|
                       (tm rfl (b false) <|
                       (ts rfl <|
                       (ts rfl <|
                       (ts rfl <|
                       (ts rfl <|
                       (tl rfl (b false) yp <|
                       (tl rfl (b false) (LOp.assign rfl rfl) <|
                       TR.nil))))))))))))))))))))))))))))))))))))))))))))))))))))))))))))) rfl (by kernel_rfl) rfl fills_nil rfl ?_
                      iterate 61 refine ROps.dropS ?_
                      refine ROps.drop0<|zN ?_
                      exact .inl ⟨(Le.of ⟨aR, trivial⟩ ⟨⟨rfl, .inl rfl⟩, ⟨rfl, .inl rfl⟩, ⟨rfl, .inl rfl⟩, ⟨rfl, .inl rfl⟩, ⟨rfl, .inl rfl⟩, trivial⟩), h⟩
                    ·refine RunC.region_draw (Γ' := [⟨(u20 + 1), some (mXc r37 r38 r39)⟩, ⟨(u21 + 3), some (mXc r95 r96 r98)⟩, ⟨3, some (mXc r101 r102 r104)⟩, ⟨1, none⟩, ⟨1, none⟩]) 61 mixed 
                      (tl rfl (b true) (yv hc76) <|
                      (tm rfl (b true) <|
                      (tl rfl (b true) (yv hc77) <|
                      (tl rfl (b true) yq <|
                      (tm rfl (b true) <|
                      (TR.d (r := agg (mXc r95 r96 r98)) (fs := []) rfl rfl (TOp.loadAgg_o rfl agg27 siz27 rfl rfl rfl rfl) <|
                      (TR.d (r := agg (mXc r37 r38 r39)) (fs := []) rfl rfl (TOp.loadAgg_o rfl agg27 siz27 rfl rfl rfl rfl) <|
                      (TR.d (r := b false) (fs := []) rfl rfl (TOp.eqb (TOp.callB (CallAs.func ent22 rfl rfl) (Bors.cons (Bor.agg (bP (bP (bS bN)))) (Bors.cons (Bor.agg (bP (bP (bS bN)))) (Bors.cons (Bor.le (ALe.fl (by kernel_rfl) (by kernel_rfl)) (Bor.pure rfl)) bN))) rfl rfl (w_b10FarMatrix_ok r95 r96 r98 r37 r38 r39 (some 4576918229304087675) r107 hf78)) hc79) <|
                      (tl rfl (b true) (LOp.eqb (LOp.not rfl rfl) rfl) <|
                      (tl rfl (b true) yq <|
                      (tm rfl (b true) <|
                      (tm rfl (sl r99.length (r99.map i64)) <|
                      (tl rfl (i64 (r99.length : Int)) (LOp.len_sl und30 rfl rfl) <|
                      (tm rfl (i64 x3) <|
                      (tl rfl (b true) (LOp.eqb (LOp.eql rfl rfl rfl) hc80) <|
                      (tl rfl (b true) yq <|
                      (tm rfl (b true) <|
                      (tm rfl (sl r100.length (r100.map i64)) <|
                      (tl rfl (i64 (r100.length : Int)) (LOp.len_sl und30 rfl rfl) <|
                      (tm rfl (i64 x3) <|
                      (tl rfl (b true) (LOp.eqb (LOp.eql rfl rfl rfl) hc81) <|
                      (tl rfl (b true) yq <|
                      (tm rfl (b true) <|
                      (tm rfl (sl r105.length (r105.map i64)) <|
                      (tl rfl (i64 (r105.length : Int)) (LOp.len_sl und30 rfl rfl) <|
                      (tl rfl (b true) (LOp.eqb (LOp.eql rfl rfl rfl) hc82) <|
                      (tl rfl (b true) yq <|
                      (tm rfl (b true) <|
                      (tm rfl (sl r106.length (r106.map i64)) <|
                      (tl rfl (i64 (r106.length : Int)) (LOp.len_sl und30 rfl rfl) <|
                      (tl rfl (b false) (LOp.eqb (LOp.eql rfl rfl rfl) hc83) <|
                      (tl rfl (b false) yq <|
                      (tm rfl (b false) <|
                      (ts rfl <|
                      (ts rfl <|
                      (ts rfl <|
                      (ts rfl <|
                      (ts rfl <|
                      (ts rfl <|
                      (ts rfl <|
                      (tl rfl (b false) yp <|
                      (tm rfl (b false) <|
                      (ts rfl <|
                      (ts rfl <|
                      (ts rfl <|
                      (ts rfl <|
                      (ts rfl <|
                      (ts rfl <|
                      (ts rfl <|
                      (tl rfl (b false) yp <|
                      (tm rfl (b false) <|
                      (ts rfl <|
                      (ts rfl <|
                      (tl rfl (b false) yp <|
                      (tm rfl (b false) <|
                      (ts rfl <|
                      (ts rfl <|
                      (ts rfl <|
                      (ts rfl <|
                      (tl rfl (b false) yp <|
                      (tl rfl (b false) (LOp.assign rfl rfl) <|
                      TR.nil))))))))))))))))))))))))))))))))))))))))))))))))))))))))))))) rfl (by kernel_rfl) rfl fills_nil rfl ?_
                     iterate 61 refine ROps.dropS ?_
                     refine ROps.drop0<|zN ?_
                     exact .inl ⟨(Le.of ⟨aR, trivial⟩ ⟨⟨rfl, .inl rfl⟩, ⟨rfl, .inl rfl⟩, ⟨rfl, .inl rfl⟩, ⟨rfl, .inl rfl⟩, ⟨rfl, .inl rfl⟩, trivial⟩), h⟩
                   ·refine RunC.region_draw (Γ' := [⟨(u20 + 1), some (mXc r37 r38 r39)⟩, ⟨(u21 + 3), some (mXc r95 r96 r98)⟩, ⟨3, some (mXc r101 r102 r104)⟩, ⟨1, none⟩, ⟨1, none⟩]) 61 mixed 
                     (tl rfl (b true) (yv hc76) <|
                     (tm rfl (b true) <|
                     (tl rfl (b true) (yv hc77) <|
                     (tl rfl (b true) yq <|
                     (tm rfl (b true) <|
                     (TR.d (r := agg (mXc r95 r96 r98)) (fs := []) rfl rfl (TOp.loadAgg_o rfl agg27 siz27 rfl rfl rfl rfl) <|
                     (TR.d (r := agg (mXc r37 r38 r39)) (fs := []) rfl rfl (TOp.loadAgg_o rfl agg27 siz27 rfl rfl rfl rfl) <|
                     (TR.d (r := b false) (fs := []) rfl rfl (TOp.eqb (TOp.callB (CallAs.func ent22 rfl rfl) (Bors.cons (Bor.agg (bP (bP (bS bN)))) (Bors.cons (Bor.agg (bP (bP (bS bN)))) (Bors.cons (Bor.le (ALe.fl (by kernel_rfl) (by kernel_rfl)) (Bor.pure rfl)) bN))) rfl rfl (w_b10FarMatrix_ok r95 r96 r98 r37 r38 r39 (some 4576918229304087675) r107 hf78)) hc79) <|
                     (tl rfl (b true) (LOp.eqb (LOp.not rfl rfl) rfl) <|
                     (tl rfl (b true) yq <|
                     (tm rfl (b true) <|
                     (tm rfl (sl r99.length (r99.map i64)) <|
                     (tl rfl (i64 (r99.length : Int)) (LOp.len_sl und30 rfl rfl) <|
                     (tm rfl (i64 x3) <|
                     (tl rfl (b true) (LOp.eqb (LOp.eql rfl rfl rfl) hc80) <|
                     (tl rfl (b true) yq <|
                     (tm rfl (b true) <|
                     (tm rfl (sl r100.length (r100.map i64)) <|
                     (tl rfl (i64 (r100.length : Int)) (LOp.len_sl und30 rfl rfl) <|
                     (tm rfl (i64 x3) <|
                     (tl rfl (b true) (LOp.eqb (LOp.eql rfl rfl rfl) hc81) <|
                     (tl rfl (b true) yq <|
                     (tm rfl (b true) <|
                     (tm rfl (sl r105.length (r105.map i64)) <|
                     (tl rfl (i64 (r105.length : Int)) (LOp.len_sl und30 rfl rfl) <|
                     (tl rfl (b false) (LOp.eqb (LOp.eql rfl rfl rfl) hc82) <|
                     (tl rfl (b false) yq <|
                     (tm rfl (b false) <|
                     (ts rfl <|
                     (ts rfl <|
                     (ts rfl <|
                     (tl rfl (b false) yp <|
                     (tm rfl (b false) <|
                     (ts rfl <|
                     (ts rfl <|
                     (ts rfl <|
                     (ts rfl <|
                     (ts rfl <|
                     (ts rfl <|
                     (ts rfl <|
                     (tl rfl (b false) yp <|
                     (tm rfl (b false) <|
                     (ts rfl <|
                     (ts rfl <|
                     (ts rfl <|
                     (ts rfl <|
                     (ts rfl <|
                     (ts rfl <|
                     (ts rfl <|
                     (tl rfl (b false) yp <|
                     (tm rfl (b false) <|
                     (ts rfl <|
                     (ts rfl <|
                     (tl rfl (b false) yp <|
                     (tm rfl (b false) <|
                     (ts rfl <|
                     (ts rfl <|
                     (ts rfl <|
                     (ts rfl <|
                     (tl rfl (b false) yp <|
                     (tl rfl (b false) (LOp.assign rfl rfl) <|
                     TR.nil))))))))))))))))))))))))))))))))))))))))))))))))))))))))))))) rfl (by kernel_rfl) rfl fills_nil rfl ?_
                    iterate 61 refine ROps.dropS ?_
                    refine ROps.drop0<|zN ?_
                    exact .inl ⟨(Le.of ⟨aR, trivial⟩ ⟨⟨rfl, .inl rfl⟩, ⟨rfl, .inl rfl⟩, ⟨rfl, .inl rfl⟩, ⟨rfl, .inl rfl⟩, ⟨rfl, .inl rfl⟩, trivial⟩), h⟩
                  ·refine RunC.region_draw (Γ' := [⟨(u20 + 1), some (mXc r37 r38 r39)⟩, ⟨(u21 + 3), some (mXc r95 r96 r98)⟩, ⟨3, some (mXc r101 r102 r104)⟩, ⟨1, none⟩, ⟨1, none⟩]) 61 mixed 
                    (tl rfl (b true) (yv hc76) <|
                    (tm rfl (b true) <|
                    (tl rfl (b true) (yv hc77) <|
                    (tl rfl (b true) yq <|
                    (tm rfl (b true) <|
                    (TR.d (r := agg (mXc r95 r96 r98)) (fs := []) rfl rfl (TOp.loadAgg_o rfl agg27 siz27 rfl rfl rfl rfl) <|
                    (TR.d (r := agg (mXc r37 r38 r39)) (fs := []) rfl rfl (TOp.loadAgg_o rfl agg27 siz27 rfl rfl rfl rfl) <|
                    (TR.d (r := b false) (fs := []) rfl rfl (TOp.eqb (TOp.callB (CallAs.func ent22 rfl rfl) (Bors.cons (Bor.agg (bP (bP (bS bN)))) (Bors.cons (Bor.agg (bP (bP (bS bN)))) (Bors.cons (Bor.le (ALe.fl (by kernel_rfl) (by kernel_rfl)) (Bor.pure rfl)) bN))) rfl rfl (w_b10FarMatrix_ok r95 r96 r98 r37 r38 r39 (some 4576918229304087675) r107 hf78)) hc79) <|
                    (tl rfl (b true) (LOp.eqb (LOp.not rfl rfl) rfl) <|
                    (tl rfl (b true) yq <|
                    (tm rfl (b true) <|
                    (tm rfl (sl r99.length (r99.map i64)) <|
                    (tl rfl (i64 (r99.length : Int)) (LOp.len_sl und30 rfl rfl) <|
                    (tm rfl (i64 x3) <|
                    (tl rfl (b true) (LOp.eqb (LOp.eql rfl rfl rfl) hc80) <|
                    (tl rfl (b true) yq <|
                    (tm rfl (b true) <|
                    (tm rfl (sl r100.length (r100.map i64)) <|
                    (tl rfl (i64 (r100.length : Int)) (LOp.len_sl und30 rfl rfl) <|
                    (tm rfl (i64 x3) <|
                    (tl rfl (b false) (LOp.eqb (LOp.eql rfl rfl rfl) hc81) <|
                    (tl rfl (b false) yq <|
                    (tm rfl (b false) <|
                    (ts rfl <|
                    (ts rfl <|
                    (ts rfl <|
                    (tl rfl (b false) yp <|
                    (tm rfl (b false) <|
                    (ts rfl <|
                    (ts rfl <|
                    (ts rfl <|
                    (tl rfl (b false) yp <|
                    (tm rfl (b false) <|
                    (ts rfl <|
                    (ts rfl <|
                    (ts rfl <|
                    (ts rfl <|
                    (ts rfl <|
                    (ts rfl <|
                    (ts rfl <|
                    (tl rfl (b false) yp <|
                    (tm rfl (b false) <|
                    (ts rfl <|
                    (ts rfl <|
                    (ts rfl <|
                    (ts rfl <|
                    (ts rfl <|
                    (ts rfl <|
                    (ts rfl <|
                    (tl rfl (b false) yp <|
                    (tm rfl (b false) <|
                    (ts rfl <|
                    (ts rfl <|
                    (tl rfl (b false) yp <|
                    (tm rfl (b false) <|
                    (ts rfl <|
                    (ts rfl <|
                    (ts rfl <|
                    (ts rfl <|
                    (tl rfl (b false) yp <|
                    (tl rfl (b false) (LOp.assign rfl rfl) <|
                    TR.nil))))))))))))))))))))))))))))))))))))))))))))))))))))))))))))) rfl (by kernel_rfl) rfl fills_nil rfl ?_
                   iterate 61 refine ROps.dropS ?_
                   refine ROps.drop0<|zN ?_
                   exact .inl ⟨(Le.of ⟨aR, trivial⟩ ⟨⟨rfl, .inl rfl⟩, ⟨rfl, .inl rfl⟩, ⟨rfl, .inl rfl⟩, ⟨rfl, .inl rfl⟩, ⟨rfl, .inl rfl⟩, trivial⟩), h⟩
                 ·refine RunC.region_draw (Γ' := [⟨(u20 + 1), some (mXc r37 r38 r39)⟩, ⟨(u21 + 3), some (mXc r95 r96 r98)⟩, ⟨3, some (mXc r101 r102 r104)⟩, ⟨1, none⟩, ⟨1, none⟩]) 61 mixed 
                   (tl rfl (b true) (yv hc76) <|
                   (tm rfl (b true) <|
                   (tl rfl (b true) (yv hc77) <|
                   (tl rfl (b true) yq <|
                   (tm rfl (b true) <|
                   (TR.d (r := agg (mXc r95 r96 r98)) (fs := []) rfl rfl (TOp.loadAgg_o rfl agg27 siz27 rfl rfl rfl rfl) <|
                   (TR.d (r := agg (mXc r37 r38 r39)) (fs := []) rfl rfl (TOp.loadAgg_o rfl agg27 siz27 rfl rfl rfl rfl) <|
                   (TR.d (r := b false) (fs := []) rfl rfl (TOp.eqb (TOp.callB (CallAs.func ent22 rfl rfl) (Bors.cons (Bor.agg (bP (bP (bS bN)))) (Bors.cons (Bor.agg (bP (bP (bS bN)))) (Bors.cons (Bor.le (ALe.fl (by kernel_rfl) (by kernel_rfl)) (Bor.pure rfl)) bN))) rfl rfl (w_b10FarMatrix_ok r95 r96 r98 r37 r38 r39 (some 4576918229304087675) r107 hf78)) hc79) <|
                   (tl rfl (b true) (LOp.eqb (LOp.not rfl rfl) rfl) <|
                   (tl rfl (b true) yq <|
                   (tm rfl (b true) <|
                   (tm rfl (sl r99.length (r99.map i64)) <|
                   (tl rfl (i64 (r99.length : Int)) (LOp.len_sl und30 rfl rfl) <|
                   (tm rfl (i64 x3) <|
                   (tl rfl (b false) (LOp.eqb (LOp.eql rfl rfl rfl) hc80) <|
                   (tl rfl (b false) yq <|
                   (tm rfl (b false) <|
                   (ts rfl <|
                   (ts rfl <|
                   (ts rfl <|
                   (ts rfl <|
                   (tl rfl (b false) yp <|
                   (tm rfl (b false) <|
                   (ts rfl <|
                   (ts rfl <|
                   (ts rfl <|
                   (tl rfl (b false) yp <|
                   (tm rfl (b false) <|
                   (ts rfl <|
                   (ts rfl <|
                   (ts rfl <|
                   (tl rfl (b false) yp <|
                   (tm rfl (b false) <|
                   (ts rfl <|
                   (ts rfl <|
                   (ts rfl <|
                   (ts rfl <|
                   (ts rfl <|
                   (ts rfl <|
                   (ts rfl <|
                   (tl rfl (b false) yp <|
                   (tm rfl (b false) <|
                   (ts rfl <|
                   (ts rfl <|
                   (ts rfl <|
                   (ts rfl <|
                   (ts rfl <|
                   (ts rfl <|
                   (ts rfl <|
                   (tl rfl (b false) yp <|
                   (tm rfl (b false) <|
                   (ts rfl <|
                   (ts rfl <|
                   (tl rfl (b false) yp <|
                   (tm rfl (b false) <|
                   (ts rfl <|
                   (ts rfl <|
                   (ts rfl <|
                   (ts rfl <|
                   (tl rfl (b false) yp <|
                   (tl rfl (b false) (LOp.assign rfl rfl) <|
                   TR.nil))))))))))))))))))))))))))))))))))))))))))))))))))))))))))))) rfl (by kernel_rfl) rfl fills_nil rfl ?_
                  iterate 61 refine ROps.dropS ?_
                  refine ROps.drop0<|zN ?_
                  exact .inl ⟨(Le.of ⟨aR, trivial⟩ ⟨⟨rfl, .inl rfl⟩, ⟨rfl, .inl rfl⟩, ⟨rfl, .inl rfl⟩, ⟨rfl, .inl rfl⟩, ⟨rfl, .inl rfl⟩, trivial⟩), h⟩
               ·refine RunC.region_draw (Γ' := [⟨(u20 + 1), some (mXc r37 r38 r39)⟩, ⟨(u21 + 3), some (mXc r95 r96 r98)⟩, ⟨3, some (mXc r101 r102 r104)⟩, ⟨1, none⟩, ⟨1, none⟩]) 61 mixed 
                 (tl rfl (b true) (yv hc76) <|
                 (tm rfl (b true) <|
                 (tl rfl (b false) (yv hc77) <|
                 (tl rfl (b false) yq <|
                 (tm rfl (b false) <|
                 (ts rfl <|
                 (ts rfl <|
                 (ts rfl <|
                 (ts rfl <|
                 (tl rfl (b false) yp <|
                 (tm rfl (b false) <|
                 (ts rfl <|
                 (ts rfl <|
                 (ts rfl <|
                 (ts rfl <|
                 (tl rfl (b false) yp <|
                 (tm rfl (b false) <|
                 (ts rfl <|
                 (ts rfl <|
                 (ts rfl <|
                 (ts rfl <|
                 (tl rfl (b false) yp <|
                 (tm rfl (b false) <|
                 (ts rfl <|
                 (ts rfl <|
                 (ts rfl <|
                 (tl rfl (b false) yp <|
                 (tm rfl (b false) <|
                 (ts rfl <|
                 (ts rfl <|
                 (ts rfl <|
                 (tl rfl (b false) yp <|
                 (tm rfl (b false) <|
                 (ts rfl <|
                 (ts rfl <|
                 (ts rfl <|
                 (ts rfl <|
                 (ts rfl <|
                 (ts rfl <|
                 (ts rfl <|
                 (tl rfl (b false) yp <|
                 (tm rfl (b false) <|
                 (ts rfl <|
                 (ts rfl <|
                 (ts rfl <|
                 (ts rfl <|
                 (ts rfl <|
                 (ts rfl <|
                 (ts rfl <|
                 (tl rfl (b false) yp <|
                 (tm rfl (b false) <|
                 (ts rfl <|
                 (ts rfl <|
                 (tl rfl (b false) yp <|
                 (tm rfl (b false) <|
                 (ts rfl <|
                 (ts rfl <|
                 (ts rfl <|
                 (ts rfl <|
                 (tl rfl (b false) yp <|
                 (tl rfl (b false) (LOp.assign rfl rfl) <|
                 TR.nil))))))))))))))))))))))))))))))))))))))))))))))))))))))))))))) rfl (by kernel_rfl) rfl fills_nil rfl ?_
                iterate 61 refine ROps.dropS ?_
                refine ROps.drop0<|zN ?_
                exact .inl ⟨(Le.of ⟨aR, trivial⟩ ⟨⟨rfl, .inl rfl⟩, ⟨rfl, .inl rfl⟩, ⟨rfl, .inl rfl⟩, ⟨rfl, .inl rfl⟩, ⟨rfl, .inl rfl⟩, trivial⟩), h⟩
              ·refine RunC.region_draw (Γ' := [⟨(u20 + 1), some (mXc r37 r38 r39)⟩, ⟨(u21 + 3), some (mXc r95 r96 r98)⟩, ⟨3, some (mXc r101 r102 r104)⟩, ⟨1, none⟩, ⟨1, none⟩]) 61 mixed 
                (tl rfl (b false) (yv hc76) <|
                (tm rfl (b false) <|
                (ts rfl <|
                (tl rfl (b false) yp <|
                (tm rfl (b false) <|
                (ts rfl <|
                (ts rfl <|
                (ts rfl <|
                (ts rfl <|
                (tl rfl (b false) yp <|
                (tm rfl (b false) <|
                (ts rfl <|
                (ts rfl <|
                (ts rfl <|
                (ts rfl <|
                (tl rfl (b false) yp <|
                (tm rfl (b false) <|
                (ts rfl <|
                (ts rfl <|
                (ts rfl <|
                (ts rfl <|
                (tl rfl (b false) yp <|
                (tm rfl (b false) <|
                (ts rfl <|
                (ts rfl <|
                (ts rfl <|
                (tl rfl (b false) yp <|
                (tm rfl (b false) <|
                (ts rfl <|
                (ts rfl <|
                (ts rfl <|
                (tl rfl (b false) yp <|
                (tm rfl (b false) <|
                (ts rfl <|
                (ts rfl <|
                (ts rfl <|
                (ts rfl <|
                (ts rfl <|
                (ts rfl <|
                (ts rfl <|
                (tl rfl (b false) yp <|
                (tm rfl (b false) <|
                (ts rfl <|
                (ts rfl <|
                (ts rfl <|
                (ts rfl <|
                (ts rfl <|
                (ts rfl <|
                (ts rfl <|
                (tl rfl (b false) yp <|
                (tm rfl (b false) <|
                (ts rfl <|
                (ts rfl <|
                (tl rfl (b false) yp <|
                (tm rfl (b false) <|
                (ts rfl <|
                (ts rfl <|
                (ts rfl <|
                (ts rfl <|
                (tl rfl (b false) yp <|
                (tl rfl (b false) (LOp.assign rfl rfl) <|
                TR.nil))))))))))))))))))))))))))))))))))))))))))))))))))))))))))))) rfl (by kernel_rfl) rfl fills_nil rfl ?_
               iterate 61 refine ROps.dropS ?_
               refine ROps.drop0<|zN ?_
               exact .inl ⟨(Le.of ⟨aR, trivial⟩ ⟨⟨rfl, .inl rfl⟩, ⟨rfl, .inl rfl⟩, ⟨rfl, .inl rfl⟩, ⟨rfl, .inl rfl⟩, ⟨rfl, .inl rfl⟩, trivial⟩), h⟩
             ·rintro τ38 Γ38 (⟨hw38, h⟩ | ⟨hw38, h⟩)
              ·refine RunC.le (τ' := [(4, b false)]) (Γ' := [⟨(u20 + 1), none⟩, ⟨(u21 + 3), none⟩, ⟨3, none⟩, ⟨1, none⟩, ⟨1, none⟩]) hw38 ?_
               unfold w_FnNodes_k19 at h
               refine RunC.ret ?_
               have hq := oI h
               subst q0
               exact bodyQ.pure (.inr rfl) rfl (Res.one rfl (RV.tmp rfl))
              ·refine RunC.le (τ' := [(4, b (decide (r101 = x3)))]) (Γ' := [⟨(u20 + 1), none⟩, ⟨(u21 + 3), none⟩, ⟨3, none⟩, ⟨1, none⟩, ⟨1, none⟩]) hw38 ?_
               unfold w_FnNodes_k21 at h
               refine RunC.ret ?_
               have hq := oI h
               subst q0
               exact bodyQ.pure (.inr rfl) rfl (Res.one rfl (RV.tmp rfl))
end
end Go.Proofs.YtkdociaoknmgbaaGreat
