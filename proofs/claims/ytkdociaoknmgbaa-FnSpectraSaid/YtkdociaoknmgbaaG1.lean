/- Generated. -/
import Derived.Test.YtkdociaoknmgbaaG0
namespace Go.Proofs.Ytkdociaoknmgbaa
open Go Go.AM Go.AM.AV
set_option maxRecDepth 20000
set_option maxHeartbeats 4000000
set_option linter.unusedVariables false
set_option linter.unusedSimpArgs false
noncomputable section
def w_FnSpectra_k2 (L8 : List (F × F)) (L9 : List (F × F)) (L10 : List F) (v11 : Int) (x15 : F) (x20 : F) (y26 : F) : Option (LR ((List (F × F)) × (List (F × F)) × (List F) × Int) ((List (F × F)) × (List (F × F)) × (List F)) (Bool)) :=
 need (apok 8 L9.length 1) <|
 need (apok 4 L10.length 1) <|
 olet (IntKind.i64.wrap (v11 + 1)) fun (x28 : Int) =>
 some (LR.next ((L8 ++ ([(x15, x20)] : List (F × F))), (L9 ++ ([(y26, (some 0))] : List (F × F))), (L10 ++ ([y26] : List F)), x28))
def w_FnSpectra_b3 (a0 : List Int) (a1 : List Int) (x3 : Int) (L8 : List (F × F)) (L9 : List (F × F)) (L10 : List F) (v11 : Int) : Option (LR ((List (F × F)) × (List (F × F)) × (List F) × Int) ((List (F × F)) × (List (F × F)) × (List F)) (Bool)) :=
 bsel (decide (v11 < x3)) (
  obind (w_b10At a0 v11 17) fun (r12 : Int) =>
  olet (IntKind.i64.wrap (r12 - 8)) fun (x13 : Int) =>
  olet (fint .f32 x13) fun (x14 : F) =>
  olet (fop .quo .f32 x14 (some 1082130432)) fun (x15 : F) =>
  olet (IntKind.i64.wrap (v11 + 1)) fun (x16 : Int) =>
  obind (w_b10At a1 x16 17) fun (r17 : Int) =>
  olet (IntKind.i64.wrap (r17 - 8)) fun (x18 : Int) =>
  olet (fint .f32 x18) fun (x19 : F) =>
  olet (fop .quo .f32 x19 (some 1082130432)) fun (x20 : F) =>
  need (apok 8 L8.length 1) <|
  olet (IntKind.i64.wrap (v11 + 2)) fun (x21 : Int) =>
  obind (w_b10At a1 x21 9) fun (r22 : Int) =>
  olet (IntKind.i64.wrap (r22 - 4)) fun (x23 : Int) =>
  olet (fint .f32 x23) fun (x24 : F) =>
  olet (fop .quo .f32 x24 (some 1098907648)) fun (x25 : F) =>
  bsel (decide (v11 = 0)) (
   w_FnSpectra_k2 L8 L9 L10 v11 x15 x20 (some 1086324736)) (
   w_FnSpectra_k2 L8 L9 L10 v11 x15 x20 x25)) (
  some (LR.out (L8, L9, L10)))
def w_FnSpectra_s3 (a0 : List Int) (a1 : List Int) (x3 : Int) : ((List (F × F)) × (List (F × F)) × (List F) × Int) → Option (LR ((List (F × F)) × (List (F × F)) × (List F) × Int) ((List (F × F)) × (List (F × F)) × (List F)) (Bool)) := fun s => w_FnSpectra_b3 a0 a1 x3 s.1 s.2.1 s.2.2.1 s.2.2.2
def w_FnSpectra_k5  : Option (Bool) :=
 some false
def w_FnSpectra_b8 (L33 : List (F × F)) (r41 : List (F × F)) (L53 : List F) (L54 : List F) (y55 : F) (y56 : F) (v57 : Int) : Option (LR ((List F) × (List F) × F × F × Int) ((List F) × (List F) × F × F) (Bool)) :=
 bsel (decide (v57 < ((L33.length : Nat) : Int))) (
  obind (at? L33 v57) fun (e58 : (F × F)) =>
  need (apok 4 L53.length 1) <|
  obind (at? r41 v57) fun (e59 : (F × F)) =>
  need (apok 4 L54.length 1) <|
  obind (at? L33 v57) fun (e60 : (F × F)) =>
  olet (IntKind.i64.wrap (v57 + 1)) fun (x61 : Int) =>
  some (LR.next ((L53 ++ ([e58.1] : List F)), (L54 ++ ([e59.1] : List F)), (fop .add .f32 y55 e60.1), (fop .add .f32 y56 e60.2), x61))) (
  some (LR.out (L53, L54, y55, y56)))
def w_FnSpectra_s8 (L33 : List (F × F)) (r41 : List (F × F)) : ((List F) × (List F) × F × F × Int) → Option (LR ((List F) × (List F) × F × F × Int) ((List F) × (List F) × F × F) (Bool)) := fun s => w_FnSpectra_b8 L33 r41 s.1 s.2.1 s.2.2.1 s.2.2.2.1 s.2.2.2.2
def w_FnSpectra_k10  : Option (Bool) :=
 some false
def w_FnSpectra_k12 (w75 : Bool) : Option (Bool) :=
 some w75
def w_FnSpectra_k8 (r37 : List (F × F)) (r44 : Int) (r45 : Int) (r47 : List F) (L65 : List F) (L66 : List F) (y67 : F) (y68 : F) : Option (Bool) :=
 obind2 (s_TimesVector r44 r45 r47 L65) fun (r69 : Bool) (r70 : List F) =>
 bsel r69 (
  obind (w_b10Far r70 L66 (some 4562254508917369340)) fun (r71 : Bool) =>
  bsel r71 (
   w_FnSpectra_k10) (
   obind (at? r37 0) fun (e72 : (F × F)) =>
   obind (s_LongOf (fop .sub .f32 y67 e72.1) (fop .sub .f32 y68 e72.2)) fun (r73 : F) =>
   olet (fwiden r73) fun (x74 : F) =>
   w_FnSpectra_k12 (flt .f64 x74 (some 4562254508917369340)))) (
  w_FnSpectra_k10)
def w_FnSpectra_k7 (L33 : List (F × F)) (r37 : List (F × F)) (r41 : List (F × F)) (r44 : Int) (r45 : Int) (r47 : List F) : Option (Bool) :=
 obind (loopM (w_FnSpectra_s8 L33 r41) (([] : List F), ([] : List F), some 0, some 0, 0)) fun z => osum z (fun e => w_FnSpectra_k8 r37 r44 r45 r47 e.1 e.2.1 e.2.2.1 e.2.2.2) (fun r => some r)
def w_FnSpectra_k3 (x3 : Int) (L33 : List (F × F)) (L34 : List (F × F)) (L35 : List F) : Option (Bool) :=
 obind2 (i_SpectrumOf L33) fun (r36 : Bool) (r37 : List (F × F)) =>
 obind2 (i_FromSpectrum r37) fun (r38 : Bool) (r39 : List (F × F)) =>
 obind2 (i_RingTimes L34 L33) fun (r40 : Bool) (r41 : List (F × F)) =>
 obind2 (i_RingSolve L34 r41) fun (r42 : Bool) (r43 : List (F × F)) =>
 obind4 (i_RingMatrix L35) fun (r44 : Int) (r45 : Int) (r46 : Bool) (r47 : List F) =>
 bsel r36 (
  bsel r38 (
   bsel r40 (
    bsel r42 (
     bsel r46 (
      bsel (!decide (((r37.length : Nat) : Int) = x3)) (
       w_FnSpectra_k5) (
       obind (w_b10FarRing r39 L33) fun (r48 : Bool) =>
       bsel r48 (
        w_FnSpectra_k5) (
        obind (w_b10FarRing r43 L33) fun (r49 : Bool) =>
        bsel r49 (
         w_FnSpectra_k5) (
         bsel (!decide (((r41.length : Nat) : Int) = x3)) (
          w_FnSpectra_k5) (
          w_FnSpectra_k7 L33 r37 r41 r44 r45 r47))))) (
      w_FnSpectra_k5)) (
     w_FnSpectra_k5)) (
    w_FnSpectra_k5)) (
   w_FnSpectra_k5)) (
  w_FnSpectra_k5)
def w_FnSpectra (a0 : List Int) (a1 : List Int) : Option (Bool) :=
 obind (w_b10Long a0 a1) fun (r1 : Bool) =>
 bsel r1 (
  some true) (
  obind (w_b10At a1 0 9) fun (r2 : Int) =>
  olet (IntKind.i64.wrap (1 + r2)) fun (x3 : Int) =>
  obind (loopM (w_FnSpectra_s3 a0 a1 x3) (([] : List (F × F)), ([] : List (F × F)), ([] : List F), 0)) fun z => osum z (fun e => w_FnSpectra_k3 x3 e.1 e.2.1 e.2.2) (fun r => some r))
theorem w_FnSpectra_ok (a0 : List Int) (a1 : List Int) (q0 : Bool) (h : w_FnSpectra a0 a1 = some q0) : Ev Try.prog 3 [sl a0.length (a0.map (ik .u8)), sl a1.length (a1.map (ik .u8))] [] (b q0) [] := by
 refine yE Try.func3 8 393 0 [(0, sl a0.length (a0.map (ik .u8))), (1, sl a1.length (a1.map (ik .u8)))] [⟨0, none⟩, ⟨0, none⟩, ⟨0, none⟩, ⟨0, none⟩, ⟨0, none⟩, ⟨0, none⟩, ⟨0, none⟩, ⟨0, none⟩] rfl ?_
 unfold w_FnSpectra at h
 refine zQ<|ya rfl (b false)<|zN ?_
 refine yS<|yS ?_
 obtain ⟨r1, hf1, h⟩ := oS h
 rcases oB h with ⟨hc2, h⟩ | ⟨hc2, h⟩
 ·refine yW<|ym rfl (sl a0.length (a0.map (ik .u8)))<|ym rfl (sl a1.length (a1.map (ik .u8)))<|yd rfl (b true) (TOp.eqb (yc ent7 rfl rfl (bS (bS bN)) (w_b10Long_ok a0 a1 r1 hf1)) hc2)<|zN ?_
  refine yT<|zQ<|ya rfl (b true)<|zN ?_
  refine RunC.ret ?_
  have hq := oI h
  subst q0
  exact bodyQ.pure (.inr rfl) rfl (Res.one rfl (RV.tmp rfl))
 ·refine yW<|ym rfl (sl a0.length (a0.map (ik .u8)))<|ym rfl (sl a1.length (a1.map (ik .u8)))<|yd rfl (b false) (TOp.eqb (yc ent7 rfl rfl (bS (bS bN)) (w_b10Long_ok a0 a1 r1 hf1)) hc2)<|zN ?_
  refine yF<|RunC.skip<|yS ?_
  obtain ⟨r2, hf3, h⟩ := oS h
  obtain ⟨x3, hx4, h⟩ := oL h
  refine yW<|ym rfl (sl a1.length (a1.map (ik .u8)))<|yd rfl (i64 r2) (yc ent8 rfl rfl (bS (bP bN0)) (w_b10At_ok a1 0 9 r2 hf3))<|yl rfl (i64 x3) (LOp.eqr (LOp.add rfl rfl rfl) (congrArg (ik .i64) hx4))<|ya rfl (i64 x3)<|zN ?_
  refine zQ<|ye rfl (oref 0 1 0 0) ([⟨1, some (([] : List (F × F)).map (cp .f32))⟩, ⟨0, none⟩, ⟨0, none⟩, ⟨0, none⟩, ⟨0, none⟩, ⟨0, none⟩, ⟨0, none⟩, ⟨0, none⟩]) (TOp.buildSlice_o (g := ⟨0, none⟩) (za := cx .f32 (some 0) (some 0)) (qs := []) 0 rfl und25 siz27 zer27 rfl zel27 rfl rfl trivial rfl)<|ya rfl (oref 0 1 0 0)<|zN ?_
  refine zQ<|ye rfl (oref 1 1 0 0) ([⟨1, some (([] : List (F × F)).map (cp .f32))⟩, ⟨1, some (([] : List (F × F)).map (cp .f32))⟩, ⟨0, none⟩, ⟨0, none⟩, ⟨0, none⟩, ⟨0, none⟩, ⟨0, none⟩, ⟨0, none⟩]) (TOp.buildSlice_o (g := ⟨0, none⟩) (za := cx .f32 (some 0) (some 0)) (qs := []) 1 rfl und25 siz27 zer27 rfl zel27 rfl rfl trivial rfl)<|ya rfl (oref 1 1 0 0)<|zN ?_
  refine zQ<|ye rfl (oref 2 1 0 0) ([⟨1, some (([] : List (F × F)).map (cp .f32))⟩, ⟨1, some (([] : List (F × F)).map (cp .f32))⟩, ⟨1, some (([] : List F).map f32)⟩, ⟨0, none⟩, ⟨0, none⟩, ⟨0, none⟩, ⟨0, none⟩, ⟨0, none⟩]) (TOp.buildSlice_o (g := ⟨0, none⟩) (za := f32 (some 0)) (qs := []) 2 rfl und26 siz28 zer28 rfl zel28 rfl rfl trivial rfl)<|ya rfl (oref 2 1 0 0)<|zN ?_
  refine yS<|zQ<|ya rfl (i64 0)<|zN ?_
  obtain ⟨z13, hz_13, h⟩ := oS h
  refine RunC.cutN (fun τ Γ => ∃ (L33 : List (F × F)) (L34 : List (F × F)) (L35 : List F) (u29 : Nat) (u30 : Nat) (u31 : Nat) (u32 : Nat), Le 393 τ Γ [(5, i64 x3), (6, oref 0 u29 0 L33.length), (7, oref 1 u30 0 L34.length), (8, oref 2 u31 0 L35.length)] [⟨u29, some (L33.map (cp .f32))⟩, ⟨u30, some (L34.map (cp .f32))⟩, ⟨u31, some (L35.map f32)⟩, ⟨u32, none⟩, ⟨0, none⟩, ⟨0, none⟩, ⟨0, none⟩, ⟨0, none⟩] ∧ z13 = .inl (L33, L34, L35)) ?_ ?_
  ·refine RunC.block (RunC.loop (RunL.loopM (x := z13) (w_FnSpectra_s3 a0 a1 x3) (fun (s : (List (F × F)) × (List (F × F)) × (List F) × Int) τ Γ => ∃ (u4 : Nat) (u5 : Nat) (u6 : Nat) (u7 : Nat), Le 393 τ Γ [(0, sl a0.length (a0.map (ik .u8))), (1, sl a1.length (a1.map (ik .u8))), (5, i64 x3), (6, oref 0 u4 0 s.1.length), (7, oref 1 u5 0 s.2.1.length), (8, oref 2 u6 0 s.2.2.1.length), (9, i64 s.2.2.2)] [⟨u4, some (s.1.map (cp .f32))⟩, ⟨u5, some (s.2.1.map (cp .f32))⟩, ⟨u6, some (s.2.2.1.map f32)⟩, ⟨u7, none⟩, ⟨0, none⟩, ⟨0, none⟩, ⟨0, none⟩, ⟨0, none⟩]) ?_ _ _ _ hz_13 ⟨1, 1, 1, 0, (Le.of ⟨aR, aR, aR, aR, aR, aR, aR, trivial⟩ ⟨⟨rfl, .inr rfl⟩, ⟨rfl, .inr rfl⟩, ⟨rfl, .inr rfl⟩, ⟨rfl, .inl rfl⟩, ⟨rfl, .inr rfl⟩, ⟨rfl, .inr rfl⟩, ⟨rfl, .inr rfl⟩, ⟨rfl, .inr rfl⟩, trivial⟩)⟩))
   rintro ⟨L8, L9, L10, v11⟩ τ13 Γ13 y13_ ⟨u4, u5, u6, u7, hw13⟩ h13_ ho13 hr13
   refine RunC.le (τ' := [(0, sl a0.length (a0.map (ik .u8))), (1, sl a1.length (a1.map (ik .u8))), (5, i64 x3), (6, oref 0 u4 0 L8.length), (7, oref 1 u5 0 L9.length), (8, oref 2 u6 0 L10.length), (9, i64 v11)]) (Γ' := [⟨u4, some (L8.map (cp .f32))⟩, ⟨u5, some (L9.map (cp .f32))⟩, ⟨u6, some (L10.map f32)⟩, ⟨u7, none⟩, ⟨0, none⟩, ⟨0, none⟩, ⟨0, none⟩, ⟨0, none⟩]) hw13 ?_
   replace h13_ : w_FnSpectra_b3 a0 a1 x3 L8 L9 L10 v11 = some y13_ := h13_
   unfold w_FnSpectra_b3 at h13_
   refine yS<|yS ?_
   rcases oB h13_ with ⟨hc5, h13_⟩ | ⟨hc5, h13_⟩
   ·refine yW<|ym rfl (i64 v11)<|ym rfl (i64 x3)<|yl rfl (b true) (LOp.eqb (LOp.lss rfl rfl rfl) hc5)<|zN ?_
    refine yT<|RunC.skip<|yS<|RunC.block<|yS ?_
    obtain ⟨r12, hf6, h13_⟩ := oS h13_
    obtain ⟨x13, hx7, h13_⟩ := oL h13_
    obtain ⟨x14, hx8, h13_⟩ := oL h13_
    obtain ⟨x15, hx9, h13_⟩ := oL h13_
    obtain ⟨x16, hx10, h13_⟩ := oL h13_
    obtain ⟨r17, hf11, h13_⟩ := oS h13_
    obtain ⟨x18, hx12, h13_⟩ := oL h13_
    obtain ⟨x19, hx13, h13_⟩ := oL h13_
    obtain ⟨x20, hx14, h13_⟩ := oL h13_
    obtain ⟨hm15, h13_⟩ := need_some h13_
    refine yW<|ym rfl (oref 0 u4 0 L8.length)<|ym rfl (sl a0.length (a0.map (ik .u8)))<|ym rfl (i64 v11)<|yd rfl (i64 r12) (yc ent8 rfl rfl (bS (bP bN0)) (w_b10At_ok a0 v11 17 r12 hf6))<|yl rfl (i64 x13) (LOp.eqr (LOp.sub rfl rfl rfl) (congrArg (ik .i64) hx7))<|yl rfl (f32 x14) (LOp.eqr (LOp.i2f (src := 2) (dst := 28) ⟨_, pun2⟩ pun28 rfl rfl) (congrArg (f .f32) hx8))<|yd rfl (f32 x15) (TOp.eqr (TOp.fop (.inr (.inr (.inr rfl))) rfl (OpF.tmp rfl) (OpF.const rfl (by kernel_rfl) (by kernel_rfl))) (congrArg (f .f32) hx9))<|ym rfl (sl a1.length (a1.map (ik .u8)))<|ym rfl (i64 v11)<|yl rfl (i64 x16) (LOp.eqr (LOp.add rfl rfl rfl) (congrArg (ik .i64) hx10))<|yd rfl (i64 r17) (yc ent8 rfl rfl (bS (bP bN0)) (w_b10At_ok a1 x16 17 r17 hf11))<|yl rfl (i64 x18) (LOp.eqr (LOp.sub rfl rfl rfl) (congrArg (ik .i64) hx12))<|yl rfl (f32 x19) (LOp.eqr (LOp.i2f (src := 2) (dst := 28) ⟨_, pun2⟩ pun28 rfl rfl) (congrArg (f .f32) hx13))<|yd rfl (f32 x20) (TOp.eqr (TOp.fop (.inr (.inr (.inr rfl))) rfl (OpF.tmp rfl) (OpF.const rfl (by kernel_rfl) (by kernel_rfl))) (congrArg (f .f32) hx14))<|yl rfl (cx .f32 x15 x20) (LOp.complex rfl (OpF.tmp rfl) (OpF.tmp rfl))<|ye rfl (oref 3 (u7 + 1) 0 1) ([⟨u4, some (L8.map (cp .f32))⟩, ⟨u5, some (L9.map (cp .f32))⟩, ⟨u6, some (L10.map f32)⟩, ⟨(u7 + 1), some (([(x15, x20)] : List (F × F)).map (cp .f32))⟩, ⟨0, none⟩, ⟨0, none⟩, ⟨0, none⟩, ⟨0, none⟩]) (TOp.buildSlice_o (g := ⟨u7, none⟩) (za := cx .f32 (some 0) (some 0)) (qs := [(0, [cx .f32 x15 x20])]) 3 rfl und25 siz27 zer27 rfl zel27 rfl rfl ⟨rfl, ⟨_, ALe.refl _, rfl⟩, trivial⟩ rfl)<|ROps.app (f := (cp .f32)) (xs := L8) (ys := ([(x15, x20)] : List (F × F))) (Γ' := [⟨(u4 + 1), some ((L8 ++ ([(x15, x20)] : List (F × F))).map (cp .f32))⟩, ⟨u5, some (L9.map (cp .f32))⟩, ⟨u6, some (L10.map f32)⟩, ⟨(u7 + 1), some (([(x15, x20)] : List (F × F)).map (cp .f32))⟩, ⟨0, none⟩, ⟨0, none⟩, ⟨0, none⟩, ⟨0, none⟩]) rfl pun25 inf27 rfl rfl rfl rfl rfl rfl rfl rfl rfl (by simp) (ReadAs.own rfl (by simp)) (ones_map (fun _ => rfl)) (ap_by hm15) (ap_mx hm15) rfl<|ya rfl (oref 0 (u4 + 1) 0 (L8.length + 1))<|zN ?_
    refine RunC.wl (τ' := [(0, sl a0.length (a0.map (ik .u8))), (1, sl a1.length (a1.map (ik .u8))), (5, i64 x3), (6, oref 0 (u4 + 1) 0 (L8.length + 1)), (7, oref 1 u5 0 L9.length), (8, oref 2 u6 0 L10.length), (9, i64 v11)]) (Γ' := [⟨(u4 + 1), some ((L8 ++ ([(x15, x20)] : List (F × F))).map (cp .f32))⟩, ⟨u5, some (L9.map (cp .f32))⟩, ⟨u6, some (L10.map f32)⟩, ⟨(u7 + 1), none⟩, ⟨0, none⟩, ⟨0, none⟩, ⟨0, none⟩, ⟨0, none⟩]) ⟨aR, aR, aR, aR, aR, aR, aR, trivial⟩ ⟨⟨rfl, .inr rfl⟩, ⟨rfl, .inr rfl⟩, ⟨rfl, .inr rfl⟩, ⟨rfl, .inl rfl⟩, ⟨rfl, .inr rfl⟩, ⟨rfl, .inr rfl⟩, ⟨rfl, .inr rfl⟩, ⟨rfl, .inr rfl⟩, trivial⟩<|yS ?_
    obtain ⟨x21, hx16, h13_⟩ := oL h13_
    obtain ⟨r22, hf17, h13_⟩ := oS h13_
    obtain ⟨x23, hx18, h13_⟩ := oL h13_
    obtain ⟨x24, hx19, h13_⟩ := oL h13_
    obtain ⟨x25, hx20, h13_⟩ := oL h13_
    refine yW<|ym rfl (sl a1.length (a1.map (ik .u8)))<|ym rfl (i64 v11)<|yl rfl (i64 x21) (LOp.eqr (LOp.add rfl rfl rfl) (congrArg (ik .i64) hx16))<|yd rfl (i64 r22) (yc ent8 rfl rfl (bS (bP bN0)) (w_b10At_ok a1 x21 9 r22 hf17))<|yl rfl (i64 x23) (LOp.eqr (LOp.sub rfl rfl rfl) (congrArg (ik .i64) hx18))<|yl rfl (f32 x24) (LOp.eqr (LOp.i2f (src := 2) (dst := 28) ⟨_, pun2⟩ pun28 rfl rfl) (congrArg (f .f32) hx19))<|yd rfl (f32 x25) (TOp.eqr (TOp.fop (.inr (.inr (.inr rfl))) rfl (OpF.tmp rfl) (OpF.const rfl (by kernel_rfl) (by kernel_rfl))) (congrArg (f .f32) hx20))<|ya rfl (f32 x25)<|zN ?_
    refine yS<|RunC.cutN (fun τ Γ => ∃ (y26 : F), (L8 ++ ([(x15, x20)] : List (F × F))).length = (L8.length + 1) ∧ Le 393 τ Γ [(0, sl a0.length (a0.map (ik .u8))), (1, sl a1.length (a1.map (ik .u8))), (5, i64 x3), (6, oref 0 (u4 + 1) 0 (L8.length + 1)), (7, oref 1 u5 0 L9.length), (8, oref 2 u6 0 L10.length), (9, i64 v11), (10, f32 y26)] [⟨(u4 + 1), some ((L8 ++ ([(x15, x20)] : List (F × F))).map (cp .f32))⟩, ⟨u5, some (L9.map (cp .f32))⟩, ⟨u6, some (L10.map f32)⟩, ⟨(u7 + 1), none⟩, ⟨0, none⟩, ⟨0, none⟩, ⟨0, none⟩, ⟨0, none⟩] ∧ w_FnSpectra_k2 L8 L9 L10 v11 x15 x20 y26 = some y13_) ?_ ?_
    ·refine yS ?_
     rcases oB h13_ with ⟨hc21, h13_⟩ | ⟨hc21, h13_⟩
     ·refine yW<|ym rfl (i64 v11)<|yl rfl (b true) (LOp.eqb (LOp.eql rfl rfl rfl) hc21)<|zN ?_
      refine yT<|yW<|yl rfl (f32 (some 1086324736)) (LOp.le (LOp.assign rfl rfl) (ALe.fl (by kernel_rfl) (by kernel_rfl)))<|zN ?_
      exact ⟨some 1086324736, (app_len rfl rfl), (Le.of ⟨aR, aR, aR, aR, aR, aR, aR, aR, trivial⟩ ⟨⟨rfl, .inr rfl⟩, ⟨rfl, .inr rfl⟩, ⟨rfl, .inr rfl⟩, ⟨rfl, .inl rfl⟩, ⟨rfl, .inr rfl⟩, ⟨rfl, .inr rfl⟩, ⟨rfl, .inr rfl⟩, ⟨rfl, .inr rfl⟩, trivial⟩), h13_⟩
     ·refine yW<|ym rfl (i64 v11)<|yl rfl (b false) (LOp.eqb (LOp.eql rfl rfl rfl) hc21)<|zN ?_
      refine yF<|RunC.skip ?_
      exact ⟨x25, (app_len rfl rfl), (Le.of ⟨aR, aR, aR, aR, aR, aR, aR, aR, trivial⟩ ⟨⟨rfl, .inr rfl⟩, ⟨rfl, .inr rfl⟩, ⟨rfl, .inr rfl⟩, ⟨rfl, .inl rfl⟩, ⟨rfl, .inr rfl⟩, ⟨rfl, .inr rfl⟩, ⟨rfl, .inr rfl⟩, ⟨rfl, .inr rfl⟩, trivial⟩), h13_⟩
    ·rintro τ14 Γ14 ⟨y26, hl27, hw14, h13_⟩
     refine RunC.le hw14 ?_
     unfold w_FnSpectra_k2 at h13_
     refine yS ?_
     obtain ⟨hm22, h13_⟩ := need_some h13_
     refine yW<|ym rfl (oref 1 u5 0 L9.length)<|ym rfl (f32 y26)<|yl rfl (cx .f32 y26 (some 0)) (LOp.complex rfl (OpF.tmp rfl) (OpF.const rfl (by kernel_rfl) (by kernel_rfl)))<|ye rfl (oref 3 (u7 + 2) 0 1) ([⟨(u4 + 1), some ((L8 ++ ([(x15, x20)] : List (F × F))).map (cp .f32))⟩, ⟨u5, some (L9.map (cp .f32))⟩, ⟨u6, some (L10.map f32)⟩, ⟨(u7 + 2), some (([(y26, (some 0))] : List (F × F)).map (cp .f32))⟩, ⟨0, none⟩, ⟨0, none⟩, ⟨0, none⟩, ⟨0, none⟩]) (TOp.buildSlice_o (g := ⟨(u7 + 1), none⟩) (za := cx .f32 (some 0) (some 0)) (qs := [(0, [cx .f32 y26 (some 0)])]) 3 rfl und25 siz27 zer27 rfl zel27 rfl rfl ⟨rfl, ⟨_, ALe.refl _, rfl⟩, trivial⟩ rfl)<|ROps.app (f := (cp .f32)) (xs := L9) (ys := ([(y26, (some 0))] : List (F × F))) (Γ' := [⟨(u4 + 1), some ((L8 ++ ([(x15, x20)] : List (F × F))).map (cp .f32))⟩, ⟨(u5 + 1), some ((L9 ++ ([(y26, (some 0))] : List (F × F))).map (cp .f32))⟩, ⟨u6, some (L10.map f32)⟩, ⟨(u7 + 2), some (([(y26, (some 0))] : List (F × F)).map (cp .f32))⟩, ⟨0, none⟩, ⟨0, none⟩, ⟨0, none⟩, ⟨0, none⟩]) rfl pun25 inf27 rfl rfl rfl rfl rfl rfl rfl rfl rfl (by simp) (ReadAs.own rfl (by simp)) (ones_map (fun _ => rfl)) (ap_by hm22) (ap_mx hm22) rfl<|ya rfl (oref 1 (u5 + 1) 0 (L9.length + 1))<|zN ?_
     refine RunC.wl (τ' := [(0, sl a0.length (a0.map (ik .u8))), (1, sl a1.length (a1.map (ik .u8))), (5, i64 x3), (6, oref 0 (u4 + 1) 0 (L8.length + 1)), (7, oref 1 (u5 + 1) 0 (L9.length + 1)), (8, oref 2 u6 0 L10.length), (9, i64 v11), (10, f32 y26)]) (Γ' := [⟨(u4 + 1), some ((L8 ++ ([(x15, x20)] : List (F × F))).map (cp .f32))⟩, ⟨(u5 + 1), some ((L9 ++ ([(y26, (some 0))] : List (F × F))).map (cp .f32))⟩, ⟨u6, some (L10.map f32)⟩, ⟨(u7 + 2), none⟩, ⟨0, none⟩, ⟨0, none⟩, ⟨0, none⟩, ⟨0, none⟩]) ⟨aR, aR, aR, aR, aR, aR, aR, aR, trivial⟩ ⟨⟨rfl, .inr rfl⟩, ⟨rfl, .inr rfl⟩, ⟨rfl, .inr rfl⟩, ⟨rfl, .inl rfl⟩, ⟨rfl, .inr rfl⟩, ⟨rfl, .inr rfl⟩, ⟨rfl, .inr rfl⟩, ⟨rfl, .inr rfl⟩, trivial⟩ ?_
     obtain ⟨hm23, h13_⟩ := need_some h13_
     refine yW<|ym rfl (oref 2 u6 0 L10.length)<|ym rfl (f32 y26)<|ye rfl (oref 3 (u7 + 3) 0 1) ([⟨(u4 + 1), some ((L8 ++ ([(x15, x20)] : List (F × F))).map (cp .f32))⟩, ⟨(u5 + 1), some ((L9 ++ ([(y26, (some 0))] : List (F × F))).map (cp .f32))⟩, ⟨u6, some (L10.map f32)⟩, ⟨(u7 + 3), some (([y26] : List F).map f32)⟩, ⟨0, none⟩, ⟨0, none⟩, ⟨0, none⟩, ⟨0, none⟩]) (TOp.buildSlice_o (g := ⟨(u7 + 2), none⟩) (za := f32 (some 0)) (qs := [(0, [f32 y26])]) 3 rfl und26 siz28 zer28 rfl zel28 rfl rfl ⟨rfl, ⟨_, ALe.refl _, rfl⟩, trivial⟩ rfl)<|ROps.app (f := f32) (xs := L10) (ys := ([y26] : List F)) (Γ' := [⟨(u4 + 1), some ((L8 ++ ([(x15, x20)] : List (F × F))).map (cp .f32))⟩, ⟨(u5 + 1), some ((L9 ++ ([(y26, (some 0))] : List (F × F))).map (cp .f32))⟩, ⟨(u6 + 1), some ((L10 ++ ([y26] : List F)).map f32)⟩, ⟨(u7 + 3), some (([y26] : List F).map f32)⟩, ⟨0, none⟩, ⟨0, none⟩, ⟨0, none⟩, ⟨0, none⟩]) rfl pun26 inf28 rfl rfl rfl rfl rfl rfl rfl rfl rfl (by simp) (ReadAs.own rfl (by simp)) (ones_map (fun _ => rfl)) (ap_by hm23) (ap_mx hm23) rfl<|ya rfl (oref 2 (u6 + 1) 0 (L10.length + 1))<|zN ?_
     refine RunC.wl (τ' := [(0, sl a0.length (a0.map (ik .u8))), (1, sl a1.length (a1.map (ik .u8))), (5, i64 x3), (6, oref 0 (u4 + 1) 0 (L8.length + 1)), (7, oref 1 (u5 + 1) 0 (L9.length + 1)), (8, oref 2 (u6 + 1) 0 (L10.length + 1)), (9, i64 v11)]) (Γ' := [⟨(u4 + 1), some ((L8 ++ ([(x15, x20)] : List (F × F))).map (cp .f32))⟩, ⟨(u5 + 1), some ((L9 ++ ([(y26, (some 0))] : List (F × F))).map (cp .f32))⟩, ⟨(u6 + 1), some ((L10 ++ ([y26] : List F)).map f32)⟩, ⟨(u7 + 3), none⟩, ⟨0, none⟩, ⟨0, none⟩, ⟨0, none⟩, ⟨0, none⟩]) ⟨aR, aR, aR, aR, aR, aR, aR, trivial⟩ ⟨⟨rfl, .inr rfl⟩, ⟨rfl, .inr rfl⟩, ⟨rfl, .inr rfl⟩, ⟨rfl, .inl rfl⟩, ⟨rfl, .inr rfl⟩, ⟨rfl, .inr rfl⟩, ⟨rfl, .inr rfl⟩, ⟨rfl, .inr rfl⟩, trivial⟩ ?_
     obtain ⟨x28, hx24, h13_⟩ := oL h13_
     refine yW<|ym rfl (i64 v11)<|yl rfl (i64 x28) (LOp.eqr (LOp.add rfl rfl rfl) (congrArg (ik .i64) hx24))<|ya rfl (i64 x28)<|zN ?_
     cases oI h13_
     exact ⟨_, rfl, (u4 + 1), (u5 + 1), (u6 + 1), (u7 + 3), (Le.of ⟨aR, aR, aR, (by first | exact ALe.refl _ | exact ALe.eq (by rw [hl27] <;> rfl) | exact ALe.eq (by simp)), (by first | exact ALe.refl _ | exact ALe.eq (by rw [(app_len rfl rfl)] <;> rfl) | exact ALe.eq (by simp)), (by first | exact ALe.refl _ | exact ALe.eq (by rw [(app_len rfl rfl)] <;> rfl) | exact ALe.eq (by simp)), aR, trivial⟩ ⟨⟨rfl, .inr rfl⟩, ⟨rfl, .inr rfl⟩, ⟨rfl, .inr rfl⟩, ⟨rfl, .inl rfl⟩, ⟨rfl, .inr rfl⟩, ⟨rfl, .inr rfl⟩, ⟨rfl, .inr rfl⟩, ⟨rfl, .inr rfl⟩, trivial⟩)⟩
   ·refine yW<|ym rfl (i64 v11)<|ym rfl (i64 x3)<|yl rfl (b false) (LOp.eqb (LOp.lss rfl rfl rfl) hc5)<|zN ?_
    refine yF<|RunC.exit ?_
    cases oI h13_
    have hx := ho13 _ rfl
    exact ⟨L8, L9, L10, u4, u5, u6, u7, (Le.of ⟨aR, aR, aR, aR, trivial⟩ ⟨⟨rfl, .inr rfl⟩, ⟨rfl, .inr rfl⟩, ⟨rfl, .inr rfl⟩, ⟨rfl, .inl rfl⟩, ⟨rfl, .inr rfl⟩, ⟨rfl, .inr rfl⟩, ⟨rfl, .inr rfl⟩, ⟨rfl, .inr rfl⟩, trivial⟩), hx⟩
  ·rintro τ15 Γ15 ⟨L33, L34, L35, u29, u30, u31, u32, hw15, rfl⟩
   refine RunC.le hw15 ?_
   replace h : w_FnSpectra_k3 x3 L33 L34 L35 = some q0 := h
   unfold w_FnSpectra_k3 at h
   refine yS ?_
   obtain ⟨r36, r37, hf25, h⟩ := obind2_some h
   refine yW<|ym rfl (oref 0 u29 0 L33.length)<|ye rfl (tup [oref 3 (u32 + 1) 0 r37.length, b r36]) [⟨u29, some (L33.map (cp .f32))⟩, ⟨u30, some (L34.map (cp .f32))⟩, ⟨u31, some (L35.map f32)⟩, ⟨(u32 + 1), some (r37.map (cp .f32))⟩, ⟨0, none⟩, ⟨0, none⟩, ⟨0, none⟩, ⟨0, none⟩] (TOp.eqr (TOp.callBN (ls := [(r37.map (cp .f32))]) [3] (CallAs.func ent9 rfl rfl) (Bors.cons (Bor.own (f := (cp .f32)) (fun _ => rfl) rfl rfl) bN) rfl (i_SpectrumOf_ok L33 r36 r37 hf25) (and_all (lts0_map (f := (cp .f32)) (fun _ => rfl) _) rfl) (and_all (noss_map (f := (cp .f32)) (fun _ => rfl) _) rfl) rfl (by decide) (ns_of ⟨⟨_, rfl⟩, trivial⟩)) (by simp [ren, rens, sigma, newNames]))<|ym rfl (tup [oref 3 (u32 + 1) 0 r37.length, b r36])<|yl rfl (oref 3 (u32 + 1) 0 r37.length) y3<|yl rfl (b r36) y3<|ya rfl (oref 3 (u32 + 1) 0 r37.length)<|ya rfl (b r36)<|zN ?_
   refine yS ?_
   obtain ⟨r38, r39, hf26, h⟩ := obind2_some h
   refine yW<|ym rfl (oref 3 (u32 + 1) 0 r37.length)<|ye rfl (tup [oref 4 1 0 r39.length, b r38]) [⟨u29, some (L33.map (cp .f32))⟩, ⟨u30, some (L34.map (cp .f32))⟩, ⟨u31, some (L35.map f32)⟩, ⟨(u32 + 1), some (r37.map (cp .f32))⟩, ⟨1, some (r39.map (cp .f32))⟩, ⟨0, none⟩, ⟨0, none⟩, ⟨0, none⟩] (TOp.callBN (ls := [(r39.map (cp .f32))]) [4] (CallAs.func ent10 rfl rfl) (Bors.cons (Bor.own (f := (cp .f32)) (fun _ => rfl) rfl rfl) bN) rfl (i_FromSpectrum_ok r37 r38 r39 hf26) (and_all (lts0_map (f := (cp .f32)) (fun _ => rfl) _) rfl) (and_all (noss_map (f := (cp .f32)) (fun _ => rfl) _) rfl) rfl (by decide) (ns_of ⟨⟨_, rfl⟩, trivial⟩))<|ym rfl (tup [oref 4 1 0 r39.length, b r38])<|yl rfl (oref 4 1 0 r39.length) y3<|yl rfl (b r38) y3<|ya rfl (oref 4 1 0 r39.length)<|ya rfl (b r38)<|zN ?_
   refine yS ?_
   obtain ⟨r40, r41, hf27, h⟩ := obind2_some h
   refine yW<|ym rfl (oref 1 u30 0 L34.length)<|ym rfl (oref 0 u29 0 L33.length)<|ye rfl (tup [oref 5 1 0 r41.length, b r40]) [⟨u29, some (L33.map (cp .f32))⟩, ⟨u30, some (L34.map (cp .f32))⟩, ⟨u31, some (L35.map f32)⟩, ⟨(u32 + 1), some (r37.map (cp .f32))⟩, ⟨1, some (r39.map (cp .f32))⟩, ⟨1, some (r41.map (cp .f32))⟩, ⟨0, none⟩, ⟨0, none⟩] (TOp.callBN (ls := [(r41.map (cp .f32))]) [5] (CallAs.func ent11 rfl rfl) (Bors.cons (Bor.own (f := (cp .f32)) (fun _ => rfl) rfl rfl) (Bors.cons (Bor.own (f := (cp .f32)) (fun _ => rfl) rfl rfl) bN)) rfl (i_RingTimes_ok L34 L33 r40 r41 hf27) (and_all (lts0_map (f := (cp .f32)) (fun _ => rfl) _) rfl) (and_all (noss_map (f := (cp .f32)) (fun _ => rfl) _) rfl) rfl (by decide) (ns_of ⟨⟨_, rfl⟩, trivial⟩))<|ym rfl (tup [oref 5 1 0 r41.length, b r40])<|yl rfl (oref 5 1 0 r41.length) y3<|yl rfl (b r40) y3<|ya rfl (oref 5 1 0 r41.length)<|ya rfl (b r40)<|zN ?_
   refine yS ?_
   obtain ⟨r42, r43, hf28, h⟩ := obind2_some h
   refine yW<|ym rfl (oref 1 u30 0 L34.length)<|ym rfl (oref 5 1 0 r41.length)<|ye rfl (tup [oref 6 1 0 r43.length, b r42]) [⟨u29, some (L33.map (cp .f32))⟩, ⟨u30, some (L34.map (cp .f32))⟩, ⟨u31, some (L35.map f32)⟩, ⟨(u32 + 1), some (r37.map (cp .f32))⟩, ⟨1, some (r39.map (cp .f32))⟩, ⟨1, some (r41.map (cp .f32))⟩, ⟨1, some (r43.map (cp .f32))⟩, ⟨0, none⟩] (TOp.callBN (ls := [(r43.map (cp .f32))]) [6] (CallAs.func ent12 rfl rfl) (Bors.cons (Bor.own (f := (cp .f32)) (fun _ => rfl) rfl rfl) (Bors.cons (Bor.own (f := (cp .f32)) (fun _ => rfl) rfl rfl) bN)) rfl (i_RingSolve_ok L34 r41 r42 r43 hf28) (and_all (lts0_map (f := (cp .f32)) (fun _ => rfl) _) rfl) (and_all (noss_map (f := (cp .f32)) (fun _ => rfl) _) rfl) rfl (by decide) (ns_of ⟨⟨_, rfl⟩, trivial⟩))<|ym rfl (tup [oref 6 1 0 r43.length, b r42])<|yl rfl (oref 6 1 0 r43.length) y3<|yl rfl (b r42) y3<|ya rfl (oref 6 1 0 r43.length)<|ya rfl (b r42)<|zN ?_
   refine RunC.wl (τ' := [(5, i64 x3), (6, oref 0 u29 0 L33.length), (8, oref 2 u31 0 L35.length), (11, oref 3 (u32 + 1) 0 r37.length), (12, b r36), (13, oref 4 1 0 r39.length), (14, b r38), (15, oref 5 1 0 r41.length), (16, b r40), (17, oref 6 1 0 r43.length), (18, b r42)]) (Γ' := [⟨u29, some (L33.map (cp .f32))⟩, ⟨u30, none⟩, ⟨u31, some (L35.map f32)⟩, ⟨(u32 + 1), some (r37.map (cp .f32))⟩, ⟨1, some (r39.map (cp .f32))⟩, ⟨1, some (r41.map (cp .f32))⟩, ⟨1, some (r43.map (cp .f32))⟩, ⟨0, none⟩]) ⟨aR, aR, aR, aR, aR, aR, aR, aR, aR, aR, aR, trivial⟩ ⟨⟨rfl, .inr rfl⟩, ⟨rfl, .inl rfl⟩, ⟨rfl, .inr rfl⟩, ⟨rfl, .inr rfl⟩, ⟨rfl, .inr rfl⟩, ⟨rfl, .inr rfl⟩, ⟨rfl, .inr rfl⟩, ⟨rfl, .inr rfl⟩, trivial⟩<|yS ?_
   obtain ⟨r44, r45, r46, r47, hf29, h⟩ := obind4_some h
   refine yW<|ym rfl (oref 2 u31 0 L35.length)<|ye rfl (tup [agg [i64 r44, i64 r45, oref 1 (u30 + 1) 0 r47.length], b r46]) [⟨u29, some (L33.map (cp .f32))⟩, ⟨(u30 + 1), some (r47.map f32)⟩, ⟨u31, some (L35.map f32)⟩, ⟨(u32 + 1), some (r37.map (cp .f32))⟩, ⟨1, some (r39.map (cp .f32))⟩, ⟨1, some (r41.map (cp .f32))⟩, ⟨1, some (r43.map (cp .f32))⟩, ⟨0, none⟩] (TOp.eqr (TOp.callBN (ls := [(r47.map f32)]) [1] (CallAs.func ent13 rfl rfl) (Bors.cons (Bor.own (f := f32) (fun _ => rfl) rfl rfl) bN) rfl (i_RingMatrix_ok L35 r44 r45 r46 r47 hf29) (and_all (lts0_map (f := f32) (fun _ => rfl) _) rfl) (and_all (noss_map (f := f32) (fun _ => rfl) _) rfl) rfl (by decide) (ns_of ⟨⟨_, rfl⟩, trivial⟩)) (by simp [ren, rens, sigma, newNames]))<|ym rfl (tup [agg [i64 r44, i64 r45, oref 1 (u30 + 1) 0 r47.length], b r46])<|yl rfl (agg [i64 r44, i64 r45, oref 1 (u30 + 1) 0 r47.length]) y3<|yl rfl (b r46) y3<|ye rfl (optr 7 1 0) [⟨u29, some (L33.map (cp .f32))⟩, ⟨(u30 + 1), some (r47.map f32)⟩, ⟨u31, some (L35.map f32)⟩, ⟨(u32 + 1), some (r37.map (cp .f32))⟩, ⟨1, some (r39.map (cp .f32))⟩, ⟨1, some (r41.map (cp .f32))⟩, ⟨1, some (r43.map (cp .f32))⟩, ⟨1, some zMx⟩] (TOp.alloc_o (g := ⟨0, none⟩) 7 rfl zer33 zok33 rfl)<|ys (agg [i64 r44, i64 r45, oref 1 (u30 + 1) 0 r47.length]) [i64 r44, i64 r45, oref 1 (u30 + 1) 0 r47.length] ([⟨u29, some (L33.map (cp .f32))⟩, ⟨(u30 + 1), some (r47.map f32)⟩, ⟨u31, some (L35.map f32)⟩, ⟨(u32 + 1), some (r37.map (cp .f32))⟩, ⟨1, some (r39.map (cp .f32))⟩, ⟨1, some (r41.map (cp .f32))⟩, ⟨1, some (r43.map (cp .f32))⟩, ⟨1, some [i64 r44, i64 r45, oref 1 (u30 + 1) 0 r47.length]⟩]) siz33<|ya rfl (b r46)<|zN ?_
   refine RunC.wl (τ' := [(5, i64 x3), (6, oref 0 u29 0 L33.length), (11, oref 3 (u32 + 1) 0 r37.length), (12, b r36), (13, oref 4 1 0 r39.length), (14, b r38), (15, oref 5 1 0 r41.length), (16, b r40), (17, oref 6 1 0 r43.length), (18, b r42), (19, optr 7 1 0), (20, b r46)]) (Γ' := [⟨u29, some (L33.map (cp .f32))⟩, ⟨(u30 + 1), some (r47.map f32)⟩, ⟨u31, none⟩, ⟨(u32 + 1), some (r37.map (cp .f32))⟩, ⟨1, some (r39.map (cp .f32))⟩, ⟨1, some (r41.map (cp .f32))⟩, ⟨1, some (r43.map (cp .f32))⟩, ⟨1, some [i64 r44, i64 r45, oref 1 (u30 + 1) 0 r47.length]⟩]) ⟨aR, aR, aR, aR, aR, aR, aR, aR, aR, aR, aR, aR, trivial⟩ ⟨⟨rfl, .inr rfl⟩, ⟨rfl, .inr rfl⟩, ⟨rfl, .inl rfl⟩, ⟨rfl, .inr rfl⟩, ⟨rfl, .inr rfl⟩, ⟨rfl, .inr rfl⟩, ⟨rfl, .inr rfl⟩, ⟨rfl, .inr rfl⟩, trivial⟩<|yS<|yS<|RunC.cutN (fun τ Γ => ( Le 393 τ Γ [(6, oref 0 u29 0 L33.length), (11, oref 3 (u32 + 1) 0 r37.length), (15, oref 5 1 0 r41.length), (19, optr 7 1 0), (142, b true)] [⟨u29, some (L33.map (cp .f32))⟩, ⟨(u30 + 1), some (r47.map f32)⟩, ⟨u31, none⟩, ⟨(u32 + 1), some (r37.map (cp .f32))⟩, ⟨1, none⟩, ⟨1, some (r41.map (cp .f32))⟩, ⟨1, none⟩, ⟨1, some [i64 r44, i64 r45, oref 1 (u30 + 1) 0 r47.length]⟩] ∧ w_FnSpectra_k5 = some q0) ∨ ( Le 393 τ Γ [(6, oref 0 u29 0 L33.length), (11, oref 3 (u32 + 1) 0 r37.length), (15, oref 5 1 0 r41.length), (19, optr 7 1 0), (142, b false)] [⟨u29, some (L33.map (cp .f32))⟩, ⟨(u30 + 1), some (r47.map f32)⟩, ⟨u31, none⟩, ⟨(u32 + 1), some (r37.map (cp .f32))⟩, ⟨1, none⟩, ⟨1, some (r41.map (cp .f32))⟩, ⟨1, none⟩, ⟨1, some [i64 r44, i64 r45, oref 1 (u30 + 1) 0 r47.length]⟩] ∧ w_FnSpectra_k7 L33 r37 r41 r44 r45 r47 = some q0)) ?_ ?_
   ·rcases oB h with ⟨hc30, h⟩ | ⟨hc30, h⟩
    ·rcases oB h with ⟨hc31, h⟩ | ⟨hc31, h⟩
     ·rcases oB h with ⟨hc32, h⟩ | ⟨hc32, h⟩
      ·rcases oB h with ⟨hc33, h⟩ | ⟨hc33, h⟩
       ·rcases oB h with ⟨hc34, h⟩ | ⟨hc34, h⟩
        ·rcases oB h with ⟨hc35, h⟩ | ⟨hc35, h⟩
         ·refine yW<|yl rfl (b true) (yv hc30)<|yl rfl (b false) y1<|ym rfl (b false)<|yl rfl (b true) (yv hc31)<|yl rfl (b false) y1<|yl rfl (b false) yp<|ym rfl (b false)<|yl rfl (b true) (yv hc32)<|yl rfl (b false) y1<|yl rfl (b false) yp<|ym rfl (b false)<|yl rfl (b true) (yv hc33)<|yl rfl (b false) y1<|yl rfl (b false) yp<|ym rfl (b false)<|yl rfl (b true) (yv hc34)<|yl rfl (b false) y1<|yl rfl (b false) yp<|ym rfl (b false)<|ym rfl (oref 3 (u32 + 1) 0 r37.length)<|yl rfl (i64 ((r37.length : Nat) : Int)) (LOp.len_oref und25 rfl rfl)<|ym rfl (i64 x3)<|yl rfl (b true) (LOp.eqb (LOp.neq rfl rfl rfl) hc35)<|yl rfl (b true) yp<|ym rfl (b true)<|ROps.s rfl rfl rfl<|ROps.s rfl rfl rfl<|ROps.s rfl rfl rfl<|yl rfl (b true) yq<|ym rfl (b true)<|ROps.s rfl rfl rfl<|ROps.s rfl rfl rfl<|ROps.s rfl rfl rfl<|yl rfl (b true) yq<|ym rfl (b true)<|ROps.s rfl rfl rfl<|ROps.s rfl rfl rfl<|ROps.s rfl rfl rfl<|ROps.s rfl rfl rfl<|yl rfl (b true) yq<|zN ?_
          exact .inl ⟨(Le.of ⟨aR, aR, aR, aR, aR, trivial⟩ ⟨⟨rfl, .inr rfl⟩, ⟨rfl, .inr rfl⟩, ⟨rfl, .inl rfl⟩, ⟨rfl, .inr rfl⟩, ⟨rfl, .inl rfl⟩, ⟨rfl, .inr rfl⟩, ⟨rfl, .inl rfl⟩, ⟨rfl, .inr rfl⟩, trivial⟩), h⟩
         ·obtain ⟨r48, hf36, h⟩ := oS h
          rcases oB h with ⟨hc37, h⟩ | ⟨hc37, h⟩
          ·refine yW<|yl rfl (b true) (yv hc30)<|yl rfl (b false) y1<|ym rfl (b false)<|yl rfl (b true) (yv hc31)<|yl rfl (b false) y1<|yl rfl (b false) yp<|ym rfl (b false)<|yl rfl (b true) (yv hc32)<|yl rfl (b false) y1<|yl rfl (b false) yp<|ym rfl (b false)<|yl rfl (b true) (yv hc33)<|yl rfl (b false) y1<|yl rfl (b false) yp<|ym rfl (b false)<|yl rfl (b true) (yv hc34)<|yl rfl (b false) y1<|yl rfl (b false) yp<|ym rfl (b false)<|ym rfl (oref 3 (u32 + 1) 0 r37.length)<|yl rfl (i64 ((r37.length : Nat) : Int)) (LOp.len_oref und25 rfl rfl)<|ym rfl (i64 x3)<|yl rfl (b false) (LOp.eqb (LOp.neq rfl rfl rfl) hc35)<|yl rfl (b false) yp<|ym rfl (b false)<|ym rfl (oref 4 1 0 r39.length)<|ym rfl (oref 0 u29 0 L33.length)<|yd rfl (b true) (TOp.eqb (yc ent14 rfl rfl (Bors.cons (Bor.own (f := (cp .f32)) (fun _ => rfl) rfl rfl) (Bors.cons (Bor.own (f := (cp .f32)) (fun _ => rfl) rfl rfl) bN)) (w_b10FarRing_ok r39 L33 r48 hf36)) hc37)<|yl rfl (b true) yp<|ym rfl (b true)<|ROps.s rfl rfl rfl<|ROps.s rfl rfl rfl<|ROps.s rfl rfl rfl<|yl rfl (b true) yq<|ym rfl (b true)<|ROps.s rfl rfl rfl<|ROps.s rfl rfl rfl<|ROps.s rfl rfl rfl<|ROps.s rfl rfl rfl<|yl rfl (b true) yq<|zN ?_
           exact .inl ⟨(Le.of ⟨aR, aR, aR, aR, aR, trivial⟩ ⟨⟨rfl, .inr rfl⟩, ⟨rfl, .inr rfl⟩, ⟨rfl, .inl rfl⟩, ⟨rfl, .inr rfl⟩, ⟨rfl, .inl rfl⟩, ⟨rfl, .inr rfl⟩, ⟨rfl, .inl rfl⟩, ⟨rfl, .inr rfl⟩, trivial⟩), h⟩
          ·obtain ⟨r49, hf38, h⟩ := oS h
           rcases oB h with ⟨hc39, h⟩ | ⟨hc39, h⟩
           ·refine yW<|yl rfl (b true) (yv hc30)<|yl rfl (b false) y1<|ym rfl (b false)<|yl rfl (b true) (yv hc31)<|yl rfl (b false) y1<|yl rfl (b false) yp<|ym rfl (b false)<|yl rfl (b true) (yv hc32)<|yl rfl (b false) y1<|yl rfl (b false) yp<|ym rfl (b false)<|yl rfl (b true) (yv hc33)<|yl rfl (b false) y1<|yl rfl (b false) yp<|ym rfl (b false)<|yl rfl (b true) (yv hc34)<|yl rfl (b false) y1<|yl rfl (b false) yp<|ym rfl (b false)<|ym rfl (oref 3 (u32 + 1) 0 r37.length)<|yl rfl (i64 ((r37.length : Nat) : Int)) (LOp.len_oref und25 rfl rfl)<|ym rfl (i64 x3)<|yl rfl (b false) (LOp.eqb (LOp.neq rfl rfl rfl) hc35)<|yl rfl (b false) yp<|ym rfl (b false)<|ym rfl (oref 4 1 0 r39.length)<|ym rfl (oref 0 u29 0 L33.length)<|yd rfl (b false) (TOp.eqb (yc ent14 rfl rfl (Bors.cons (Bor.own (f := (cp .f32)) (fun _ => rfl) rfl rfl) (Bors.cons (Bor.own (f := (cp .f32)) (fun _ => rfl) rfl rfl) bN)) (w_b10FarRing_ok r39 L33 r48 hf36)) hc37)<|yl rfl (b false) yp<|ym rfl (b false)<|ym rfl (oref 6 1 0 r43.length)<|ym rfl (oref 0 u29 0 L33.length)<|yd rfl (b true) (TOp.eqb (yc ent14 rfl rfl (Bors.cons (Bor.own (f := (cp .f32)) (fun _ => rfl) rfl rfl) (Bors.cons (Bor.own (f := (cp .f32)) (fun _ => rfl) rfl rfl) bN)) (w_b10FarRing_ok r43 L33 r49 hf38)) hc39)<|yl rfl (b true) yp<|ym rfl (b true)<|ROps.s rfl rfl rfl<|ROps.s rfl rfl rfl<|ROps.s rfl rfl rfl<|ROps.s rfl rfl rfl<|yl rfl (b true) yq<|zN ?_
            exact .inl ⟨(Le.of ⟨aR, aR, aR, aR, aR, trivial⟩ ⟨⟨rfl, .inr rfl⟩, ⟨rfl, .inr rfl⟩, ⟨rfl, .inl rfl⟩, ⟨rfl, .inr rfl⟩, ⟨rfl, .inl rfl⟩, ⟨rfl, .inr rfl⟩, ⟨rfl, .inl rfl⟩, ⟨rfl, .inr rfl⟩, trivial⟩), h⟩
           ·rcases oB h with ⟨hc40, h⟩ | ⟨hc40, h⟩
            ·refine yW<|yl rfl (b true) (yv hc30)<|yl rfl (b false) y1<|ym rfl (b false)<|yl rfl (b true) (yv hc31)<|yl rfl (b false) y1<|yl rfl (b false) yp<|ym rfl (b false)<|yl rfl (b true) (yv hc32)<|yl rfl (b false) y1<|yl rfl (b false) yp<|ym rfl (b false)<|yl rfl (b true) (yv hc33)<|yl rfl (b false) y1<|yl rfl (b false) yp<|ym rfl (b false)<|yl rfl (b true) (yv hc34)<|yl rfl (b false) y1<|yl rfl (b false) yp<|ym rfl (b false)<|ym rfl (oref 3 (u32 + 1) 0 r37.length)<|yl rfl (i64 ((r37.length : Nat) : Int)) (LOp.len_oref und25 rfl rfl)<|ym rfl (i64 x3)<|yl rfl (b false) (LOp.eqb (LOp.neq rfl rfl rfl) hc35)<|yl rfl (b false) yp<|ym rfl (b false)<|ym rfl (oref 4 1 0 r39.length)<|ym rfl (oref 0 u29 0 L33.length)<|yd rfl (b false) (TOp.eqb (yc ent14 rfl rfl (Bors.cons (Bor.own (f := (cp .f32)) (fun _ => rfl) rfl rfl) (Bors.cons (Bor.own (f := (cp .f32)) (fun _ => rfl) rfl rfl) bN)) (w_b10FarRing_ok r39 L33 r48 hf36)) hc37)<|yl rfl (b false) yp<|ym rfl (b false)<|ym rfl (oref 6 1 0 r43.length)<|ym rfl (oref 0 u29 0 L33.length)<|yd rfl (b false) (TOp.eqb (yc ent14 rfl rfl (Bors.cons (Bor.own (f := (cp .f32)) (fun _ => rfl) rfl rfl) (Bors.cons (Bor.own (f := (cp .f32)) (fun _ => rfl) rfl rfl) bN)) (w_b10FarRing_ok r43 L33 r49 hf38)) hc39)<|yl rfl (b false) yp<|ym rfl (b false)<|ym rfl (oref 5 1 0 r41.length)<|yl rfl (i64 ((r41.length : Nat) : Int)) (LOp.len_oref und25 rfl rfl)<|ym rfl (i64 x3)<|yl rfl (b true) (LOp.eqb (LOp.neq rfl rfl rfl) hc40)<|yl rfl (b true) yp<|zN ?_
             exact .inl ⟨(Le.of ⟨aR, aR, aR, aR, aR, trivial⟩ ⟨⟨rfl, .inr rfl⟩, ⟨rfl, .inr rfl⟩, ⟨rfl, .inl rfl⟩, ⟨rfl, .inr rfl⟩, ⟨rfl, .inl rfl⟩, ⟨rfl, .inr rfl⟩, ⟨rfl, .inl rfl⟩, ⟨rfl, .inr rfl⟩, trivial⟩), h⟩
            ·refine yW<|yl rfl (b true) (yv hc30)<|yl rfl (b false) y1<|ym rfl (b false)<|yl rfl (b true) (yv hc31)<|yl rfl (b false) y1<|yl rfl (b false) yp<|ym rfl (b false)<|yl rfl (b true) (yv hc32)<|yl rfl (b false) y1<|yl rfl (b false) yp<|ym rfl (b false)<|yl rfl (b true) (yv hc33)<|yl rfl (b false) y1<|yl rfl (b false) yp<|ym rfl (b false)<|yl rfl (b true) (yv hc34)<|yl rfl (b false) y1<|yl rfl (b false) yp<|ym rfl (b false)<|ym rfl (oref 3 (u32 + 1) 0 r37.length)<|yl rfl (i64 ((r37.length : Nat) : Int)) (LOp.len_oref und25 rfl rfl)<|ym rfl (i64 x3)<|yl rfl (b false) (LOp.eqb (LOp.neq rfl rfl rfl) hc35)<|yl rfl (b false) yp<|ym rfl (b false)<|ym rfl (oref 4 1 0 r39.length)<|ym rfl (oref 0 u29 0 L33.length)<|yd rfl (b false) (TOp.eqb (yc ent14 rfl rfl (Bors.cons (Bor.own (f := (cp .f32)) (fun _ => rfl) rfl rfl) (Bors.cons (Bor.own (f := (cp .f32)) (fun _ => rfl) rfl rfl) bN)) (w_b10FarRing_ok r39 L33 r48 hf36)) hc37)<|yl rfl (b false) yp<|ym rfl (b false)<|ym rfl (oref 6 1 0 r43.length)<|ym rfl (oref 0 u29 0 L33.length)<|yd rfl (b false) (TOp.eqb (yc ent14 rfl rfl (Bors.cons (Bor.own (f := (cp .f32)) (fun _ => rfl) rfl rfl) (Bors.cons (Bor.own (f := (cp .f32)) (fun _ => rfl) rfl rfl) bN)) (w_b10FarRing_ok r43 L33 r49 hf38)) hc39)<|yl rfl (b false) yp<|ym rfl (b false)<|ym rfl (oref 5 1 0 r41.length)<|yl rfl (i64 ((r41.length : Nat) : Int)) (LOp.len_oref und25 rfl rfl)<|ym rfl (i64 x3)<|yl rfl (b false) (LOp.eqb (LOp.neq rfl rfl rfl) hc40)<|yl rfl (b false) yp<|zN ?_
             exact .inr (⟨(Le.of ⟨aR, aR, aR, aR, aR, trivial⟩ ⟨⟨rfl, .inr rfl⟩, ⟨rfl, .inr rfl⟩, ⟨rfl, .inl rfl⟩, ⟨rfl, .inr rfl⟩, ⟨rfl, .inl rfl⟩, ⟨rfl, .inr rfl⟩, ⟨rfl, .inl rfl⟩, ⟨rfl, .inr rfl⟩, trivial⟩), h⟩)
        ·refine yW<|yl rfl (b true) (yv hc30)<|yl rfl (b false) y1<|ym rfl (b false)<|yl rfl (b true) (yv hc31)<|yl rfl (b false) y1<|yl rfl (b false) yp<|ym rfl (b false)<|yl rfl (b true) (yv hc32)<|yl rfl (b false) y1<|yl rfl (b false) yp<|ym rfl (b false)<|yl rfl (b true) (yv hc33)<|yl rfl (b false) y1<|yl rfl (b false) yp<|ym rfl (b false)<|yl rfl (b false) (yv hc34)<|yl rfl (b true) y0<|yl rfl (b true) yp<|ym rfl (b true)<|ROps.s rfl rfl rfl<|ROps.s rfl rfl rfl<|ROps.s rfl rfl rfl<|ROps.s rfl rfl rfl<|yl rfl (b true) yq<|ym rfl (b true)<|ROps.s rfl rfl rfl<|ROps.s rfl rfl rfl<|ROps.s rfl rfl rfl<|yl rfl (b true) yq<|ym rfl (b true)<|ROps.s rfl rfl rfl<|ROps.s rfl rfl rfl<|ROps.s rfl rfl rfl<|yl rfl (b true) yq<|ym rfl (b true)<|ROps.s rfl rfl rfl<|ROps.s rfl rfl rfl<|ROps.s rfl rfl rfl<|ROps.s rfl rfl rfl<|yl rfl (b true) yq<|zN ?_
         exact .inl ⟨(Le.of ⟨aR, aR, aR, aR, aR, trivial⟩ ⟨⟨rfl, .inr rfl⟩, ⟨rfl, .inr rfl⟩, ⟨rfl, .inl rfl⟩, ⟨rfl, .inr rfl⟩, ⟨rfl, .inl rfl⟩, ⟨rfl, .inr rfl⟩, ⟨rfl, .inl rfl⟩, ⟨rfl, .inr rfl⟩, trivial⟩), h⟩
       ·refine yW<|yl rfl (b true) (yv hc30)<|yl rfl (b false) y1<|ym rfl (b false)<|yl rfl (b true) (yv hc31)<|yl rfl (b false) y1<|yl rfl (b false) yp<|ym rfl (b false)<|yl rfl (b true) (yv hc32)<|yl rfl (b false) y1<|yl rfl (b false) yp<|ym rfl (b false)<|yl rfl (b false) (yv hc33)<|yl rfl (b true) y0<|yl rfl (b true) yp<|ym rfl (b true)<|ROps.s rfl rfl rfl<|ROps.s rfl rfl rfl<|yl rfl (b true) yq<|ym rfl (b true)<|ROps.s rfl rfl rfl<|ROps.s rfl rfl rfl<|ROps.s rfl rfl rfl<|ROps.s rfl rfl rfl<|yl rfl (b true) yq<|ym rfl (b true)<|ROps.s rfl rfl rfl<|ROps.s rfl rfl rfl<|ROps.s rfl rfl rfl<|yl rfl (b true) yq<|ym rfl (b true)<|ROps.s rfl rfl rfl<|ROps.s rfl rfl rfl<|ROps.s rfl rfl rfl<|yl rfl (b true) yq<|ym rfl (b true)<|ROps.s rfl rfl rfl<|ROps.s rfl rfl rfl<|ROps.s rfl rfl rfl<|ROps.s rfl rfl rfl<|yl rfl (b true) yq<|zN ?_
        exact .inl ⟨(Le.of ⟨aR, aR, aR, aR, aR, trivial⟩ ⟨⟨rfl, .inr rfl⟩, ⟨rfl, .inr rfl⟩, ⟨rfl, .inl rfl⟩, ⟨rfl, .inr rfl⟩, ⟨rfl, .inl rfl⟩, ⟨rfl, .inr rfl⟩, ⟨rfl, .inl rfl⟩, ⟨rfl, .inr rfl⟩, trivial⟩), h⟩
      ·refine yW<|yl rfl (b true) (yv hc30)<|yl rfl (b false) y1<|ym rfl (b false)<|yl rfl (b true) (yv hc31)<|yl rfl (b false) y1<|yl rfl (b false) yp<|ym rfl (b false)<|yl rfl (b false) (yv hc32)<|yl rfl (b true) y0<|yl rfl (b true) yp<|ym rfl (b true)<|ROps.s rfl rfl rfl<|ROps.s rfl rfl rfl<|yl rfl (b true) yq<|ym rfl (b true)<|ROps.s rfl rfl rfl<|ROps.s rfl rfl rfl<|yl rfl (b true) yq<|ym rfl (b true)<|ROps.s rfl rfl rfl<|ROps.s rfl rfl rfl<|ROps.s rfl rfl rfl<|ROps.s rfl rfl rfl<|yl rfl (b true) yq<|ym rfl (b true)<|ROps.s rfl rfl rfl<|ROps.s rfl rfl rfl<|ROps.s rfl rfl rfl<|yl rfl (b true) yq<|ym rfl (b true)<|ROps.s rfl rfl rfl<|ROps.s rfl rfl rfl<|ROps.s rfl rfl rfl<|yl rfl (b true) yq<|ym rfl (b true)<|ROps.s rfl rfl rfl<|ROps.s rfl rfl rfl<|ROps.s rfl rfl rfl<|ROps.s rfl rfl rfl<|yl rfl (b true) yq<|zN ?_
       exact .inl ⟨(Le.of ⟨aR, aR, aR, aR, aR, trivial⟩ ⟨⟨rfl, .inr rfl⟩, ⟨rfl, .inr rfl⟩, ⟨rfl, .inl rfl⟩, ⟨rfl, .inr rfl⟩, ⟨rfl, .inl rfl⟩, ⟨rfl, .inr rfl⟩, ⟨rfl, .inl rfl⟩, ⟨rfl, .inr rfl⟩, trivial⟩), h⟩
     ·refine yW<|yl rfl (b true) (yv hc30)<|yl rfl (b false) y1<|ym rfl (b false)<|yl rfl (b false) (yv hc31)<|yl rfl (b true) y0<|yl rfl (b true) yp<|ym rfl (b true)<|ROps.s rfl rfl rfl<|ROps.s rfl rfl rfl<|yl rfl (b true) yq<|ym rfl (b true)<|ROps.s rfl rfl rfl<|ROps.s rfl rfl rfl<|yl rfl (b true) yq<|ym rfl (b true)<|ROps.s rfl rfl rfl<|ROps.s rfl rfl rfl<|yl rfl (b true) yq<|ym rfl (b true)<|ROps.s rfl rfl rfl<|ROps.s rfl rfl rfl<|ROps.s rfl rfl rfl<|ROps.s rfl rfl rfl<|yl rfl (b true) yq<|ym rfl (b true)<|ROps.s rfl rfl rfl<|ROps.s rfl rfl rfl<|ROps.s rfl rfl rfl<|yl rfl (b true) yq<|ym rfl (b true)<|ROps.s rfl rfl rfl<|ROps.s rfl rfl rfl<|ROps.s rfl rfl rfl<|yl rfl (b true) yq<|ym rfl (b true)<|ROps.s rfl rfl rfl<|ROps.s rfl rfl rfl<|ROps.s rfl rfl rfl<|ROps.s rfl rfl rfl<|yl rfl (b true) yq<|zN ?_
      exact .inl ⟨(Le.of ⟨aR, aR, aR, aR, aR, trivial⟩ ⟨⟨rfl, .inr rfl⟩, ⟨rfl, .inr rfl⟩, ⟨rfl, .inl rfl⟩, ⟨rfl, .inr rfl⟩, ⟨rfl, .inl rfl⟩, ⟨rfl, .inr rfl⟩, ⟨rfl, .inl rfl⟩, ⟨rfl, .inr rfl⟩, trivial⟩), h⟩
    ·refine yW<|yl rfl (b false) (yv hc30)<|yl rfl (b true) y0<|ym rfl (b true)<|ROps.s rfl rfl rfl<|ROps.s rfl rfl rfl<|yl rfl (b true) yq<|ym rfl (b true)<|ROps.s rfl rfl rfl<|ROps.s rfl rfl rfl<|yl rfl (b true) yq<|ym rfl (b true)<|ROps.s rfl rfl rfl<|ROps.s rfl rfl rfl<|yl rfl (b true) yq<|ym rfl (b true)<|ROps.s rfl rfl rfl<|ROps.s rfl rfl rfl<|yl rfl (b true) yq<|ym rfl (b true)<|ROps.s rfl rfl rfl<|ROps.s rfl rfl rfl<|ROps.s rfl rfl rfl<|ROps.s rfl rfl rfl<|yl rfl (b true) yq<|ym rfl (b true)<|ROps.s rfl rfl rfl<|ROps.s rfl rfl rfl<|ROps.s rfl rfl rfl<|yl rfl (b true) yq<|ym rfl (b true)<|ROps.s rfl rfl rfl<|ROps.s rfl rfl rfl<|ROps.s rfl rfl rfl<|yl rfl (b true) yq<|ym rfl (b true)<|ROps.s rfl rfl rfl<|ROps.s rfl rfl rfl<|ROps.s rfl rfl rfl<|ROps.s rfl rfl rfl<|yl rfl (b true) yq<|zN ?_
     exact .inl ⟨(Le.of ⟨aR, aR, aR, aR, aR, trivial⟩ ⟨⟨rfl, .inr rfl⟩, ⟨rfl, .inr rfl⟩, ⟨rfl, .inl rfl⟩, ⟨rfl, .inr rfl⟩, ⟨rfl, .inl rfl⟩, ⟨rfl, .inr rfl⟩, ⟨rfl, .inl rfl⟩, ⟨rfl, .inr rfl⟩, trivial⟩), h⟩
   ·rintro τ16 Γ16 (⟨hw16, h⟩ | ⟨hw16, h⟩)
    ·refine RunC.le (τ' := [(6, oref 0 u29 0 L33.length), (11, oref 3 (u32 + 1) 0 r37.length), (15, oref 5 1 0 r41.length), (19, optr 7 1 0), (142, b true)]) (Γ' := [⟨u29, some (L33.map (cp .f32))⟩, ⟨(u30 + 1), some (r47.map f32)⟩, ⟨u31, none⟩, ⟨(u32 + 1), some (r37.map (cp .f32))⟩, ⟨1, none⟩, ⟨1, some (r41.map (cp .f32))⟩, ⟨1, none⟩, ⟨1, some [i64 r44, i64 r45, oref 1 (u30 + 1) 0 r47.length]⟩]) hw16 ?_
     unfold w_FnSpectra_k5 at h
     refine yT<|zQ<|ya rfl (b false)<|zN ?_
     refine RunC.ret ?_
     have hq := oI h
     subst q0
     exact bodyQ.pure (.inr rfl) rfl (Res.one rfl (RV.tmp rfl))
    ·refine RunC.le (τ' := [(6, oref 0 u29 0 L33.length), (11, oref 3 (u32 + 1) 0 r37.length), (15, oref 5 1 0 r41.length), (19, optr 7 1 0), (142, b false)]) (Γ' := [⟨u29, some (L33.map (cp .f32))⟩, ⟨(u30 + 1), some (r47.map f32)⟩, ⟨u31, none⟩, ⟨(u32 + 1), some (r37.map (cp .f32))⟩, ⟨1, none⟩, ⟨1, some (r41.map (cp .f32))⟩, ⟨1, none⟩, ⟨1, some [i64 r44, i64 r45, oref 1 (u30 + 1) 0 r47.length]⟩]) hw16 ?_
     unfold w_FnSpectra_k7 at h
     refine yF<|RunC.skip<|zQ<|ye rfl (oref 2 (u31 + 1) 0 0) ([⟨u29, some (L33.map (cp .f32))⟩, ⟨(u30 + 1), some (r47.map f32)⟩, ⟨(u31 + 1), some (([] : List F).map f32)⟩, ⟨(u32 + 1), some (r37.map (cp .f32))⟩, ⟨1, none⟩, ⟨1, some (r41.map (cp .f32))⟩, ⟨1, none⟩, ⟨1, some [i64 r44, i64 r45, oref 1 (u30 + 1) 0 r47.length]⟩]) (TOp.buildSlice_o (g := ⟨u31, none⟩) (za := f32 (some 0)) (qs := []) 2 rfl und26 siz28 zer28 rfl zel28 rfl rfl trivial rfl)<|ya rfl (oref 2 (u31 + 1) 0 0)<|zN ?_
     refine zQ<|ye rfl (oref 4 2 0 0) ([⟨u29, some (L33.map (cp .f32))⟩, ⟨(u30 + 1), some (r47.map f32)⟩, ⟨(u31 + 1), some (([] : List F).map f32)⟩, ⟨(u32 + 1), some (r37.map (cp .f32))⟩, ⟨2, some (([] : List F).map f32)⟩, ⟨1, some (r41.map (cp .f32))⟩, ⟨1, none⟩, ⟨1, some [i64 r44, i64 r45, oref 1 (u30 + 1) 0 r47.length]⟩]) (TOp.buildSlice_o (g := ⟨1, none⟩) (za := f32 (some 0)) (qs := []) 4 rfl und26 siz28 zer28 rfl zel28 rfl rfl trivial rfl)<|ya rfl (oref 4 2 0 0)<|zN ?_
     refine zQ<|yl rfl (cx .f32 (some 0) (some 0)) (LOp.le (LOp.assign rfl rfl) (ALe.cpx (by kernel_rfl) (by kernel_rfl) (by kernel_rfl) (by kernel_rfl)))<|zN ?_
     refine yS<|zQ<|ym rfl (oref 0 u29 0 L33.length)<|yl rfl (i64 ((L33.length : Nat) : Int)) (LOp.len_oref und25 rfl rfl)<|ym rfl (i64 0)<|zN ?_
     obtain ⟨z17, hz_17, h⟩ := oS h
     refine RunC.cutN (fun τ Γ => ∃ (L65 : List F) (L66 : List F) (y67 : F) (y68 : F) (u62 : Nat) (u63 : Nat) (u64 : Nat), Le 393 τ Γ [(11, oref 3 (u32 + 1) 0 r37.length), (19, optr 7 1 0), (21, oref 2 u62 0 L65.length), (22, oref 4 u63 0 L66.length), (23, cx .f32 y67 y68)] [⟨u29, none⟩, ⟨(u30 + 1), some (r47.map f32)⟩, ⟨u62, some (L65.map f32)⟩, ⟨(u32 + 1), some (r37.map (cp .f32))⟩, ⟨u63, some (L66.map f32)⟩, ⟨1, none⟩, ⟨u64, none⟩, ⟨1, some [i64 r44, i64 r45, oref 1 (u30 + 1) 0 r47.length]⟩] ∧ z17 = .inl (L65, L66, y67, y68)) ?_ ?_
     ·refine RunC.block (RunC.loop (RunL.loopM (x := z17) (w_FnSpectra_s8 L33 r41) (fun (s : (List F) × (List F) × F × F × Int) τ Γ => ∃ (u50 : Nat) (u51 : Nat) (u52 : Nat), Le 393 τ Γ [(6, oref 0 u29 0 L33.length), (11, oref 3 (u32 + 1) 0 r37.length), (15, oref 5 1 0 r41.length), (19, optr 7 1 0), (21, oref 2 u50 0 s.1.length), (22, oref 4 u51 0 s.2.1.length), (23, cx .f32 s.2.2.1 s.2.2.2.1), (146, i64 ((L33.length : Nat) : Int)), (147, i64 s.2.2.2.2)] [⟨u29, some (L33.map (cp .f32))⟩, ⟨(u30 + 1), some (r47.map f32)⟩, ⟨u50, some (s.1.map f32)⟩, ⟨(u32 + 1), some (r37.map (cp .f32))⟩, ⟨u51, some (s.2.1.map f32)⟩, ⟨1, some (r41.map (cp .f32))⟩, ⟨u52, none⟩, ⟨1, some [i64 r44, i64 r45, oref 1 (u30 + 1) 0 r47.length]⟩]) ?_ _ _ _ hz_17 ⟨(u31 + 1), 2, 1, (Le.of ⟨aR, aR, aR, aR, aR, aR, aR, aR, aR, trivial⟩ ⟨⟨rfl, .inr rfl⟩, ⟨rfl, .inr rfl⟩, ⟨rfl, .inr rfl⟩, ⟨rfl, .inr rfl⟩, ⟨rfl, .inr rfl⟩, ⟨rfl, .inr rfl⟩, ⟨rfl, .inl rfl⟩, ⟨rfl, .inr rfl⟩, trivial⟩)⟩))
      rintro ⟨L53, L54, y55, y56, v57⟩ τ17 Γ17 y17_ ⟨u50, u51, u52, hw17⟩ h17_ ho17 hr17
      refine RunC.le (τ' := [(6, oref 0 u29 0 L33.length), (11, oref 3 (u32 + 1) 0 r37.length), (15, oref 5 1 0 r41.length), (19, optr 7 1 0), (21, oref 2 u50 0 L53.length), (22, oref 4 u51 0 L54.length), (23, cx .f32 y55 y56), (146, i64 ((L33.length : Nat) : Int)), (147, i64 v57)]) (Γ' := [⟨u29, some (L33.map (cp .f32))⟩, ⟨(u30 + 1), some (r47.map f32)⟩, ⟨u50, some (L53.map f32)⟩, ⟨(u32 + 1), some (r37.map (cp .f32))⟩, ⟨u51, some (L54.map f32)⟩, ⟨1, some (r41.map (cp .f32))⟩, ⟨u52, none⟩, ⟨1, some [i64 r44, i64 r45, oref 1 (u30 + 1) 0 r47.length]⟩]) hw17 ?_
      replace h17_ : w_FnSpectra_b8 L33 r41 L53 L54 y55 y56 v57 = some y17_ := h17_
      unfold w_FnSpectra_b8 at h17_
      refine yS ?_
      rcases oB h17_ with ⟨hc41, h17_⟩ | ⟨hc41, h17_⟩
      ·refine yW<|yl rfl (b true) (LOp.eqb (LOp.lss rfl rfl rfl) hc41)<|zN ?_
       refine yS<|yT<|RunC.skip<|yS<|RunC.block<|zQ<|ym rfl (i64 v57)<|ya rfl (i64 v57)<|zN ?_
       refine yS ?_
       obtain ⟨e58, he42, h17_⟩ := oS h17_
       obtain ⟨hm43, h17_⟩ := need_some h17_
       refine yW<|ym rfl (oref 2 u50 0 L53.length)<|ym rfl (oref 0 u29 0 L33.length)<|ym rfl (i64 v57)<|yd rfl (optr 0 u29 v57.toNat) (TOp.ixo und25 siz27 rfl rfl rfl (at_in he42 rfl) rfl)<|yd rfl (cx .f32 e58.1 e58.2) (TOp.load1_o rfl (at_cell (f := (cp .f32)) he42) agg27 rfl rfl)<|yl rfl (f32 e58.1) (LOp.real rfl rfl)<|ye rfl (oref 6 (u52 + 1) 0 1) ([⟨u29, some (L33.map (cp .f32))⟩, ⟨(u30 + 1), some (r47.map f32)⟩, ⟨u50, some (L53.map f32)⟩, ⟨(u32 + 1), some (r37.map (cp .f32))⟩, ⟨u51, some (L54.map f32)⟩, ⟨1, some (r41.map (cp .f32))⟩, ⟨(u52 + 1), some (([e58.1] : List F).map f32)⟩, ⟨1, some [i64 r44, i64 r45, oref 1 (u30 + 1) 0 r47.length]⟩]) (TOp.buildSlice_o (g := ⟨u52, none⟩) (za := f32 (some 0)) (qs := [(0, [f32 e58.1])]) 6 rfl und26 siz28 zer28 rfl zel28 rfl rfl ⟨rfl, ⟨_, ALe.refl _, rfl⟩, trivial⟩ rfl)<|ROps.app (f := f32) (xs := L53) (ys := ([e58.1] : List F)) (Γ' := [⟨u29, some (L33.map (cp .f32))⟩, ⟨(u30 + 1), some (r47.map f32)⟩, ⟨(u50 + 1), some ((L53 ++ ([e58.1] : List F)).map f32)⟩, ⟨(u32 + 1), some (r37.map (cp .f32))⟩, ⟨u51, some (L54.map f32)⟩, ⟨1, some (r41.map (cp .f32))⟩, ⟨(u52 + 1), some (([e58.1] : List F).map f32)⟩, ⟨1, some [i64 r44, i64 r45, oref 1 (u30 + 1) 0 r47.length]⟩]) rfl pun26 inf28 rfl rfl rfl rfl rfl rfl rfl rfl rfl (by simp) (ReadAs.own rfl (by simp)) (ones_map (fun _ => rfl)) (ap_by hm43) (ap_mx hm43) rfl<|ya rfl (oref 2 (u50 + 1) 0 (L53.length + 1))<|zN ?_
       refine RunC.wl (τ' := [(6, oref 0 u29 0 L33.length), (11, oref 3 (u32 + 1) 0 r37.length), (15, oref 5 1 0 r41.length), (19, optr 7 1 0), (21, oref 2 (u50 + 1) 0 (L53.length + 1)), (22, oref 4 u51 0 L54.length), (23, cx .f32 y55 y56), (24, i64 v57), (146, i64 ((L33.length : Nat) : Int)), (147, i64 v57)]) (Γ' := [⟨u29, some (L33.map (cp .f32))⟩, ⟨(u30 + 1), some (r47.map f32)⟩, ⟨(u50 + 1), some ((L53 ++ ([e58.1] : List F)).map f32)⟩, ⟨(u32 + 1), some (r37.map (cp .f32))⟩, ⟨u51, some (L54.map f32)⟩, ⟨1, some (r41.map (cp .f32))⟩, ⟨(u52 + 1), none⟩, ⟨1, some [i64 r44, i64 r45, oref 1 (u30 + 1) 0 r47.length]⟩]) ⟨aR, aR, aR, aR, aR, aR, aR, aR, aR, aR, trivial⟩ ⟨⟨rfl, .inr rfl⟩, ⟨rfl, .inr rfl⟩, ⟨rfl, .inr rfl⟩, ⟨rfl, .inr rfl⟩, ⟨rfl, .inr rfl⟩, ⟨rfl, .inr rfl⟩, ⟨rfl, .inl rfl⟩, ⟨rfl, .inr rfl⟩, trivial⟩<|yS ?_
       obtain ⟨e59, he44, h17_⟩ := oS h17_
       obtain ⟨hm45, h17_⟩ := need_some h17_
       refine yW<|ym rfl (oref 4 u51 0 L54.length)<|ym rfl (oref 5 1 0 r41.length)<|ym rfl (i64 v57)<|yd rfl (optr 5 1 v57.toNat) (TOp.ixo und25 siz27 rfl rfl rfl (at_in he44 rfl) rfl)<|yd rfl (cx .f32 e59.1 e59.2) (TOp.load1_o rfl (at_cell (f := (cp .f32)) he44) agg27 rfl rfl)<|yl rfl (f32 e59.1) (LOp.real rfl rfl)<|ye rfl (oref 6 (u52 + 2) 0 1) ([⟨u29, some (L33.map (cp .f32))⟩, ⟨(u30 + 1), some (r47.map f32)⟩, ⟨(u50 + 1), some ((L53 ++ ([e58.1] : List F)).map f32)⟩, ⟨(u32 + 1), some (r37.map (cp .f32))⟩, ⟨u51, some (L54.map f32)⟩, ⟨1, some (r41.map (cp .f32))⟩, ⟨(u52 + 2), some (([e59.1] : List F).map f32)⟩, ⟨1, some [i64 r44, i64 r45, oref 1 (u30 + 1) 0 r47.length]⟩]) (TOp.buildSlice_o (g := ⟨(u52 + 1), none⟩) (za := f32 (some 0)) (qs := [(0, [f32 e59.1])]) 6 rfl und26 siz28 zer28 rfl zel28 rfl rfl ⟨rfl, ⟨_, ALe.refl _, rfl⟩, trivial⟩ rfl)<|ROps.app (f := f32) (xs := L54) (ys := ([e59.1] : List F)) (Γ' := [⟨u29, some (L33.map (cp .f32))⟩, ⟨(u30 + 1), some (r47.map f32)⟩, ⟨(u50 + 1), some ((L53 ++ ([e58.1] : List F)).map f32)⟩, ⟨(u32 + 1), some (r37.map (cp .f32))⟩, ⟨(u51 + 1), some ((L54 ++ ([e59.1] : List F)).map f32)⟩, ⟨1, some (r41.map (cp .f32))⟩, ⟨(u52 + 2), some (([e59.1] : List F).map f32)⟩, ⟨1, some [i64 r44, i64 r45, oref 1 (u30 + 1) 0 r47.length]⟩]) rfl pun26 inf28 rfl rfl rfl rfl rfl rfl rfl rfl rfl (by simp) (ReadAs.own rfl (by simp)) (ones_map (fun _ => rfl)) (ap_by hm45) (ap_mx hm45) rfl<|ya rfl (oref 4 (u51 + 1) 0 (L54.length + 1))<|zN ?_
       refine RunC.wl (τ' := [(6, oref 0 u29 0 L33.length), (11, oref 3 (u32 + 1) 0 r37.length), (15, oref 5 1 0 r41.length), (19, optr 7 1 0), (21, oref 2 (u50 + 1) 0 (L53.length + 1)), (22, oref 4 (u51 + 1) 0 (L54.length + 1)), (23, cx .f32 y55 y56), (24, i64 v57), (146, i64 ((L33.length : Nat) : Int)), (147, i64 v57)]) (Γ' := [⟨u29, some (L33.map (cp .f32))⟩, ⟨(u30 + 1), some (r47.map f32)⟩, ⟨(u50 + 1), some ((L53 ++ ([e58.1] : List F)).map f32)⟩, ⟨(u32 + 1), some (r37.map (cp .f32))⟩, ⟨(u51 + 1), some ((L54 ++ ([e59.1] : List F)).map f32)⟩, ⟨1, some (r41.map (cp .f32))⟩, ⟨(u52 + 2), none⟩, ⟨1, some [i64 r44, i64 r45, oref 1 (u30 + 1) 0 r47.length]⟩]) ⟨aR, aR, aR, aR, aR, aR, aR, aR, aR, aR, trivial⟩ ⟨⟨rfl, .inr rfl⟩, ⟨rfl, .inr rfl⟩, ⟨rfl, .inr rfl⟩, ⟨rfl, .inr rfl⟩, ⟨rfl, .inr rfl⟩, ⟨rfl, .inr rfl⟩, ⟨rfl, .inl rfl⟩, ⟨rfl, .inr rfl⟩, trivial⟩ ?_
       obtain ⟨e60, he46, h17_⟩ := oS h17_
       refine yW<|ym rfl (cx .f32 y55 y56)<|ym rfl (oref 0 u29 0 L33.length)<|ym rfl (i64 v57)<|yd rfl (optr 0 u29 v57.toNat) (TOp.ixo und25 siz27 rfl rfl rfl (at_in he46 rfl) rfl)<|yd rfl (cx .f32 e60.1 e60.2) (TOp.load1_o rfl (at_cell (f := (cp .f32)) he46) agg27 rfl rfl)<|yd rfl (cx .f32 (fop .add .f32 y55 e60.1) (fop .add .f32 y56 e60.2)) (TOp.cadd rfl (OpC.tmp rfl) (OpC.tmp rfl))<|ya rfl (cx .f32 (fop .add .f32 y55 e60.1) (fop .add .f32 y56 e60.2))<|zN ?_
       obtain ⟨x61, hx47, h17_⟩ := oL h17_
       refine yW<|yl rfl (i64 x61) (LOp.eqr (LOp.add rfl rfl rfl) (congrArg (ik .i64) hx47))<|ym rfl (i64 x61)<|zN ?_
       cases oI h17_
       exact ⟨_, rfl, (u50 + 1), (u51 + 1), (u52 + 2), (Le.of ⟨aR, aR, aR, aR, (by first | exact ALe.refl _ | exact ALe.eq (by rw [(app_len rfl rfl)] <;> rfl) | exact ALe.eq (by simp)), (by first | exact ALe.refl _ | exact ALe.eq (by rw [(app_len rfl rfl)] <;> rfl) | exact ALe.eq (by simp)), aR, aR, aR, trivial⟩ ⟨⟨rfl, .inr rfl⟩, ⟨rfl, .inr rfl⟩, ⟨rfl, .inr rfl⟩, ⟨rfl, .inr rfl⟩, ⟨rfl, .inr rfl⟩, ⟨rfl, .inr rfl⟩, ⟨rfl, .inl rfl⟩, ⟨rfl, .inr rfl⟩, trivial⟩)⟩
      ·refine yW<|yl rfl (b false) (LOp.eqb (LOp.lss rfl rfl rfl) hc41)<|zN ?_
       refine yS<|yF<|RunC.exit ?_
       cases oI h17_
       have hx := ho17 _ rfl
       exact ⟨L53, L54, y55, y56, u50, u51, u52, (Le.of ⟨aR, aR, aR, aR, aR, trivial⟩ ⟨⟨rfl, .inl rfl⟩, ⟨rfl, .inr rfl⟩, ⟨rfl, .inr rfl⟩, ⟨rfl, .inr rfl⟩, ⟨rfl, .inr rfl⟩, ⟨rfl, .inl rfl⟩, ⟨rfl, .inl rfl⟩, ⟨rfl, .inr rfl⟩, trivial⟩), hx⟩
     ·rintro τ18 Γ18 ⟨L65, L66, y67, y68, u62, u63, u64, hw18, rfl⟩
      refine RunC.le hw18 ?_
      replace h : w_FnSpectra_k8 r37 r44 r45 r47 L65 L66 y67 y68 = some q0 := h
      unfold w_FnSpectra_k8 at h
      refine yS ?_
      obtain ⟨r69, r70, hf48, h⟩ := obind2_some h
      refine yW<|yd rfl (agg [i64 r44, i64 r45, oref 1 (u30 + 1) 0 r47.length]) (TOp.loadAgg_o rfl agg33 siz33 rfl rfl rfl rfl)<|ym rfl (oref 2 u62 0 L65.length)<|ye rfl (tup [oref 0 (u29 + 1) 0 r70.length, b r69]) ([⟨(u29 + 1), some (r70.map f32)⟩, ⟨(u30 + 1), some (r47.map f32)⟩, ⟨u62, some (L65.map f32)⟩, ⟨(u32 + 1), some (r37.map (cp .f32))⟩, ⟨u63, some (L66.map f32)⟩, ⟨1, none⟩, ⟨u64, none⟩, ⟨1, some [i64 r44, i64 r45, oref 1 (u30 + 1) 0 r47.length]⟩]) (TOp.eqr (TOp.callBN (ls := [(r70.map f32)]) [0] (CallAs.func ent15 rfl rfl) (Bors.cons (Bor.agg (bP (bP (Bors.cons (Bor.own (f := f32) (fun _ => rfl) rfl rfl) bN)))) (Bors.cons (Bor.own (f := f32) (fun _ => rfl) rfl rfl) bN)) rfl (s_TimesVector_ok r44 r45 r47 L65 r69 r70 hf48) (and_all (lts0_map (f := f32) (fun _ => rfl) _) rfl) (and_all (noss_map (f := f32) (fun _ => rfl) _) rfl) rfl (by decide) (ns_of ⟨⟨_, rfl⟩, trivial⟩)) (by simp [ren, rens, sigma, newNames]))<|ym rfl (tup [oref 0 (u29 + 1) 0 r70.length, b r69])<|yl rfl (oref 0 (u29 + 1) 0 r70.length) y3<|yl rfl (b r69) y3<|ya rfl (oref 0 (u29 + 1) 0 r70.length)<|ya rfl (b r69)<|zN ?_
      refine RunC.wl (τ' := [(11, oref 3 (u32 + 1) 0 r37.length), (22, oref 4 u63 0 L66.length), (23, cx .f32 y67 y68), (25, oref 0 (u29 + 1) 0 r70.length), (26, b r69)]) (Γ' := [⟨(u29 + 1), some (r70.map f32)⟩, ⟨(u30 + 1), none⟩, ⟨u62, none⟩, ⟨(u32 + 1), some (r37.map (cp .f32))⟩, ⟨u63, some (L66.map f32)⟩, ⟨1, none⟩, ⟨u64, none⟩, ⟨1, none⟩]) ⟨aR, aR, aR, aR, aR, trivial⟩ ⟨⟨rfl, .inr rfl⟩, ⟨rfl, .inl rfl⟩, ⟨rfl, .inl rfl⟩, ⟨rfl, .inr rfl⟩, ⟨rfl, .inr rfl⟩, ⟨rfl, .inl rfl⟩, ⟨rfl, .inl rfl⟩, ⟨rfl, .inl rfl⟩, trivial⟩<|yS<|RunC.cutN (fun τ Γ => ( Le 393 τ Γ [(4, b false)] [⟨(u29 + 1), none⟩, ⟨(u30 + 1), none⟩, ⟨u62, none⟩, ⟨(u32 + 1), none⟩, ⟨u63, none⟩, ⟨1, none⟩, ⟨u64, none⟩, ⟨1, none⟩] ∧ w_FnSpectra_k10 = some q0) ∨ (∃ (w75 : Bool), Le 393 τ Γ [(4, b w75)] [⟨(u29 + 1), none⟩, ⟨(u30 + 1), none⟩, ⟨u62, none⟩, ⟨(u32 + 1), none⟩, ⟨u63, none⟩, ⟨1, none⟩, ⟨u64, none⟩, ⟨1, none⟩] ∧ w_FnSpectra_k12 w75 = some q0)) ?_ ?_
      ·rcases oB h with ⟨hc49, h⟩ | ⟨hc49, h⟩
       ·obtain ⟨r71, hf50, h⟩ := oS h
        rcases oB h with ⟨hc51, h⟩ | ⟨hc51, h⟩
        ·refine yW<|yl rfl (b true) (yv hc49)<|ym rfl (b true)<|ym rfl (oref 0 (u29 + 1) 0 r70.length)<|ym rfl (oref 4 u63 0 L66.length)<|yd rfl (b true) (TOp.eqb (yc ent16 rfl rfl (Bors.cons (Bor.own (f := f32) (fun _ => rfl) rfl rfl) (Bors.cons (Bor.own (f := f32) (fun _ => rfl) rfl rfl) (Bors.cons (Bor.le (ALe.fl (by kernel_rfl) (by kernel_rfl)) (Bor.pure rfl)) bN))) (w_b10Far_ok r70 L66 (some 4562254508917369340) r71 hf50)) hc51)<|yl rfl (b false) y1<|yl rfl (b false) yq<|ym rfl (b false)<|ROps.s rfl rfl rfl<|ROps.s rfl rfl rfl<|ROps.s rfl rfl rfl<|ROps.s rfl rfl rfl<|ROps.s rfl rfl rfl<|ROps.s rfl rfl rfl<|ROps.s rfl rfl rfl<|ROps.s rfl rfl rfl<|yl rfl (b false) yp<|ya rfl (b false)<|zN ?_
         exact .inl ⟨(Le.of ⟨aR, trivial⟩ ⟨⟨rfl, .inl rfl⟩, ⟨rfl, .inl rfl⟩, ⟨rfl, .inl rfl⟩, ⟨rfl, .inl rfl⟩, ⟨rfl, .inl rfl⟩, ⟨rfl, .inl rfl⟩, ⟨rfl, .inl rfl⟩, ⟨rfl, .inl rfl⟩, trivial⟩), h⟩
        ·obtain ⟨e72, he52, h⟩ := oS h
         obtain ⟨r73, hf53, h⟩ := oS h
         obtain ⟨x74, hx54, h⟩ := oL h
         refine yW<|yl rfl (b true) (yv hc49)<|ym rfl (b true)<|ym rfl (oref 0 (u29 + 1) 0 r70.length)<|ym rfl (oref 4 u63 0 L66.length)<|yd rfl (b false) (TOp.eqb (yc ent16 rfl rfl (Bors.cons (Bor.own (f := f32) (fun _ => rfl) rfl rfl) (Bors.cons (Bor.own (f := f32) (fun _ => rfl) rfl rfl) (Bors.cons (Bor.le (ALe.fl (by kernel_rfl) (by kernel_rfl)) (Bor.pure rfl)) bN))) (w_b10Far_ok r70 L66 (some 4562254508917369340) r71 hf50)) hc51)<|yl rfl (b true) y0<|yl rfl (b true) yq<|ym rfl (b true)<|ym rfl (cx .f32 y67 y68)<|ym rfl (oref 3 (u32 + 1) 0 r37.length)<|yd rfl (optr 3 (u32 + 1) ((0 : Int).toNat)) (TOp.ixo und25 siz27 rfl rfl rfl (at_in he52 rfl) rfl)<|yd rfl (cx .f32 e72.1 e72.2) (TOp.load1_o rfl (at_cell (f := (cp .f32)) he52) agg27 rfl rfl)<|yd rfl (cx .f32 (fop .sub .f32 y67 e72.1) (fop .sub .f32 y68 e72.2)) (TOp.csub rfl (OpC.tmp rfl) (OpC.tmp rfl))<|yd rfl (f32 r73) (yc ent17 rfl rfl bN0 (s_LongOf_ok (fop .sub .f32 y67 e72.1) (fop .sub .f32 y68 e72.2) r73 hf53))<|yd rfl (f64 x74) (TOp.eqr (TOp.widen (src := 28) (dst := 40) ⟨_, pun28⟩ pun40 rfl (OpF.tmp rfl)) (congrArg (f .f64) hx54))<|yl rfl (b (flt .f64 x74 (some 4562254508917369340))) (LOp.flt rfl (OpF.tmp rfl) (OpF.const rfl (by kernel_rfl) (by kernel_rfl)))<|yl rfl (b (flt .f64 x74 (some 4562254508917369340))) yq<|ya rfl (b (flt .f64 x74 (some 4562254508917369340)))<|zN ?_
         exact .inr (⟨(flt .f64 x74 (some 4562254508917369340)), (Le.of ⟨aR, trivial⟩ ⟨⟨rfl, .inl rfl⟩, ⟨rfl, .inl rfl⟩, ⟨rfl, .inl rfl⟩, ⟨rfl, .inl rfl⟩, ⟨rfl, .inl rfl⟩, ⟨rfl, .inl rfl⟩, ⟨rfl, .inl rfl⟩, ⟨rfl, .inl rfl⟩, trivial⟩), h⟩)
       ·refine yW<|yl rfl (b false) (yv hc49)<|ym rfl (b false)<|ROps.s rfl rfl rfl<|ROps.s rfl rfl rfl<|ROps.s rfl rfl rfl<|ROps.s rfl rfl rfl<|yl rfl (b false) yp<|ym rfl (b false)<|ROps.s rfl rfl rfl<|ROps.s rfl rfl rfl<|ROps.s rfl rfl rfl<|ROps.s rfl rfl rfl<|ROps.s rfl rfl rfl<|ROps.s rfl rfl rfl<|ROps.s rfl rfl rfl<|ROps.s rfl rfl rfl<|yl rfl (b false) yp<|ya rfl (b false)<|zN ?_
        exact .inl ⟨(Le.of ⟨aR, trivial⟩ ⟨⟨rfl, .inl rfl⟩, ⟨rfl, .inl rfl⟩, ⟨rfl, .inl rfl⟩, ⟨rfl, .inl rfl⟩, ⟨rfl, .inl rfl⟩, ⟨rfl, .inl rfl⟩, ⟨rfl, .inl rfl⟩, ⟨rfl, .inl rfl⟩, trivial⟩), h⟩
      ·rintro τ19 Γ19 (⟨hw19, h⟩ | ⟨w75, hw19, h⟩)
       ·refine RunC.le (τ' := [(4, b false)]) (Γ' := [⟨(u29 + 1), none⟩, ⟨(u30 + 1), none⟩, ⟨u62, none⟩, ⟨(u32 + 1), none⟩, ⟨u63, none⟩, ⟨1, none⟩, ⟨u64, none⟩, ⟨1, none⟩]) hw19 ?_
        unfold w_FnSpectra_k10 at h
        refine RunC.ret ?_
        have hq := oI h
        subst q0
        exact bodyQ.pure (.inr rfl) rfl (Res.one rfl (RV.tmp rfl))
       ·refine RunC.le (τ' := [(4, b w75)]) (Γ' := [⟨(u29 + 1), none⟩, ⟨(u30 + 1), none⟩, ⟨u62, none⟩, ⟨(u32 + 1), none⟩, ⟨u63, none⟩, ⟨1, none⟩, ⟨u64, none⟩, ⟨1, none⟩]) hw19 ?_
        unfold w_FnSpectra_k12 at h
        refine RunC.ret ?_
        have hq := oI h
        subst q0
        exact bodyQ.pure (.inr rfl) rfl (Res.one rfl (RV.tmp rfl))
end
end Go.Proofs.Ytkdociaoknmgbaa
