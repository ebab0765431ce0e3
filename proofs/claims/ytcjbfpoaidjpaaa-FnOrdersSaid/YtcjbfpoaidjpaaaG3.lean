/- Generated. -/
import Derived.Test.YtcjbfpoaidjpaaaG2
namespace Go.Proofs.Ytcjbfpoaidjpaaa
open Go Go.AM Go.AM.AV
set_option maxRecDepth 20000
set_option maxHeartbeats 4000000
set_option linter.unusedVariables false
set_option linter.unusedSimpArgs false
noncomputable def w_FnOrders_k2  : Option (Bool) :=
 some false
noncomputable def w_FnOrders_b5 (x3 : Int) (r6 : List F) (r7 : List Int) (r9 : List Int) (r13 : List F) (v27 : Int) : Option (LR (Int) (Unit) (Bool)) :=
 bsel (decide (v27 < x3)) (
  obind (at? r7 v27) fun (e28 : Int) =>
  obind (at? r9 e28) fun (e29 : Int) =>
  bsel (!decide (e29 = v27)) (
   some (LR.ret false)) (
   olet (IntKind.i64.wrap (v27 * x3)) fun (x30 : Int) =>
   obind (at? r13 x30) fun (e31 : F) =>
   obind (at? r7 v27) fun (e32 : Int) =>
   olet (IntKind.i64.wrap (e32 * x3)) fun (x33 : Int) =>
   obind (at? r6 x33) fun (e34 : F) =>
   bsel (!feq .f32 e31 e34) (
    some (LR.ret false)) (
    olet (IntKind.i64.wrap (v27 + 1)) fun (x35 : Int) =>
    some (LR.next x35)))) (
  some (LR.out ()))
noncomputable def w_FnOrders_s5 (x3 : Int) (r6 : List F) (r7 : List Int) (r9 : List Int) (r13 : List F) : (Int) → Option (LR (Int) (Unit) (Bool)) := fun s => w_FnOrders_b5 x3 r6 r7 r9 r13 s
noncomputable def w_FnOrders_k11  : Option (Bool) :=
 some false
noncomputable def w_FnOrders_b14 (l62 : List F) (r67 : List F) (v72 : Int) : Option (LR (Int) (Unit) (Bool)) :=
 bsel (decide (v72 < (r67.length : Int))) (
  obind (at? l62 v72) fun (e73 : F) =>
  obind (at? r67 v72) fun (e74 : F) =>
  bsel (!feq .f32 e73 e74) (
   some (LR.ret false)) (
   olet (IntKind.i64.wrap (v72 + 1)) fun (x75 : Int) =>
   some (LR.next x75))) (
  some (LR.out ()))
noncomputable def w_FnOrders_s14 (l62 : List F) (r67 : List F) : (Int) → Option (LR (Int) (Unit) (Bool)) := fun s => w_FnOrders_b14 l62 r67 s
noncomputable def w_FnOrders_k16  : Option (Bool) :=
 some false
noncomputable def w_FnOrders_b19 (x3 : Int) (r76 : List F) (y95 : F) (v96 : Int) : Option (LR (F × Int) (F) (Bool)) :=
 bsel (decide (v96 < x3)) (
  obind (at? r76 v96) fun (e97 : F) =>
  olet (fop .add .f32 y95 e97) fun (x98 : F) =>
  olet (IntKind.i64.wrap (v96 + 1)) fun (x99 : Int) =>
  some (LR.next (x98, x99))) (
  some (LR.out y95))
noncomputable def w_FnOrders_s19 (x3 : Int) (r76 : List F) : (F × Int) → Option (LR (F × Int) (F) (Bool)) := fun s => w_FnOrders_b19 x3 r76 s.1 s.2
noncomputable def w_FnOrders_k21  : Option (Bool) :=
 some false
noncomputable def w_FnOrders_k23 (r93 : F) : Option (Bool) :=
 some (feq .f32 r93 (some 0))
noncomputable def w_FnOrders_k19 (r92 : F) (r93 : F) (r94 : Bool) (y100 : F) : Option (Bool) :=
 bsel r94 (
  bsel (feq .f32 r92 y100) (
   w_FnOrders_k23 r93) (
   w_FnOrders_k21)) (
  w_FnOrders_k21)
noncomputable def w_FnOrders_k18 (x3 : Int) (r76 : List F) : Option (Bool) :=
 obind3 (i_CarrySum r76) fun (r92 : F) (r93 : F) (r94 : Bool) =>
 obind (loopM (w_FnOrders_s19 x3 r76) (some 0, 0)) fun z => osum z (fun e => w_FnOrders_k19 r92 r93 r94 e) (fun r => some r)
noncomputable def w_FnOrders_k14 (a1 : List Int) (x3 : Int) (r48 : Int) (r49 : Int) (r51 : List F) : Option (Bool) :=
 obind (s_R8Vector a1 x3) fun (r76 : List F) =>
 obind4 (i_OuterMatrix r76 r76) fun (r77 : Int) (r78 : Int) (r79 : Bool) (r80 : List F) =>
 obind4 (i_KroneckerMatrix r48 r49 r51 2 1 ([some 1065353216, some 1073741824] : List F)) fun (r81 : Int) (r82 : Int) (r83 : Bool) (r84 : List F) =>
 obind2 (i_DotVectors r76 r76) fun (r85 : F) (r86 : Bool) =>
 obind2 (i_LongDot r76 r76) fun (r87 : F) (r88 : Bool) =>
 obind2 (i_TraceOf r77 r78 r80) fun (r89 : F) (r90 : Bool) =>
 bsel r79 (
  bsel r83 (
   bsel r86 (
    bsel r88 (
     bsel r90 (
      olet (IntKind.i64.wrap (2 * x3)) fun (x91 : Int) =>
      bsel (!decide (r81 = x91)) (
       w_FnOrders_k16) (
       bsel (!decide (r82 = x3)) (
        w_FnOrders_k16) (
        bsel (!feq .f32 r85 r87) (
         w_FnOrders_k16) (
         bsel (!feq .f32 r89 r85) (
          w_FnOrders_k16) (
          w_FnOrders_k18 x3 r76))))) (
      w_FnOrders_k16)) (
     w_FnOrders_k16)) (
    w_FnOrders_k16)) (
   w_FnOrders_k16)) (
  w_FnOrders_k16)
noncomputable def w_FnOrders_k13 (a1 : List Int) (x3 : Int) (r48 : Int) (r49 : Int) (r51 : List F) (l62 : List F) (r67 : List F) : Option (Bool) :=
 obind (loopM (w_FnOrders_s14 l62 r67) 0) fun z => osum z (fun e => w_FnOrders_k14 a1 x3 r48 r49 r51) (fun r => some r)
noncomputable def w_FnOrders_k9 (a1 : List Int) (x3 : Int) (r4 : Int) (r5 : Int) (r6 : List F) (v44 : Int) (v45 : Int) (l46 : List F) (w47 : Bool) (r48 : Int) (r49 : Int) (r50 : Bool) (r51 : List F) (v60 : Int) (v61 : Int) (l62 : List F) (w63 : Bool) : Option (Bool) :=
 obind4 (i_MulMatrices r4 r5 r6 r4 r5 r6) fun (r64 : Int) (r65 : Int) (r66 : Bool) (r67 : List F) =>
 obind2 (i_TraceOf r48 r49 r51) fun (r68 : F) (r69 : Bool) =>
 bsel w47 (
  bsel r50 (
   bsel w63 (
    bsel r66 (
     bsel r69 (
      obind (i_SameMatrix v44 v45 l46 r48 r49 r51) fun (r70 : Bool) =>
      bsel r70 (
       bsel (!decide ((l62.length : Int) = (r67.length : Int))) (
        w_FnOrders_k11) (
        olet (fint .f32 x3) fun (x71 : F) =>
        bsel (!feq .f32 r68 x71) (
         w_FnOrders_k11) (
         w_FnOrders_k13 a1 x3 r48 r49 r51 l62 r67))) (
       w_FnOrders_k11)) (
      w_FnOrders_k11)) (
     w_FnOrders_k11)) (
    w_FnOrders_k11)) (
   w_FnOrders_k11)) (
  w_FnOrders_k11)
noncomputable def w_FnOrders_k7 (a1 : List Int) (x3 : Int) (r4 : Int) (r5 : Int) (r6 : List F) (v44 : Int) (v45 : Int) (l46 : List F) (w47 : Bool) : Option (Bool) :=
 obind4 (i_UnitMatrix x3) fun (r48 : Int) (r49 : Int) (r50 : Bool) (r51 : List F) =>
 obind (i_PowerMatrix r4 r5 r6 2) (fun z => osum z (fun y => obind4 (some y) fun (r52 : Int) (r53 : Int) (r54 : Bool) (r55 : List F) =>
  w_FnOrders_k9 a1 x3 r4 r5 r6 v44 v45 l46 w47 r48 r49 r50 r51 r52 r53 r55 r54) (fun y => obind4 (some y) fun (r56 : Int) (r57 : Int) (r58 : List F) (r59 : Bool) =>
  w_FnOrders_k9 a1 x3 r4 r5 r6 v44 v45 l46 w47 r48 r49 r50 r51 r56 r57 r58 r59))
noncomputable def w_FnOrders_k5 (a1 : List Int) (x3 : Int) (r4 : Int) (r5 : Int) (r6 : List F) : Option (Bool) :=
 obind (i_PowerMatrix r4 r5 r6 0) (fun z => osum z (fun y => obind4 (some y) fun (r36 : Int) (r37 : Int) (r38 : Bool) (r39 : List F) =>
  w_FnOrders_k7 a1 x3 r4 r5 r6 r36 r37 r39 r38) (fun y => obind4 (some y) fun (r40 : Int) (r41 : Int) (r42 : List F) (r43 : Bool) =>
  w_FnOrders_k7 a1 x3 r4 r5 r6 r40 r41 r42 r43))
noncomputable def w_FnOrders_k4 (a1 : List Int) (x3 : Int) (r4 : Int) (r5 : Int) (r6 : List F) (r7 : List Int) (r9 : List Int) (r13 : List F) : Option (Bool) :=
 obind (loopM (w_FnOrders_s5 x3 r6 r7 r9 r13) 0) fun z => osum z (fun e => w_FnOrders_k5 a1 x3 r4 r5 r6) (fun r => some r)
noncomputable def w_FnOrders (a0 : List Int) (a1 : List Int) : Option (Bool) :=
 obind (w_r8Long a0 a1) fun (r1 : Bool) =>
 bsel r1 (
  some true) (
  obind (w_r8At a1 40 5) fun (r2 : Int) =>
  olet (IntKind.i64.wrap (1 + r2)) fun (x3 : Int) =>
  obind3 (s_R8Sides a0 x3 x3) fun (r4 : Int) (r5 : Int) (r6 : List F) =>
  obind (s_R8Order a1 x3) fun (r7 : List Int) =>
  obind2 (i_BackOrder r7) fun (r8 : Bool) (r9 : List Int) =>
  obind4 (i_OrderRows r4 r5 r6 r7) fun (r10 : Int) (r11 : Int) (r12 : Bool) (r13 : List F) =>
  obind4 (i_OrderRows r10 r11 r13 r9) fun (r14 : Int) (r15 : Int) (r16 : Bool) (r17 : List F) =>
  obind2 (i_OrderSign r7) fun (r18 : Int) (r19 : Bool) =>
  obind2 (i_OrderSign r9) fun (r20 : Int) (r21 : Bool) =>
  bsel r8 (
   bsel r12 (
    bsel r16 (
     bsel r19 (
      bsel r21 (
       obind (i_SameMatrix r14 r15 r17 r4 r5 r6) fun (r22 : Bool) =>
       bsel r22 (
        bsel (!decide (r18 = r20)) (
         w_FnOrders_k2) (
         bsel (!decide (r18 = 1)) (
          bsel (!decide (r18 = (-1))) (
           w_FnOrders_k2) (
           obind (i_IsOrder r7) fun (r23 : Bool) =>
           bsel r23 (
            obind (i_IsOrder r9) fun (r24 : Bool) =>
            bsel r24 (
             w_FnOrders_k4 a1 x3 r4 r5 r6 r7 r9 r13) (
             w_FnOrders_k2)) (
            w_FnOrders_k2))) (
          obind (i_IsOrder r7) fun (r25 : Bool) =>
          bsel r25 (
           obind (i_IsOrder r9) fun (r26 : Bool) =>
           bsel r26 (
            w_FnOrders_k4 a1 x3 r4 r5 r6 r7 r9 r13) (
            w_FnOrders_k2)) (
           w_FnOrders_k2)))) (
        w_FnOrders_k2)) (
       w_FnOrders_k2)) (
      w_FnOrders_k2)) (
     w_FnOrders_k2)) (
    w_FnOrders_k2)) (
   w_FnOrders_k2))
theorem w_FnOrders_ok (a0 : List Int) (a1 : List Int) (q0 : Bool) (h : w_FnOrders a0 a1 = some q0) : Ev Try.prog 6 [sl a0.length (a0.map (ik .u8)), sl a1.length (a1.map (ik .u8))] [] (b q0) [] := by
 refine Ev.start Try.func6 rfl rfl 5 (τ := [(0, sl a0.length (a0.map (ik .u8))), (1, sl a1.length (a1.map (ik .u8)))]) rfl (Γ' := [⟨0, none⟩, ⟨0, none⟩, ⟨0, none⟩, ⟨0, none⟩, ⟨0, none⟩]) rfl (n := 703) rfl (g := 0) rfl (fun _ => rfl) ?_
 unfold w_FnOrders at h
 refine zQ ?_
 refine za (r := b false) ?_
 refine zN ?_
 iterate 2 (refine RunC.seq ?_)
 obtain ⟨r1, hf1, h⟩ := obind_some h
 rcases bsel_some h with ⟨hc2, h⟩ | ⟨hc2, h⟩
 ·refine RunC.regionW ?_
  refine zm (r := sl a0.length (a0.map (ik .u8))) ?_
  refine zm (r := sl a1.length (a1.map (ik .u8))) ?_
  refine ROps.d (r := b true) (fs := []) (Γ' := [⟨0, none⟩, ⟨0, none⟩, ⟨0, none⟩, ⟨0, none⟩, ⟨0, none⟩]) rfl rfl rfl (TOp.eqb (TOp.callB (CallAs.func ent7 rfl rfl) (Bors.cons (Bor.sl (fun _ => rfl)) (Bors.cons (Bor.sl (fun _ => rfl)) Bors.nil)) rfl rfl (w_r8Long_ok a0 a1 r1 hf1)) hc2) rfl ?_
  refine zN ?_
  refine RunC.cond_true rfl rfl ?_
  refine zQ ?_
  refine za (r := b true) ?_
  refine zN ?_
  refine RunC.ret ?_
  have hq := Option.some.inj h
  subst q0
  exact bodyQ.pure (.inr rfl) rfl (Res.one rfl (RV.tmp rfl))
 ·refine RunC.regionW ?_
  refine zm (r := sl a0.length (a0.map (ik .u8))) ?_
  refine zm (r := sl a1.length (a1.map (ik .u8))) ?_
  refine ROps.d (r := b false) (fs := []) (Γ' := [⟨0, none⟩, ⟨0, none⟩, ⟨0, none⟩, ⟨0, none⟩, ⟨0, none⟩]) rfl rfl rfl (TOp.eqb (TOp.callB (CallAs.func ent7 rfl rfl) (Bors.cons (Bor.sl (fun _ => rfl)) (Bors.cons (Bor.sl (fun _ => rfl)) Bors.nil)) rfl rfl (w_r8Long_ok a0 a1 r1 hf1)) hc2) rfl ?_
  refine zN ?_
  refine RunC.cond_false rfl rfl ?_
  refine RunC.skip ?_
  refine RunC.seq ?_
  obtain ⟨r2, hf3, h⟩ := obind_some h
  obtain ⟨x3, hx4, h⟩ := olet_some h
  refine RunC.regionW ?_
  refine zm (r := sl a1.length (a1.map (ik .u8))) ?_
  refine ROps.d (r := i64 r2) (fs := []) (Γ' := [⟨0, none⟩, ⟨0, none⟩, ⟨0, none⟩, ⟨0, none⟩, ⟨0, none⟩]) rfl rfl rfl (TOp.callB (CallAs.func ent9 rfl rfl) (Bors.cons (Bor.sl (fun _ => rfl)) (Bors.cons (Bor.pure rfl) (Bors.cons (Bor.pure rfl) Bors.nil))) rfl rfl (w_r8At_ok a1 40 5 r2 hf3)) rfl ?_
  refine zl (r := i64 x3) (LOp.eqr (LOp.add rfl rfl rfl) (congrArg (ik .i64) hx4)) ?_
  refine za (r := i64 x3) ?_
  refine zN ?_
  refine RunC.seq ?_
  obtain ⟨r4, r5, r6, hf5, h⟩ := obind3_some h
  refine RunC.regionW ?_
  refine zm (r := sl a0.length (a0.map (ik .u8))) ?_
  iterate 2 (refine zm (r := i64 x3) ?_)
  refine ROps.d (r := agg (mXc r4 r5 r6)) (fs := []) (Γ' := [⟨0, none⟩, ⟨0, none⟩, ⟨0, none⟩, ⟨0, none⟩, ⟨0, none⟩]) rfl rfl rfl (TOp.callS (CallAs.func ent10 rfl rfl) (ALes.cons aR (ALes.cons aR (ALes.cons aR ALes.nil))) (lts_cons (lt_sl (fun _ => rfl)) (lts_cons rfl (lts_cons rfl lts_nil))) (lt_agg (lts_cons rfl (lts_cons rfl (lts_cons (lt_sl (fun _ => rfl)) lts_nil)))) (s_R8Sides_ok a0 x3 x3 r4 r5 r6 hf5) (Bor.agg (Bors.cons (Bor.pure rfl) (Bors.cons (Bor.pure rfl) (Bors.cons (Bor.own (f := f32) (fun _ => rfl) rfl rfl) Bors.nil))))) rfl ?_
  refine ROps.d (r := optr 0 1 0) (fs := [(0, zMx)]) (Γ' := [⟨1, some zMx⟩, ⟨0, none⟩, ⟨0, none⟩, ⟨0, none⟩, ⟨0, none⟩]) rfl rfl rfl (TOp.alloc_o (g := ⟨0, none⟩) 0 rfl zer26 zok26 rfl) rfl ?_
  refine ROps.store_le (r := agg (mXc r4 r5 r6)) (l' := (mXc r4 r5 r6)) (Γ' := [⟨1, some (mXc r4 r5 r6)⟩, ⟨0, none⟩, ⟨0, none⟩, ⟨0, none⟩, ⟨0, none⟩]) rfl siz26 rfl rfl rfl aR rfl rfl rfl rfl (Nat.le_of_ble_eq_true rfl) rfl rfl ?_
  refine zN ?_
  refine RunC.seq ?_
  obtain ⟨r7, hf6, h⟩ := obind_some h
  refine RunC.regionW ?_
  refine zm (r := sl a1.length (a1.map (ik .u8))) ?_
  refine zm (r := i64 x3) ?_
  refine ROps.d (r := sl r7.length (r7.map i64)) (fs := []) (Γ' := [⟨1, some (mXc r4 r5 r6)⟩, ⟨0, none⟩, ⟨0, none⟩, ⟨0, none⟩, ⟨0, none⟩]) rfl rfl rfl (TOp.callS (CallAs.func ent40 rfl rfl) (ALes.cons aR (ALes.cons aR ALes.nil)) (lts_cons (lt_sl (fun _ => rfl)) (lts_cons rfl lts_nil)) (lt_sl (fun _ => rfl)) (s_R8Order_ok a1 x3 r7 hf6) (Bor.own (f := i64) (fun _ => rfl) rfl rfl)) rfl ?_
  refine za (r := sl r7.length (r7.map i64)) ?_
  refine zN ?_
  refine RunC.seq ?_
  obtain ⟨r8, r9, hf7, h⟩ := obind2_some h
  refine RunC.regionW ?_
  refine zm (r := sl r7.length (r7.map i64)) ?_
  refine ROps.d (r := tup [sl r9.length (r9.map i64), b r8]) (fs := []) (Γ' := [⟨1, some (mXc r4 r5 r6)⟩, ⟨0, none⟩, ⟨0, none⟩, ⟨0, none⟩, ⟨0, none⟩]) rfl rfl rfl (TOp.callS (CallAs.func ent41 rfl rfl) (ALes.cons aR ALes.nil) (lts_cons (lt_sl (fun _ => rfl)) lts_nil) (lt_tup (lts_cons (lt_sl (fun _ => rfl)) (lts_cons rfl lts_nil))) (i_BackOrder_ok r7 r8 r9 hf7) (Bor.tup (Bors.cons (Bor.own (f := i64) (fun _ => rfl) rfl rfl) (Bors.cons (Bor.pure rfl) Bors.nil)))) rfl ?_
  refine zm (r := tup [sl r9.length (r9.map i64), b r8]) ?_
  refine zl (r := sl r9.length (r9.map i64)) (LOp.extract rfl rfl rfl) ?_
  refine zl (r := b r8) (LOp.extract rfl rfl rfl) ?_
  refine za (r := sl r9.length (r9.map i64)) ?_
  refine za (r := b r8) ?_
  refine zN ?_
  refine RunC.seq ?_
  obtain ⟨r10, r11, r12, r13, hf8, h⟩ := obind4_some h
  refine RunC.regionW ?_
  refine ROps.d (r := agg (mXc r4 r5 r6)) (fs := []) (Γ' := [⟨1, some (mXc r4 r5 r6)⟩, ⟨0, none⟩, ⟨0, none⟩, ⟨0, none⟩, ⟨0, none⟩]) rfl rfl rfl (TOp.loadAgg_o rfl agg26 siz26 rfl rfl rfl rfl) rfl ?_
  refine zm (r := sl r7.length (r7.map i64)) ?_
  refine ROps.d (r := tup [agg (mXc r10 r11 r13), b r12]) (fs := []) (Γ' := [⟨1, some (mXc r4 r5 r6)⟩, ⟨0, none⟩, ⟨0, none⟩, ⟨0, none⟩, ⟨0, none⟩]) rfl rfl rfl (TOp.callS (CallAs.func ent42 rfl rfl) (ALes.cons aR (ALes.cons aR ALes.nil)) (lts_cons (lt_agg (lts_cons rfl (lts_cons rfl (lts_cons (lt_sl (fun _ => rfl)) lts_nil)))) (lts_cons (lt_sl (fun _ => rfl)) lts_nil)) (lt_tup (lts_cons (lt_agg (lts_cons rfl (lts_cons rfl (lts_cons (lt_sl (fun _ => rfl)) lts_nil)))) (lts_cons rfl lts_nil))) (i_OrderRows_ok r4 r5 r6 r7 r10 r11 r12 r13 hf8) (Bor.tup (Bors.cons (Bor.agg (Bors.cons (Bor.pure rfl) (Bors.cons (Bor.pure rfl) (Bors.cons (Bor.own (f := f32) (fun _ => rfl) rfl rfl) Bors.nil)))) (Bors.cons (Bor.pure rfl) Bors.nil)))) rfl ?_
  refine zm (r := tup [agg (mXc r10 r11 r13), b r12]) ?_
  refine zl (r := agg (mXc r10 r11 r13)) (LOp.extract rfl rfl rfl) ?_
  refine zl (r := b r12) (LOp.extract rfl rfl rfl) ?_
  refine ROps.d (r := optr 1 1 0) (fs := [(1, zMx)]) (Γ' := [⟨1, some (mXc r4 r5 r6)⟩, ⟨1, some zMx⟩, ⟨0, none⟩, ⟨0, none⟩, ⟨0, none⟩]) rfl rfl rfl (TOp.alloc_o (g := ⟨0, none⟩) 1 rfl zer26 zok26 rfl) rfl ?_
  refine ROps.store_le (r := agg (mXc r10 r11 r13)) (l' := (mXc r10 r11 r13)) (Γ' := [⟨1, some (mXc r4 r5 r6)⟩, ⟨1, some (mXc r10 r11 r13)⟩, ⟨0, none⟩, ⟨0, none⟩, ⟨0, none⟩]) rfl siz26 rfl rfl rfl aR rfl rfl rfl rfl (Nat.le_of_ble_eq_true rfl) rfl rfl ?_
  refine za (r := b r12) ?_
  refine zN ?_
  refine RunC.seq ?_
  obtain ⟨r14, r15, r16, r17, hf9, h⟩ := obind4_some h
  refine RunC.regionW ?_
  refine ROps.d (r := agg (mXc r10 r11 r13)) (fs := []) (Γ' := [⟨1, some (mXc r4 r5 r6)⟩, ⟨1, some (mXc r10 r11 r13)⟩, ⟨0, none⟩, ⟨0, none⟩, ⟨0, none⟩]) rfl rfl rfl (TOp.loadAgg_o rfl agg26 siz26 rfl rfl rfl rfl) rfl ?_
  refine zm (r := sl r9.length (r9.map i64)) ?_
  refine ROps.d (r := tup [agg (mXc r14 r15 r17), b r16]) (fs := []) (Γ' := [⟨1, some (mXc r4 r5 r6)⟩, ⟨1, some (mXc r10 r11 r13)⟩, ⟨0, none⟩, ⟨0, none⟩, ⟨0, none⟩]) rfl rfl rfl (TOp.callS (CallAs.func ent42 rfl rfl) (ALes.cons aR (ALes.cons aR ALes.nil)) (lts_cons (lt_agg (lts_cons rfl (lts_cons rfl (lts_cons (lt_sl (fun _ => rfl)) lts_nil)))) (lts_cons (lt_sl (fun _ => rfl)) lts_nil)) (lt_tup (lts_cons (lt_agg (lts_cons rfl (lts_cons rfl (lts_cons (lt_sl (fun _ => rfl)) lts_nil)))) (lts_cons rfl lts_nil))) (i_OrderRows_ok r10 r11 r13 r9 r14 r15 r16 r17 hf9) (Bor.tup (Bors.cons (Bor.agg (Bors.cons (Bor.pure rfl) (Bors.cons (Bor.pure rfl) (Bors.cons (Bor.own (f := f32) (fun _ => rfl) rfl rfl) Bors.nil)))) (Bors.cons (Bor.pure rfl) Bors.nil)))) rfl ?_
  refine zm (r := tup [agg (mXc r14 r15 r17), b r16]) ?_
  refine zl (r := agg (mXc r14 r15 r17)) (LOp.extract rfl rfl rfl) ?_
  refine zl (r := b r16) (LOp.extract rfl rfl rfl) ?_
  refine ROps.d (r := optr 2 1 0) (fs := [(2, zMx)]) (Γ' := [⟨1, some (mXc r4 r5 r6)⟩, ⟨1, some (mXc r10 r11 r13)⟩, ⟨1, some zMx⟩, ⟨0, none⟩, ⟨0, none⟩]) rfl rfl rfl (TOp.alloc_o (g := ⟨0, none⟩) 2 rfl zer26 zok26 rfl) rfl ?_
  refine ROps.store_le (r := agg (mXc r14 r15 r17)) (l' := (mXc r14 r15 r17)) (Γ' := [⟨1, some (mXc r4 r5 r6)⟩, ⟨1, some (mXc r10 r11 r13)⟩, ⟨1, some (mXc r14 r15 r17)⟩, ⟨0, none⟩, ⟨0, none⟩]) rfl siz26 rfl rfl rfl aR rfl rfl rfl rfl (Nat.le_of_ble_eq_true rfl) rfl rfl ?_
  refine za (r := b r16) ?_
  refine zN ?_
  refine RunC.seq ?_
  obtain ⟨r18, r19, hf10, h⟩ := obind2_some h
  refine RunC.regionW ?_
  refine zm (r := sl r7.length (r7.map i64)) ?_
  refine ROps.d (r := tup [i64 r18, b r19]) (fs := []) (Γ' := [⟨1, some (mXc r4 r5 r6)⟩, ⟨1, some (mXc r10 r11 r13)⟩, ⟨1, some (mXc r14 r15 r17)⟩, ⟨0, none⟩, ⟨0, none⟩]) rfl rfl rfl (TOp.callB (CallAs.func ent43 rfl rfl) (Bors.cons (Bor.sl (fun _ => rfl)) Bors.nil) rfl rfl (i_OrderSign_ok r7 r18 r19 hf10)) rfl ?_
  refine zm (r := tup [i64 r18, b r19]) ?_
  refine zl (r := i64 r18) (LOp.extract rfl rfl rfl) ?_
  refine zl (r := b r19) (LOp.extract rfl rfl rfl) ?_
  refine za (r := i64 r18) ?_
  refine za (r := b r19) ?_
  refine zN ?_
  refine RunC.seq ?_
  obtain ⟨r20, r21, hf11, h⟩ := obind2_some h
  refine RunC.regionW ?_
  refine zm (r := sl r9.length (r9.map i64)) ?_
  refine ROps.d (r := tup [i64 r20, b r21]) (fs := []) (Γ' := [⟨1, some (mXc r4 r5 r6)⟩, ⟨1, some (mXc r10 r11 r13)⟩, ⟨1, some (mXc r14 r15 r17)⟩, ⟨0, none⟩, ⟨0, none⟩]) rfl rfl rfl (TOp.callB (CallAs.func ent43 rfl rfl) (Bors.cons (Bor.sl (fun _ => rfl)) Bors.nil) rfl rfl (i_OrderSign_ok r9 r20 r21 hf11)) rfl ?_
  refine zm (r := tup [i64 r20, b r21]) ?_
  refine zl (r := i64 r20) (LOp.extract rfl rfl rfl) ?_
  refine zl (r := b r21) (LOp.extract rfl rfl rfl) ?_
  refine za (r := i64 r20) ?_
  refine za (r := b r21) ?_
  refine zN ?_
  iterate 2 (refine RunC.seq ?_)
  refine RunC.cutN (fun τ Γ => ( Le 703 τ Γ [(1, sl a1.length (a1.map (ik .u8))), (5, i64 x3), (6, optr 0 1 0), (7, sl r7.length (r7.map i64)), (8, sl r9.length (r9.map i64)), (10, optr 1 1 0), (132, b true)] [⟨1, some (mXc r4 r5 r6)⟩, ⟨1, some (mXc r10 r11 r13)⟩, ⟨1, none⟩, ⟨0, none⟩, ⟨0, none⟩] ∧ w_FnOrders_k2 = some q0) ∨ ( Le 703 τ Γ [(1, sl a1.length (a1.map (ik .u8))), (5, i64 x3), (6, optr 0 1 0), (7, sl r7.length (r7.map i64)), (8, sl r9.length (r9.map i64)), (10, optr 1 1 0), (132, b false)] [⟨1, some (mXc r4 r5 r6)⟩, ⟨1, some (mXc r10 r11 r13)⟩, ⟨1, none⟩, ⟨0, none⟩, ⟨0, none⟩] ∧ w_FnOrders_k4 a1 x3 r4 r5 r6 r7 r9 r13 = some q0)) ?_ ?_
  ·rcases bsel_some h with ⟨hc12, h⟩ | ⟨hc12, h⟩
   ·rcases bsel_some h with ⟨hc13, h⟩ | ⟨hc13, h⟩
    ·rcases bsel_some h with ⟨hc14, h⟩ | ⟨hc14, h⟩
     ·rcases bsel_some h with ⟨hc15, h⟩ | ⟨hc15, h⟩
      ·rcases bsel_some h with ⟨hc16, h⟩ | ⟨hc16, h⟩
       ·obtain ⟨r22, hf17, h⟩ := obind_some h
        rcases bsel_some h with ⟨hc18, h⟩ | ⟨hc18, h⟩
        ·rcases bsel_some h with ⟨hc19, h⟩ | ⟨hc19, h⟩
         ·refine RunC.regionW ?_
          refine zl (r := b true) (LOp.eqb (LOp.move rfl rfl) hc12) ?_
          refine zl (r := b false) (LOp.eqb (LOp.not rfl rfl) rfl) ?_
          refine zm (r := b false) ?_
          refine zl (r := b true) (LOp.eqb (LOp.move rfl rfl) hc13) ?_
          refine zl (r := b false) (LOp.eqb (LOp.not rfl rfl) rfl) ?_
          refine zl (r := b false) (LOp.pick_false rfl rfl rfl) ?_
          refine zm (r := b false) ?_
          refine zl (r := b true) (LOp.eqb (LOp.move rfl rfl) hc14) ?_
          refine zl (r := b false) (LOp.eqb (LOp.not rfl rfl) rfl) ?_
          refine zl (r := b false) (LOp.pick_false rfl rfl rfl) ?_
          refine zm (r := b false) ?_
          refine zl (r := b true) (LOp.eqb (LOp.move rfl rfl) hc15) ?_
          refine zl (r := b false) (LOp.eqb (LOp.not rfl rfl) rfl) ?_
          refine zl (r := b false) (LOp.pick_false rfl rfl rfl) ?_
          refine zm (r := b false) ?_
          refine zl (r := b true) (LOp.eqb (LOp.move rfl rfl) hc16) ?_
          refine zl (r := b false) (LOp.eqb (LOp.not rfl rfl) rfl) ?_
          refine zl (r := b false) (LOp.pick_false rfl rfl rfl) ?_
          refine zm (r := b false) ?_
          refine ROps.d (r := agg (mXc r14 r15 r17)) (fs := []) (Γ' := [⟨1, some (mXc r4 r5 r6)⟩, ⟨1, some (mXc r10 r11 r13)⟩, ⟨1, some (mXc r14 r15 r17)⟩, ⟨0, none⟩, ⟨0, none⟩]) rfl rfl rfl (TOp.loadAgg_o rfl agg26 siz26 rfl rfl rfl rfl) rfl ?_
          refine ROps.d (r := agg (mXc r4 r5 r6)) (fs := []) (Γ' := [⟨1, some (mXc r4 r5 r6)⟩, ⟨1, some (mXc r10 r11 r13)⟩, ⟨1, some (mXc r14 r15 r17)⟩, ⟨0, none⟩, ⟨0, none⟩]) rfl rfl rfl (TOp.loadAgg_o rfl agg26 siz26 rfl rfl rfl rfl) rfl ?_
          refine ROps.d (r := b true) (fs := []) (Γ' := [⟨1, some (mXc r4 r5 r6)⟩, ⟨1, some (mXc r10 r11 r13)⟩, ⟨1, some (mXc r14 r15 r17)⟩, ⟨0, none⟩, ⟨0, none⟩]) rfl rfl rfl (TOp.eqb (TOp.callB (CallAs.func ent16 rfl rfl) (Bors.cons (Bor.agg (Bors.cons (Bor.pure rfl) (Bors.cons (Bor.pure rfl) (Bors.cons (Bor.sl (fun _ => rfl)) Bors.nil)))) (Bors.cons (Bor.agg (Bors.cons (Bor.pure rfl) (Bors.cons (Bor.pure rfl) (Bors.cons (Bor.sl (fun _ => rfl)) Bors.nil)))) Bors.nil)) rfl rfl (i_SameMatrix_ok r14 r15 r17 r4 r5 r6 r22 hf17)) hc18) rfl ?_
          refine zl (r := b false) (LOp.eqb (LOp.not rfl rfl) rfl) ?_
          refine zl (r := b false) (LOp.pick_false rfl rfl rfl) ?_
          refine zm (r := b false) ?_
          refine zm (r := i64 r18) ?_
          refine zm (r := i64 r20) ?_
          refine zl (r := b true) (LOp.eqb (LOp.neq rfl rfl rfl) hc19) ?_
          refine zl (r := b true) (LOp.pick_false rfl rfl rfl) ?_
          refine zm (r := b true) ?_
          iterate 6 (refine ROps.s rfl rfl rfl ?_)
          iterate 2 (refine zl (r := b true) (LOp.pick_true rfl rfl rfl) ?_; refine zm (r := b true) ?_; refine ROps.s rfl rfl rfl ?_; refine ROps.s rfl rfl rfl ?_; refine ROps.s rfl rfl rfl ?_)
          refine zl (r := b true) (LOp.pick_true rfl rfl rfl) ?_
          refine zN ?_
          exact .inl ⟨(Le.of ⟨aR, aR, aR, aR, aR, aR, aR, trivial⟩ ⟨⟨rfl, .inr rfl⟩, ⟨rfl, .inr rfl⟩, ⟨rfl, .inl rfl⟩, ⟨rfl, .inr rfl⟩, ⟨rfl, .inr rfl⟩, trivial⟩), h⟩
         ·rcases bsel_some h with ⟨hc20, h⟩ | ⟨hc20, h⟩
          ·rcases bsel_some h with ⟨hc21, h⟩ | ⟨hc21, h⟩
           ·refine RunC.regionW ?_
            refine zl (r := b true) (LOp.eqb (LOp.move rfl rfl) hc12) ?_
            refine zl (r := b false) (LOp.eqb (LOp.not rfl rfl) rfl) ?_
            refine zm (r := b false) ?_
            refine zl (r := b true) (LOp.eqb (LOp.move rfl rfl) hc13) ?_
            refine zl (r := b false) (LOp.eqb (LOp.not rfl rfl) rfl) ?_
            refine zl (r := b false) (LOp.pick_false rfl rfl rfl) ?_
            refine zm (r := b false) ?_
            refine zl (r := b true) (LOp.eqb (LOp.move rfl rfl) hc14) ?_
            refine zl (r := b false) (LOp.eqb (LOp.not rfl rfl) rfl) ?_
            refine zl (r := b false) (LOp.pick_false rfl rfl rfl) ?_
            refine zm (r := b false) ?_
            refine zl (r := b true) (LOp.eqb (LOp.move rfl rfl) hc15) ?_
            refine zl (r := b false) (LOp.eqb (LOp.not rfl rfl) rfl) ?_
            refine zl (r := b false) (LOp.pick_false rfl rfl rfl) ?_
            refine zm (r := b false) ?_
            refine zl (r := b true) (LOp.eqb (LOp.move rfl rfl) hc16) ?_
            refine zl (r := b false) (LOp.eqb (LOp.not rfl rfl) rfl) ?_
            refine zl (r := b false) (LOp.pick_false rfl rfl rfl) ?_
            refine zm (r := b false) ?_
            refine ROps.d (r := agg (mXc r14 r15 r17)) (fs := []) (Γ' := [⟨1, some (mXc r4 r5 r6)⟩, ⟨1, some (mXc r10 r11 r13)⟩, ⟨1, some (mXc r14 r15 r17)⟩, ⟨0, none⟩, ⟨0, none⟩]) rfl rfl rfl (TOp.loadAgg_o rfl agg26 siz26 rfl rfl rfl rfl) rfl ?_
            refine ROps.d (r := agg (mXc r4 r5 r6)) (fs := []) (Γ' := [⟨1, some (mXc r4 r5 r6)⟩, ⟨1, some (mXc r10 r11 r13)⟩, ⟨1, some (mXc r14 r15 r17)⟩, ⟨0, none⟩, ⟨0, none⟩]) rfl rfl rfl (TOp.loadAgg_o rfl agg26 siz26 rfl rfl rfl rfl) rfl ?_
            refine ROps.d (r := b true) (fs := []) (Γ' := [⟨1, some (mXc r4 r5 r6)⟩, ⟨1, some (mXc r10 r11 r13)⟩, ⟨1, some (mXc r14 r15 r17)⟩, ⟨0, none⟩, ⟨0, none⟩]) rfl rfl rfl (TOp.eqb (TOp.callB (CallAs.func ent16 rfl rfl) (Bors.cons (Bor.agg (Bors.cons (Bor.pure rfl) (Bors.cons (Bor.pure rfl) (Bors.cons (Bor.sl (fun _ => rfl)) Bors.nil)))) (Bors.cons (Bor.agg (Bors.cons (Bor.pure rfl) (Bors.cons (Bor.pure rfl) (Bors.cons (Bor.sl (fun _ => rfl)) Bors.nil)))) Bors.nil)) rfl rfl (i_SameMatrix_ok r14 r15 r17 r4 r5 r6 r22 hf17)) hc18) rfl ?_
            refine zl (r := b false) (LOp.eqb (LOp.not rfl rfl) rfl) ?_
            refine zl (r := b false) (LOp.pick_false rfl rfl rfl) ?_
            refine zm (r := b false) ?_
            refine zm (r := i64 r18) ?_
            refine zm (r := i64 r20) ?_
            refine zl (r := b false) (LOp.eqb (LOp.neq rfl rfl rfl) hc19) ?_
            refine zl (r := b false) (LOp.pick_false rfl rfl rfl) ?_
            refine zm (r := b false) ?_
            refine zm (r := i64 r18) ?_
            refine zl (r := b true) (LOp.eqb (LOp.neq rfl rfl rfl) hc20) ?_
            refine zm (r := b true) ?_
            refine zm (r := i64 r18) ?_
            refine zl (r := b true) (LOp.eqb (LOp.neq rfl rfl rfl) hc21) ?_
            refine zl (r := b true) (LOp.pick_true rfl rfl rfl) ?_
            refine zl (r := b true) (LOp.pick_false rfl rfl rfl) ?_
            iterate 2 (refine zm (r := b true) ?_; refine ROps.s rfl rfl rfl ?_; refine ROps.s rfl rfl rfl ?_; refine ROps.s rfl rfl rfl ?_; refine zl (r := b true) (LOp.pick_true rfl rfl rfl) ?_)
            refine zN ?_
            exact .inl ⟨(Le.of ⟨aR, aR, aR, aR, aR, aR, aR, trivial⟩ ⟨⟨rfl, .inr rfl⟩, ⟨rfl, .inr rfl⟩, ⟨rfl, .inl rfl⟩, ⟨rfl, .inr rfl⟩, ⟨rfl, .inr rfl⟩, trivial⟩), h⟩
           ·obtain ⟨r23, hf22, h⟩ := obind_some h
            rcases bsel_some h with ⟨hc23, h⟩ | ⟨hc23, h⟩
            ·obtain ⟨r24, hf24, h⟩ := obind_some h
             rcases bsel_some h with ⟨hc25, h⟩ | ⟨hc25, h⟩
             ·refine RunC.regionW ?_
              refine zl (r := b true) (LOp.eqb (LOp.move rfl rfl) hc12) ?_
              refine zl (r := b false) (LOp.eqb (LOp.not rfl rfl) rfl) ?_
              refine zm (r := b false) ?_
              refine zl (r := b true) (LOp.eqb (LOp.move rfl rfl) hc13) ?_
              refine zl (r := b false) (LOp.eqb (LOp.not rfl rfl) rfl) ?_
              refine zl (r := b false) (LOp.pick_false rfl rfl rfl) ?_
              refine zm (r := b false) ?_
              refine zl (r := b true) (LOp.eqb (LOp.move rfl rfl) hc14) ?_
              refine zl (r := b false) (LOp.eqb (LOp.not rfl rfl) rfl) ?_
              refine zl (r := b false) (LOp.pick_false rfl rfl rfl) ?_
              refine zm (r := b false) ?_
              refine zl (r := b true) (LOp.eqb (LOp.move rfl rfl) hc15) ?_
              refine zl (r := b false) (LOp.eqb (LOp.not rfl rfl) rfl) ?_
              refine zl (r := b false) (LOp.pick_false rfl rfl rfl) ?_
              refine zm (r := b false) ?_
              refine zl (r := b true) (LOp.eqb (LOp.move rfl rfl) hc16) ?_
              refine zl (r := b false) (LOp.eqb (LOp.not rfl rfl) rfl) ?_
              refine zl (r := b false) (LOp.pick_false rfl rfl rfl) ?_
              refine zm (r := b false) ?_
              refine ROps.d (r := agg (mXc r14 r15 r17)) (fs := []) (Γ' := [⟨1, some (mXc r4 r5 r6)⟩, ⟨1, some (mXc r10 r11 r13)⟩, ⟨1, some (mXc r14 r15 r17)⟩, ⟨0, none⟩, ⟨0, none⟩]) rfl rfl rfl (TOp.loadAgg_o rfl agg26 siz26 rfl rfl rfl rfl) rfl ?_
              refine ROps.d (r := agg (mXc r4 r5 r6)) (fs := []) (Γ' := [⟨1, some (mXc r4 r5 r6)⟩, ⟨1, some (mXc r10 r11 r13)⟩, ⟨1, some (mXc r14 r15 r17)⟩, ⟨0, none⟩, ⟨0, none⟩]) rfl rfl rfl (TOp.loadAgg_o rfl agg26 siz26 rfl rfl rfl rfl) rfl ?_
              refine ROps.d (r := b true) (fs := []) (Γ' := [⟨1, some (mXc r4 r5 r6)⟩, ⟨1, some (mXc r10 r11 r13)⟩, ⟨1, some (mXc r14 r15 r17)⟩, ⟨0, none⟩, ⟨0, none⟩]) rfl rfl rfl (TOp.eqb (TOp.callB (CallAs.func ent16 rfl rfl) (Bors.cons (Bor.agg (Bors.cons (Bor.pure rfl) (Bors.cons (Bor.pure rfl) (Bors.cons (Bor.sl (fun _ => rfl)) Bors.nil)))) (Bors.cons (Bor.agg (Bors.cons (Bor.pure rfl) (Bors.cons (Bor.pure rfl) (Bors.cons (Bor.sl (fun _ => rfl)) Bors.nil)))) Bors.nil)) rfl rfl (i_SameMatrix_ok r14 r15 r17 r4 r5 r6 r22 hf17)) hc18) rfl ?_
              refine zl (r := b false) (LOp.eqb (LOp.not rfl rfl) rfl) ?_
              refine zl (r := b false) (LOp.pick_false rfl rfl rfl) ?_
              refine zm (r := b false) ?_
              refine zm (r := i64 r18) ?_
              refine zm (r := i64 r20) ?_
              refine zl (r := b false) (LOp.eqb (LOp.neq rfl rfl rfl) hc19) ?_
              refine zl (r := b false) (LOp.pick_false rfl rfl rfl) ?_
              refine zm (r := b false) ?_
              refine zm (r := i64 r18) ?_
              refine zl (r := b true) (LOp.eqb (LOp.neq rfl rfl rfl) hc20) ?_
              refine zm (r := b true) ?_
              refine zm (r := i64 r18) ?_
              refine zl (r := b false) (LOp.eqb (LOp.neq rfl rfl rfl) hc21) ?_
              refine zl (r := b false) (LOp.pick_true rfl rfl rfl) ?_
              refine zl (r := b false) (LOp.pick_false rfl rfl rfl) ?_
              refine zm (r := b false) ?_
              refine zm (r := sl r7.length (r7.map i64)) ?_
              refine ROps.d (r := b true) (fs := []) (Γ' := [⟨1, some (mXc r4 r5 r6)⟩, ⟨1, some (mXc r10 r11 r13)⟩, ⟨1, some (mXc r14 r15 r17)⟩, ⟨0, none⟩, ⟨0, none⟩]) rfl rfl rfl (TOp.eqb (TOp.callB (CallAs.func ent44 rfl rfl) (Bors.cons (Bor.sl (fun _ => rfl)) Bors.nil) rfl rfl (i_IsOrder_ok r7 r23 hf22)) hc23) rfl ?_
              refine zl (r := b false) (LOp.eqb (LOp.not rfl rfl) rfl) ?_
              refine zl (r := b false) (LOp.pick_false rfl rfl rfl) ?_
              refine zm (r := b false) ?_
              refine zm (r := sl r9.length (r9.map i64)) ?_
              refine ROps.d (r := b true) (fs := []) (Γ' := [⟨1, some (mXc r4 r5 r6)⟩, ⟨1, some (mXc r10 r11 r13)⟩, ⟨1, some (mXc r14 r15 r17)⟩, ⟨0, none⟩, ⟨0, none⟩]) rfl rfl rfl (TOp.eqb (TOp.callB (CallAs.func ent44 rfl rfl) (Bors.cons (Bor.sl (fun _ => rfl)) Bors.nil) rfl rfl (i_IsOrder_ok r9 r24 hf24)) hc25) rfl ?_
              refine zl (r := b false) (LOp.eqb (LOp.not rfl rfl) rfl) ?_
              refine zl (r := b false) (LOp.pick_false rfl rfl rfl) ?_
              refine zN ?_
              exact .inr (⟨(Le.of ⟨aR, aR, aR, aR, aR, aR, aR, trivial⟩ ⟨⟨rfl, .inr rfl⟩, ⟨rfl, .inr rfl⟩, ⟨rfl, .inl rfl⟩, ⟨rfl, .inr rfl⟩, ⟨rfl, .inr rfl⟩, trivial⟩), h⟩)
             ·refine RunC.regionW ?_
              refine zl (r := b true) (LOp.eqb (LOp.move rfl rfl) hc12) ?_
              refine zl (r := b false) (LOp.eqb (LOp.not rfl rfl) rfl) ?_
              refine zm (r := b false) ?_
              refine zl (r := b true) (LOp.eqb (LOp.move rfl rfl) hc13) ?_
              refine zl (r := b false) (LOp.eqb (LOp.not rfl rfl) rfl) ?_
              refine zl (r := b false) (LOp.pick_false rfl rfl rfl) ?_
              refine zm (r := b false) ?_
              refine zl (r := b true) (LOp.eqb (LOp.move rfl rfl) hc14) ?_
              refine zl (r := b false) (LOp.eqb (LOp.not rfl rfl) rfl) ?_
              refine zl (r := b false) (LOp.pick_false rfl rfl rfl) ?_
              refine zm (r := b false) ?_
              refine zl (r := b true) (LOp.eqb (LOp.move rfl rfl) hc15) ?_
              refine zl (r := b false) (LOp.eqb (LOp.not rfl rfl) rfl) ?_
              refine zl (r := b false) (LOp.pick_false rfl rfl rfl) ?_
              refine zm (r := b false) ?_
              refine zl (r := b true) (LOp.eqb (LOp.move rfl rfl) hc16) ?_
              refine zl (r := b false) (LOp.eqb (LOp.not rfl rfl) rfl) ?_
              refine zl (r := b false) (LOp.pick_false rfl rfl rfl) ?_
              refine zm (r := b false) ?_
              refine ROps.d (r := agg (mXc r14 r15 r17)) (fs := []) (Γ' := [⟨1, some (mXc r4 r5 r6)⟩, ⟨1, some (mXc r10 r11 r13)⟩, ⟨1, some (mXc r14 r15 r17)⟩, ⟨0, none⟩, ⟨0, none⟩]) rfl rfl rfl (TOp.loadAgg_o rfl agg26 siz26 rfl rfl rfl rfl) rfl ?_
              refine ROps.d (r := agg (mXc r4 r5 r6)) (fs := []) (Γ' := [⟨1, some (mXc r4 r5 r6)⟩, ⟨1, some (mXc r10 r11 r13)⟩, ⟨1, some (mXc r14 r15 r17)⟩, ⟨0, none⟩, ⟨0, none⟩]) rfl rfl rfl (TOp.loadAgg_o rfl agg26 siz26 rfl rfl rfl rfl) rfl ?_
              refine ROps.d (r := b true) (fs := []) (Γ' := [⟨1, some (mXc r4 r5 r6)⟩, ⟨1, some (mXc r10 r11 r13)⟩, ⟨1, some (mXc r14 r15 r17)⟩, ⟨0, none⟩, ⟨0, none⟩]) rfl rfl rfl (TOp.eqb (TOp.callB (CallAs.func ent16 rfl rfl) (Bors.cons (Bor.agg (Bors.cons (Bor.pure rfl) (Bors.cons (Bor.pure rfl) (Bors.cons (Bor.sl (fun _ => rfl)) Bors.nil)))) (Bors.cons (Bor.agg (Bors.cons (Bor.pure rfl) (Bors.cons (Bor.pure rfl) (Bors.cons (Bor.sl (fun _ => rfl)) Bors.nil)))) Bors.nil)) rfl rfl (i_SameMatrix_ok r14 r15 r17 r4 r5 r6 r22 hf17)) hc18) rfl ?_
              refine zl (r := b false) (LOp.eqb (LOp.not rfl rfl) rfl) ?_
              refine zl (r := b false) (LOp.pick_false rfl rfl rfl) ?_
              refine zm (r := b false) ?_
              refine zm (r := i64 r18) ?_
              refine zm (r := i64 r20) ?_
              refine zl (r := b false) (LOp.eqb (LOp.neq rfl rfl rfl) hc19) ?_
              refine zl (r := b false) (LOp.pick_false rfl rfl rfl) ?_
              refine zm (r := b false) ?_
              refine zm (r := i64 r18) ?_
              refine zl (r := b true) (LOp.eqb (LOp.neq rfl rfl rfl) hc20) ?_
              refine zm (r := b true) ?_
              refine zm (r := i64 r18) ?_
              refine zl (r := b false) (LOp.eqb (LOp.neq rfl rfl rfl) hc21) ?_
              refine zl (r := b false) (LOp.pick_true rfl rfl rfl) ?_
              refine zl (r := b false) (LOp.pick_false rfl rfl rfl) ?_
              refine zm (r := b false) ?_
              refine zm (r := sl r7.length (r7.map i64)) ?_
              refine ROps.d (r := b true) (fs := []) (Γ' := [⟨1, some (mXc r4 r5 r6)⟩, ⟨1, some (mXc r10 r11 r13)⟩, ⟨1, some (mXc r14 r15 r17)⟩, ⟨0, none⟩, ⟨0, none⟩]) rfl rfl rfl (TOp.eqb (TOp.callB (CallAs.func ent44 rfl rfl) (Bors.cons (Bor.sl (fun _ => rfl)) Bors.nil) rfl rfl (i_IsOrder_ok r7 r23 hf22)) hc23) rfl ?_
              refine zl (r := b false) (LOp.eqb (LOp.not rfl rfl) rfl) ?_
              refine zl (r := b false) (LOp.pick_false rfl rfl rfl) ?_
              refine zm (r := b false) ?_
              refine zm (r := sl r9.length (r9.map i64)) ?_
              refine ROps.d (r := b false) (fs := []) (Γ' := [⟨1, some (mXc r4 r5 r6)⟩, ⟨1, some (mXc r10 r11 r13)⟩, ⟨1, some (mXc r14 r15 r17)⟩, ⟨0, none⟩, ⟨0, none⟩]) rfl rfl rfl (TOp.eqb (TOp.callB (CallAs.func ent44 rfl rfl) (Bors.cons (Bor.sl (fun _ => rfl)) Bors.nil) rfl rfl (i_IsOrder_ok r9 r24 hf24)) hc25) rfl ?_
              refine zl (r := b true) (LOp.eqb (LOp.not rfl rfl) rfl) ?_
              refine zl (r := b true) (LOp.pick_false rfl rfl rfl) ?_
              refine zN ?_
              exact .inl ⟨(Le.of ⟨aR, aR, aR, aR, aR, aR, aR, trivial⟩ ⟨⟨rfl, .inr rfl⟩, ⟨rfl, .inr rfl⟩, ⟨rfl, .inl rfl⟩, ⟨rfl, .inr rfl⟩, ⟨rfl, .inr rfl⟩, trivial⟩), h⟩
            ·refine RunC.regionW ?_
             refine zl (r := b true) (LOp.eqb (LOp.move rfl rfl) hc12) ?_
             refine zl (r := b false) (LOp.eqb (LOp.not rfl rfl) rfl) ?_
             refine zm (r := b false) ?_
             refine zl (r := b true) (LOp.eqb (LOp.move rfl rfl) hc13) ?_
             refine zl (r := b false) (LOp.eqb (LOp.not rfl rfl) rfl) ?_
             refine zl (r := b false) (LOp.pick_false rfl rfl rfl) ?_
             refine zm (r := b false) ?_
             refine zl (r := b true) (LOp.eqb (LOp.move rfl rfl) hc14) ?_
             refine zl (r := b false) (LOp.eqb (LOp.not rfl rfl) rfl) ?_
             refine zl (r := b false) (LOp.pick_false rfl rfl rfl) ?_
             refine zm (r := b false) ?_
             refine zl (r := b true) (LOp.eqb (LOp.move rfl rfl) hc15) ?_
             refine zl (r := b false) (LOp.eqb (LOp.not rfl rfl) rfl) ?_
             refine zl (r := b false) (LOp.pick_false rfl rfl rfl) ?_
             refine zm (r := b false) ?_
             refine zl (r := b true) (LOp.eqb (LOp.move rfl rfl) hc16) ?_
             refine zl (r := b false) (LOp.eqb (LOp.not rfl rfl) rfl) ?_
             refine zl (r := b false) (LOp.pick_false rfl rfl rfl) ?_
             refine zm (r := b false) ?_
             refine ROps.d (r := agg (mXc r14 r15 r17)) (fs := []) (Γ' := [⟨1, some (mXc r4 r5 r6)⟩, ⟨1, some (mXc r10 r11 r13)⟩, ⟨1, some (mXc r14 r15 r17)⟩, ⟨0, none⟩, ⟨0, none⟩]) rfl rfl rfl (TOp.loadAgg_o rfl agg26 siz26 rfl rfl rfl rfl) rfl ?_
             refine ROps.d (r := agg (mXc r4 r5 r6)) (fs := []) (Γ' := [⟨1, some (mXc r4 r5 r6)⟩, ⟨1, some (mXc r10 r11 r13)⟩, ⟨1, some (mXc r14 r15 r17)⟩, ⟨0, none⟩, ⟨0, none⟩]) rfl rfl rfl (TOp.loadAgg_o rfl agg26 siz26 rfl rfl rfl rfl) rfl ?_
             refine ROps.d (r := b true) (fs := []) (Γ' := [⟨1, some (mXc r4 r5 r6)⟩, ⟨1, some (mXc r10 r11 r13)⟩, ⟨1, some (mXc r14 r15 r17)⟩, ⟨0, none⟩, ⟨0, none⟩]) rfl rfl rfl (TOp.eqb (TOp.callB (CallAs.func ent16 rfl rfl) (Bors.cons (Bor.agg (Bors.cons (Bor.pure rfl) (Bors.cons (Bor.pure rfl) (Bors.cons (Bor.sl (fun _ => rfl)) Bors.nil)))) (Bors.cons (Bor.agg (Bors.cons (Bor.pure rfl) (Bors.cons (Bor.pure rfl) (Bors.cons (Bor.sl (fun _ => rfl)) Bors.nil)))) Bors.nil)) rfl rfl (i_SameMatrix_ok r14 r15 r17 r4 r5 r6 r22 hf17)) hc18) rfl ?_
             refine zl (r := b false) (LOp.eqb (LOp.not rfl rfl) rfl) ?_
             refine zl (r := b false) (LOp.pick_false rfl rfl rfl) ?_
             refine zm (r := b false) ?_
             refine zm (r := i64 r18) ?_
             refine zm (r := i64 r20) ?_
             refine zl (r := b false) (LOp.eqb (LOp.neq rfl rfl rfl) hc19) ?_
             refine zl (r := b false) (LOp.pick_false rfl rfl rfl) ?_
             refine zm (r := b false) ?_
             refine zm (r := i64 r18) ?_
             refine zl (r := b true) (LOp.eqb (LOp.neq rfl rfl rfl) hc20) ?_
             refine zm (r := b true) ?_
             refine zm (r := i64 r18) ?_
             refine zl (r := b false) (LOp.eqb (LOp.neq rfl rfl rfl) hc21) ?_
             refine zl (r := b false) (LOp.pick_true rfl rfl rfl) ?_
             refine zl (r := b false) (LOp.pick_false rfl rfl rfl) ?_
             refine zm (r := b false) ?_
             refine zm (r := sl r7.length (r7.map i64)) ?_
             refine ROps.d (r := b false) (fs := []) (Γ' := [⟨1, some (mXc r4 r5 r6)⟩, ⟨1, some (mXc r10 r11 r13)⟩, ⟨1, some (mXc r14 r15 r17)⟩, ⟨0, none⟩, ⟨0, none⟩]) rfl rfl rfl (TOp.eqb (TOp.callB (CallAs.func ent44 rfl rfl) (Bors.cons (Bor.sl (fun _ => rfl)) Bors.nil) rfl rfl (i_IsOrder_ok r7 r23 hf22)) hc23) rfl ?_
             refine zl (r := b true) (LOp.eqb (LOp.not rfl rfl) rfl) ?_
             refine zl (r := b true) (LOp.pick_false rfl rfl rfl) ?_
             refine zm (r := b true) ?_
             iterate 3 (refine ROps.s rfl rfl rfl ?_)
             refine zl (r := b true) (LOp.pick_true rfl rfl rfl) ?_
             refine zN ?_
             exact .inl ⟨(Le.of ⟨aR, aR, aR, aR, aR, aR, aR, trivial⟩ ⟨⟨rfl, .inr rfl⟩, ⟨rfl, .inr rfl⟩, ⟨rfl, .inl rfl⟩, ⟨rfl, .inr rfl⟩, ⟨rfl, .inr rfl⟩, trivial⟩), h⟩
          ·obtain ⟨r25, hf26, h⟩ := obind_some h
           rcases bsel_some h with ⟨hc27, h⟩ | ⟨hc27, h⟩
           ·obtain ⟨r26, hf28, h⟩ := obind_some h
            rcases bsel_some h with ⟨hc29, h⟩ | ⟨hc29, h⟩
            ·refine RunC.regionW ?_
             refine zl (r := b true) (LOp.eqb (LOp.move rfl rfl) hc12) ?_
             refine zl (r := b false) (LOp.eqb (LOp.not rfl rfl) rfl) ?_
             refine zm (r := b false) ?_
             refine zl (r := b true) (LOp.eqb (LOp.move rfl rfl) hc13) ?_
             refine zl (r := b false) (LOp.eqb (LOp.not rfl rfl) rfl) ?_
             refine zl (r := b false) (LOp.pick_false rfl rfl rfl) ?_
             refine zm (r := b false) ?_
             refine zl (r := b true) (LOp.eqb (LOp.move rfl rfl) hc14) ?_
             refine zl (r := b false) (LOp.eqb (LOp.not rfl rfl) rfl) ?_
             refine zl (r := b false) (LOp.pick_false rfl rfl rfl) ?_
             refine zm (r := b false) ?_
             refine zl (r := b true) (LOp.eqb (LOp.move rfl rfl) hc15) ?_
             refine zl (r := b false) (LOp.eqb (LOp.not rfl rfl) rfl) ?_
             refine zl (r := b false) (LOp.pick_false rfl rfl rfl) ?_
             refine zm (r := b false) ?_
             refine zl (r := b true) (LOp.eqb (LOp.move rfl rfl) hc16) ?_
             refine zl (r := b false) (LOp.eqb (LOp.not rfl rfl) rfl) ?_
             refine zl (r := b false) (LOp.pick_false rfl rfl rfl) ?_
             refine zm (r := b false) ?_
             refine ROps.d (r := agg (mXc r14 r15 r17)) (fs := []) (Γ' := [⟨1, some (mXc r4 r5 r6)⟩, ⟨1, some (mXc r10 r11 r13)⟩, ⟨1, some (mXc r14 r15 r17)⟩, ⟨0, none⟩, ⟨0, none⟩]) rfl rfl rfl (TOp.loadAgg_o rfl agg26 siz26 rfl rfl rfl rfl) rfl ?_
             refine ROps.d (r := agg (mXc r4 r5 r6)) (fs := []) (Γ' := [⟨1, some (mXc r4 r5 r6)⟩, ⟨1, some (mXc r10 r11 r13)⟩, ⟨1, some (mXc r14 r15 r17)⟩, ⟨0, none⟩, ⟨0, none⟩]) rfl rfl rfl (TOp.loadAgg_o rfl agg26 siz26 rfl rfl rfl rfl) rfl ?_
             refine ROps.d (r := b true) (fs := []) (Γ' := [⟨1, some (mXc r4 r5 r6)⟩, ⟨1, some (mXc r10 r11 r13)⟩, ⟨1, some (mXc r14 r15 r17)⟩, ⟨0, none⟩, ⟨0, none⟩]) rfl rfl rfl (TOp.eqb (TOp.callB (CallAs.func ent16 rfl rfl) (Bors.cons (Bor.agg (Bors.cons (Bor.pure rfl) (Bors.cons (Bor.pure rfl) (Bors.cons (Bor.sl (fun _ => rfl)) Bors.nil)))) (Bors.cons (Bor.agg (Bors.cons (Bor.pure rfl) (Bors.cons (Bor.pure rfl) (Bors.cons (Bor.sl (fun _ => rfl)) Bors.nil)))) Bors.nil)) rfl rfl (i_SameMatrix_ok r14 r15 r17 r4 r5 r6 r22 hf17)) hc18) rfl ?_
             refine zl (r := b false) (LOp.eqb (LOp.not rfl rfl) rfl) ?_
             refine zl (r := b false) (LOp.pick_false rfl rfl rfl) ?_
             refine zm (r := b false) ?_
             refine zm (r := i64 r18) ?_
             refine zm (r := i64 r20) ?_
             refine zl (r := b false) (LOp.eqb (LOp.neq rfl rfl rfl) hc19) ?_
             refine zl (r := b false) (LOp.pick_false rfl rfl rfl) ?_
             refine zm (r := b false) ?_
             refine zm (r := i64 r18) ?_
             refine zl (r := b false) (LOp.eqb (LOp.neq rfl rfl rfl) hc20) ?_
             refine zm (r := b false) ?_
             iterate 2 (refine ROps.s rfl rfl rfl ?_)
             iterate 2 (refine zl (r := b false) (LOp.pick_false rfl rfl rfl) ?_)
             refine zm (r := b false) ?_
             refine zm (r := sl r7.length (r7.map i64)) ?_
             refine ROps.d (r := b true) (fs := []) (Γ' := [⟨1, some (mXc r4 r5 r6)⟩, ⟨1, some (mXc r10 r11 r13)⟩, ⟨1, some (mXc r14 r15 r17)⟩, ⟨0, none⟩, ⟨0, none⟩]) rfl rfl rfl (TOp.eqb (TOp.callB (CallAs.func ent44 rfl rfl) (Bors.cons (Bor.sl (fun _ => rfl)) Bors.nil) rfl rfl (i_IsOrder_ok r7 r25 hf26)) hc27) rfl ?_
             refine zl (r := b false) (LOp.eqb (LOp.not rfl rfl) rfl) ?_
             refine zl (r := b false) (LOp.pick_false rfl rfl rfl) ?_
             refine zm (r := b false) ?_
             refine zm (r := sl r9.length (r9.map i64)) ?_
             refine ROps.d (r := b true) (fs := []) (Γ' := [⟨1, some (mXc r4 r5 r6)⟩, ⟨1, some (mXc r10 r11 r13)⟩, ⟨1, some (mXc r14 r15 r17)⟩, ⟨0, none⟩, ⟨0, none⟩]) rfl rfl rfl (TOp.eqb (TOp.callB (CallAs.func ent44 rfl rfl) (Bors.cons (Bor.sl (fun _ => rfl)) Bors.nil) rfl rfl (i_IsOrder_ok r9 r26 hf28)) hc29) rfl ?_
             refine zl (r := b false) (LOp.eqb (LOp.not rfl rfl) rfl) ?_
             refine zl (r := b false) (LOp.pick_false rfl rfl rfl) ?_
             refine zN ?_
             exact .inr (⟨(Le.of ⟨aR, aR, aR, aR, aR, aR, aR, trivial⟩ ⟨⟨rfl, .inr rfl⟩, ⟨rfl, .inr rfl⟩, ⟨rfl, .inl rfl⟩, ⟨rfl, .inr rfl⟩, ⟨rfl, .inr rfl⟩, trivial⟩), h⟩)
            ·refine RunC.regionW ?_
             refine zl (r := b true) (LOp.eqb (LOp.move rfl rfl) hc12) ?_
             refine zl (r := b false) (LOp.eqb (LOp.not rfl rfl) rfl) ?_
             refine zm (r := b false) ?_
             refine zl (r := b true) (LOp.eqb (LOp.move rfl rfl) hc13) ?_
             refine zl (r := b false) (LOp.eqb (LOp.not rfl rfl) rfl) ?_
             refine zl (r := b false) (LOp.pick_false rfl rfl rfl) ?_
             refine zm (r := b false) ?_
             refine zl (r := b true) (LOp.eqb (LOp.move rfl rfl) hc14) ?_
             refine zl (r := b false) (LOp.eqb (LOp.not rfl rfl) rfl) ?_
             refine zl (r := b false) (LOp.pick_false rfl rfl rfl) ?_
             refine zm (r := b false) ?_
             refine zl (r := b true) (LOp.eqb (LOp.move rfl rfl) hc15) ?_
             refine zl (r := b false) (LOp.eqb (LOp.not rfl rfl) rfl) ?_
             refine zl (r := b false) (LOp.pick_false rfl rfl rfl) ?_
             refine zm (r := b false) ?_
             refine zl (r := b true) (LOp.eqb (LOp.move rfl rfl) hc16) ?_
             refine zl (r := b false) (LOp.eqb (LOp.not rfl rfl) rfl) ?_
             refine zl (r := b false) (LOp.pick_false rfl rfl rfl) ?_
             refine zm (r := b false) ?_
             refine ROps.d (r := agg (mXc r14 r15 r17)) (fs := []) (Γ' := [⟨1, some (mXc r4 r5 r6)⟩, ⟨1, some (mXc r10 r11 r13)⟩, ⟨1, some (mXc r14 r15 r17)⟩, ⟨0, none⟩, ⟨0, none⟩]) rfl rfl rfl (TOp.loadAgg_o rfl agg26 siz26 rfl rfl rfl rfl) rfl ?_
             refine ROps.d (r := agg (mXc r4 r5 r6)) (fs := []) (Γ' := [⟨1, some (mXc r4 r5 r6)⟩, ⟨1, some (mXc r10 r11 r13)⟩, ⟨1, some (mXc r14 r15 r17)⟩, ⟨0, none⟩, ⟨0, none⟩]) rfl rfl rfl (TOp.loadAgg_o rfl agg26 siz26 rfl rfl rfl rfl) rfl ?_
             refine ROps.d (r := b true) (fs := []) (Γ' := [⟨1, some (mXc r4 r5 r6)⟩, ⟨1, some (mXc r10 r11 r13)⟩, ⟨1, some (mXc r14 r15 r17)⟩, ⟨0, none⟩, ⟨0, none⟩]) rfl rfl rfl (TOp.eqb (TOp.callB (CallAs.func ent16 rfl rfl) (Bors.cons (Bor.agg (Bors.cons (Bor.pure rfl) (Bors.cons (Bor.pure rfl) (Bors.cons (Bor.sl (fun _ => rfl)) Bors.nil)))) (Bors.cons (Bor.agg (Bors.cons (Bor.pure rfl) (Bors.cons (Bor.pure rfl) (Bors.cons (Bor.sl (fun _ => rfl)) Bors.nil)))) Bors.nil)) rfl rfl (i_SameMatrix_ok r14 r15 r17 r4 r5 r6 r22 hf17)) hc18) rfl ?_
             refine zl (r := b false) (LOp.eqb (LOp.not rfl rfl) rfl) ?_
             refine zl (r := b false) (LOp.pick_false rfl rfl rfl) ?_
             refine zm (r := b false) ?_
             refine zm (r := i64 r18) ?_
             refine zm (r := i64 r20) ?_
             refine zl (r := b false) (LOp.eqb (LOp.neq rfl rfl rfl) hc19) ?_
             refine zl (r := b false) (LOp.pick_false rfl rfl rfl) ?_
             refine zm (r := b false) ?_
             refine zm (r := i64 r18) ?_
             refine zl (r := b false) (LOp.eqb (LOp.neq rfl rfl rfl) hc20) ?_
             refine zm (r := b false) ?_
             iterate 2 (refine ROps.s rfl rfl rfl ?_)
             iterate 2 (refine zl (r := b false) (LOp.pick_false rfl rfl rfl) ?_)
             refine zm (r := b false) ?_
             refine zm (r := sl r7.length (r7.map i64)) ?_
             refine ROps.d (r := b true) (fs := []) (Γ' := [⟨1, some (mXc r4 r5 r6)⟩, ⟨1, some (mXc r10 r11 r13)⟩, ⟨1, some (mXc r14 r15 r17)⟩, ⟨0, none⟩, ⟨0, none⟩]) rfl rfl rfl (TOp.eqb (TOp.callB (CallAs.func ent44 rfl rfl) (Bors.cons (Bor.sl (fun _ => rfl)) Bors.nil) rfl rfl (i_IsOrder_ok r7 r25 hf26)) hc27) rfl ?_
             refine zl (r := b false) (LOp.eqb (LOp.not rfl rfl) rfl) ?_
             refine zl (r := b false) (LOp.pick_false rfl rfl rfl) ?_
             refine zm (r := b false) ?_
             refine zm (r := sl r9.length (r9.map i64)) ?_
             refine ROps.d (r := b false) (fs := []) (Γ' := [⟨1, some (mXc r4 r5 r6)⟩, ⟨1, some (mXc r10 r11 r13)⟩, ⟨1, some (mXc r14 r15 r17)⟩, ⟨0, none⟩, ⟨0, none⟩]) rfl rfl rfl (TOp.eqb (TOp.callB (CallAs.func ent44 rfl rfl) (Bors.cons (Bor.sl (fun _ => rfl)) Bors.nil) rfl rfl (i_IsOrder_ok r9 r26 hf28)) hc29) rfl ?_
             refine zl (r := b true) (LOp.eqb (LOp.not rfl rfl) rfl) ?_
             refine zl (r := b true) (LOp.pick_false rfl rfl rfl) ?_
             refine zN ?_
             exact .inl ⟨(Le.of ⟨aR, aR, aR, aR, aR, aR, aR, trivial⟩ ⟨⟨rfl, .inr rfl⟩, ⟨rfl, .inr rfl⟩, ⟨rfl, .inl rfl⟩, ⟨rfl, .inr rfl⟩, ⟨rfl, .inr rfl⟩, trivial⟩), h⟩
           ·refine RunC.regionW ?_
            refine zl (r := b true) (LOp.eqb (LOp.move rfl rfl) hc12) ?_
            refine zl (r := b false) (LOp.eqb (LOp.not rfl rfl) rfl) ?_
            refine zm (r := b false) ?_
            refine zl (r := b true) (LOp.eqb (LOp.move rfl rfl) hc13) ?_
            refine zl (r := b false) (LOp.eqb (LOp.not rfl rfl) rfl) ?_
            refine zl (r := b false) (LOp.pick_false rfl rfl rfl) ?_
            refine zm (r := b false) ?_
            refine zl (r := b true) (LOp.eqb (LOp.move rfl rfl) hc14) ?_
            refine zl (r := b false) (LOp.eqb (LOp.not rfl rfl) rfl) ?_
            refine zl (r := b false) (LOp.pick_false rfl rfl rfl) ?_
            refine zm (r := b false) ?_
            refine zl (r := b true) (LOp.eqb (LOp.move rfl rfl) hc15) ?_
            refine zl (r := b false) (LOp.eqb (LOp.not rfl rfl) rfl) ?_
            refine zl (r := b false) (LOp.pick_false rfl rfl rfl) ?_
            refine zm (r := b false) ?_
            refine zl (r := b true) (LOp.eqb (LOp.move rfl rfl) hc16) ?_
            refine zl (r := b false) (LOp.eqb (LOp.not rfl rfl) rfl) ?_
            refine zl (r := b false) (LOp.pick_false rfl rfl rfl) ?_
            refine zm (r := b false) ?_
            refine ROps.d (r := agg (mXc r14 r15 r17)) (fs := []) (Γ' := [⟨1, some (mXc r4 r5 r6)⟩, ⟨1, some (mXc r10 r11 r13)⟩, ⟨1, some (mXc r14 r15 r17)⟩, ⟨0, none⟩, ⟨0, none⟩]) rfl rfl rfl (TOp.loadAgg_o rfl agg26 siz26 rfl rfl rfl rfl) rfl ?_
            refine ROps.d (r := agg (mXc r4 r5 r6)) (fs := []) (Γ' := [⟨1, some (mXc r4 r5 r6)⟩, ⟨1, some (mXc r10 r11 r13)⟩, ⟨1, some (mXc r14 r15 r17)⟩, ⟨0, none⟩, ⟨0, none⟩]) rfl rfl rfl (TOp.loadAgg_o rfl agg26 siz26 rfl rfl rfl rfl) rfl ?_
            refine ROps.d (r := b true) (fs := []) (Γ' := [⟨1, some (mXc r4 r5 r6)⟩, ⟨1, some (mXc r10 r11 r13)⟩, ⟨1, some (mXc r14 r15 r17)⟩, ⟨0, none⟩, ⟨0, none⟩]) rfl rfl rfl (TOp.eqb (TOp.callB (CallAs.func ent16 rfl rfl) (Bors.cons (Bor.agg (Bors.cons (Bor.pure rfl) (Bors.cons (Bor.pure rfl) (Bors.cons (Bor.sl (fun _ => rfl)) Bors.nil)))) (Bors.cons (Bor.agg (Bors.cons (Bor.pure rfl) (Bors.cons (Bor.pure rfl) (Bors.cons (Bor.sl (fun _ => rfl)) Bors.nil)))) Bors.nil)) rfl rfl (i_SameMatrix_ok r14 r15 r17 r4 r5 r6 r22 hf17)) hc18) rfl ?_
            refine zl (r := b false) (LOp.eqb (LOp.not rfl rfl) rfl) ?_
            refine zl (r := b false) (LOp.pick_false rfl rfl rfl) ?_
            refine zm (r := b false) ?_
            refine zm (r := i64 r18) ?_
            refine zm (r := i64 r20) ?_
            refine zl (r := b false) (LOp.eqb (LOp.neq rfl rfl rfl) hc19) ?_
            refine zl (r := b false) (LOp.pick_false rfl rfl rfl) ?_
            refine zm (r := b false) ?_
            refine zm (r := i64 r18) ?_
            refine zl (r := b false) (LOp.eqb (LOp.neq rfl rfl rfl) hc20) ?_
            refine zm (r := b false) ?_
            iterate 2 (refine ROps.s rfl rfl rfl ?_)
            iterate 2 (refine zl (r := b false) (LOp.pick_false rfl rfl rfl) ?_)
            refine zm (r := b false) ?_
            refine zm (r := sl r7.length (r7.map i64)) ?_
            refine ROps.d (r := b false) (fs := []) (Γ' := [⟨1, some (mXc r4 r5 r6)⟩, ⟨1, some (mXc r10 r11 r13)⟩, ⟨1, some (mXc r14 r15 r17)⟩, ⟨0, none⟩, ⟨0, none⟩]) rfl rfl rfl (TOp.eqb (TOp.callB (CallAs.func ent44 rfl rfl) (Bors.cons (Bor.sl (fun _ => rfl)) Bors.nil) rfl rfl (i_IsOrder_ok r7 r25 hf26)) hc27) rfl ?_
            refine zl (r := b true) (LOp.eqb (LOp.not rfl rfl) rfl) ?_
            refine zl (r := b true) (LOp.pick_false rfl rfl rfl) ?_
            refine zm (r := b true) ?_
            iterate 3 (refine ROps.s rfl rfl rfl ?_)
            refine zl (r := b true) (LOp.pick_true rfl rfl rfl) ?_
            refine zN ?_
            exact .inl ⟨(Le.of ⟨aR, aR, aR, aR, aR, aR, aR, trivial⟩ ⟨⟨rfl, .inr rfl⟩, ⟨rfl, .inr rfl⟩, ⟨rfl, .inl rfl⟩, ⟨rfl, .inr rfl⟩, ⟨rfl, .inr rfl⟩, trivial⟩), h⟩
        ·refine RunC.regionW ?_
         refine zl (r := b true) (LOp.eqb (LOp.move rfl rfl) hc12) ?_
         refine zl (r := b false) (LOp.eqb (LOp.not rfl rfl) rfl) ?_
         refine zm (r := b false) ?_
         refine zl (r := b true) (LOp.eqb (LOp.move rfl rfl) hc13) ?_
         refine zl (r := b false) (LOp.eqb (LOp.not rfl rfl) rfl) ?_
         refine zl (r := b false) (LOp.pick_false rfl rfl rfl) ?_
         refine zm (r := b false) ?_
         refine zl (r := b true) (LOp.eqb (LOp.move rfl rfl) hc14) ?_
         refine zl (r := b false) (LOp.eqb (LOp.not rfl rfl) rfl) ?_
         refine zl (r := b false) (LOp.pick_false rfl rfl rfl) ?_
         refine zm (r := b false) ?_
         refine zl (r := b true) (LOp.eqb (LOp.move rfl rfl) hc15) ?_
         refine zl (r := b false) (LOp.eqb (LOp.not rfl rfl) rfl) ?_
         refine zl (r := b false) (LOp.pick_false rfl rfl rfl) ?_
         refine zm (r := b false) ?_
         refine zl (r := b true) (LOp.eqb (LOp.move rfl rfl) hc16) ?_
         refine zl (r := b false) (LOp.eqb (LOp.not rfl rfl) rfl) ?_
         refine zl (r := b false) (LOp.pick_false rfl rfl rfl) ?_
         refine zm (r := b false) ?_
         refine ROps.d (r := agg (mXc r14 r15 r17)) (fs := []) (Γ' := [⟨1, some (mXc r4 r5 r6)⟩, ⟨1, some (mXc r10 r11 r13)⟩, ⟨1, some (mXc r14 r15 r17)⟩, ⟨0, none⟩, ⟨0, none⟩]) rfl rfl rfl (TOp.loadAgg_o rfl agg26 siz26 rfl rfl rfl rfl) rfl ?_
         refine ROps.d (r := agg (mXc r4 r5 r6)) (fs := []) (Γ' := [⟨1, some (mXc r4 r5 r6)⟩, ⟨1, some (mXc r10 r11 r13)⟩, ⟨1, some (mXc r14 r15 r17)⟩, ⟨0, none⟩, ⟨0, none⟩]) rfl rfl rfl (TOp.loadAgg_o rfl agg26 siz26 rfl rfl rfl rfl) rfl ?_
         refine ROps.d (r := b false) (fs := []) (Γ' := [⟨1, some (mXc r4 r5 r6)⟩, ⟨1, some (mXc r10 r11 r13)⟩, ⟨1, some (mXc r14 r15 r17)⟩, ⟨0, none⟩, ⟨0, none⟩]) rfl rfl rfl (TOp.eqb (TOp.callB (CallAs.func ent16 rfl rfl) (Bors.cons (Bor.agg (Bors.cons (Bor.pure rfl) (Bors.cons (Bor.pure rfl) (Bors.cons (Bor.sl (fun _ => rfl)) Bors.nil)))) (Bors.cons (Bor.agg (Bors.cons (Bor.pure rfl) (Bors.cons (Bor.pure rfl) (Bors.cons (Bor.sl (fun _ => rfl)) Bors.nil)))) Bors.nil)) rfl rfl (i_SameMatrix_ok r14 r15 r17 r4 r5 r6 r22 hf17)) hc18) rfl ?_
         refine zl (r := b true) (LOp.eqb (LOp.not rfl rfl) rfl) ?_
         refine zl (r := b true) (LOp.pick_false rfl rfl rfl) ?_
         refine zm (r := b true) ?_
         iterate 2 (refine ROps.s rfl rfl rfl ?_; refine ROps.s rfl rfl rfl ?_; refine ROps.s rfl rfl rfl ?_; refine zl (r := b true) (LOp.pick_true rfl rfl rfl) ?_; refine zm (r := b true) ?_; refine ROps.s rfl rfl rfl ?_; refine ROps.s rfl rfl rfl ?_; refine ROps.s rfl rfl rfl ?_)
         refine zl (r := b true) (LOp.pick_true rfl rfl rfl) ?_
         refine zm (r := b true) ?_
         iterate 3 (refine ROps.s rfl rfl rfl ?_)
         refine zl (r := b true) (LOp.pick_true rfl rfl rfl) ?_
         refine zN ?_
         exact .inl ⟨(Le.of ⟨aR, aR, aR, aR, aR, aR, aR, trivial⟩ ⟨⟨rfl, .inr rfl⟩, ⟨rfl, .inr rfl⟩, ⟨rfl, .inl rfl⟩, ⟨rfl, .inr rfl⟩, ⟨rfl, .inr rfl⟩, trivial⟩), h⟩
       ·refine RunC.regionW ?_
        refine zl (r := b true) (LOp.eqb (LOp.move rfl rfl) hc12) ?_
        refine zl (r := b false) (LOp.eqb (LOp.not rfl rfl) rfl) ?_
        refine zm (r := b false) ?_
        refine zl (r := b true) (LOp.eqb (LOp.move rfl rfl) hc13) ?_
        refine zl (r := b false) (LOp.eqb (LOp.not rfl rfl) rfl) ?_
        refine zl (r := b false) (LOp.pick_false rfl rfl rfl) ?_
        refine zm (r := b false) ?_
        refine zl (r := b true) (LOp.eqb (LOp.move rfl rfl) hc14) ?_
        refine zl (r := b false) (LOp.eqb (LOp.not rfl rfl) rfl) ?_
        refine zl (r := b false) (LOp.pick_false rfl rfl rfl) ?_
        refine zm (r := b false) ?_
        refine zl (r := b true) (LOp.eqb (LOp.move rfl rfl) hc15) ?_
        refine zl (r := b false) (LOp.eqb (LOp.not rfl rfl) rfl) ?_
        refine zl (r := b false) (LOp.pick_false rfl rfl rfl) ?_
        refine zm (r := b false) ?_
        refine zl (r := b false) (LOp.eqb (LOp.move rfl rfl) hc16) ?_
        refine zl (r := b true) (LOp.eqb (LOp.not rfl rfl) rfl) ?_
        refine zl (r := b true) (LOp.pick_false rfl rfl rfl) ?_
        refine zm (r := b true) ?_
        iterate 4 (refine ROps.s rfl rfl rfl ?_)
        iterate 2 (refine zl (r := b true) (LOp.pick_true rfl rfl rfl) ?_; refine zm (r := b true) ?_; refine ROps.s rfl rfl rfl ?_; refine ROps.s rfl rfl rfl ?_; refine ROps.s rfl rfl rfl ?_)
        iterate 2 (refine ROps.s rfl rfl rfl ?_; refine ROps.s rfl rfl rfl ?_; refine ROps.s rfl rfl rfl ?_; refine zl (r := b true) (LOp.pick_true rfl rfl rfl) ?_; refine zm (r := b true) ?_)
        iterate 3 (refine ROps.s rfl rfl rfl ?_)
        refine zl (r := b true) (LOp.pick_true rfl rfl rfl) ?_
        refine zN ?_
        exact .inl ⟨(Le.of ⟨aR, aR, aR, aR, aR, aR, aR, trivial⟩ ⟨⟨rfl, .inr rfl⟩, ⟨rfl, .inr rfl⟩, ⟨rfl, .inl rfl⟩, ⟨rfl, .inr rfl⟩, ⟨rfl, .inr rfl⟩, trivial⟩), h⟩
      ·refine RunC.regionW ?_
       refine zl (r := b true) (LOp.eqb (LOp.move rfl rfl) hc12) ?_
       refine zl (r := b false) (LOp.eqb (LOp.not rfl rfl) rfl) ?_
       refine zm (r := b false) ?_
       refine zl (r := b true) (LOp.eqb (LOp.move rfl rfl) hc13) ?_
       refine zl (r := b false) (LOp.eqb (LOp.not rfl rfl) rfl) ?_
       refine zl (r := b false) (LOp.pick_false rfl rfl rfl) ?_
       refine zm (r := b false) ?_
       refine zl (r := b true) (LOp.eqb (LOp.move rfl rfl) hc14) ?_
       refine zl (r := b false) (LOp.eqb (LOp.not rfl rfl) rfl) ?_
       refine zl (r := b false) (LOp.pick_false rfl rfl rfl) ?_
       refine zm (r := b false) ?_
       refine zl (r := b false) (LOp.eqb (LOp.move rfl rfl) hc15) ?_
       refine zl (r := b true) (LOp.eqb (LOp.not rfl rfl) rfl) ?_
       refine zl (r := b true) (LOp.pick_false rfl rfl rfl) ?_
       refine zm (r := b true) ?_
       iterate 2 (refine ROps.s rfl rfl rfl ?_; refine ROps.s rfl rfl rfl ?_; refine zl (r := b true) (LOp.pick_true rfl rfl rfl) ?_; refine zm (r := b true) ?_; refine ROps.s rfl rfl rfl ?_; refine ROps.s rfl rfl rfl ?_)
       refine ROps.s rfl rfl rfl ?_
       refine zl (r := b true) (LOp.pick_true rfl rfl rfl) ?_
       refine zm (r := b true) ?_
       iterate 6 (refine ROps.s rfl rfl rfl ?_)
       iterate 2 (refine zl (r := b true) (LOp.pick_true rfl rfl rfl) ?_; refine zm (r := b true) ?_; refine ROps.s rfl rfl rfl ?_; refine ROps.s rfl rfl rfl ?_; refine ROps.s rfl rfl rfl ?_)
       refine zl (r := b true) (LOp.pick_true rfl rfl rfl) ?_
       refine zN ?_
       exact .inl ⟨(Le.of ⟨aR, aR, aR, aR, aR, aR, aR, trivial⟩ ⟨⟨rfl, .inr rfl⟩, ⟨rfl, .inr rfl⟩, ⟨rfl, .inl rfl⟩, ⟨rfl, .inr rfl⟩, ⟨rfl, .inr rfl⟩, trivial⟩), h⟩
     ·refine RunC.regionW ?_
      refine zl (r := b true) (LOp.eqb (LOp.move rfl rfl) hc12) ?_
      refine zl (r := b false) (LOp.eqb (LOp.not rfl rfl) rfl) ?_
      refine zm (r := b false) ?_
      refine zl (r := b true) (LOp.eqb (LOp.move rfl rfl) hc13) ?_
      refine zl (r := b false) (LOp.eqb (LOp.not rfl rfl) rfl) ?_
      refine zl (r := b false) (LOp.pick_false rfl rfl rfl) ?_
      refine zm (r := b false) ?_
      refine zl (r := b false) (LOp.eqb (LOp.move rfl rfl) hc14) ?_
      refine zl (r := b true) (LOp.eqb (LOp.not rfl rfl) rfl) ?_
      refine zl (r := b true) (LOp.pick_false rfl rfl rfl) ?_
      iterate 2 (refine zm (r := b true) ?_; refine ROps.s rfl rfl rfl ?_; refine ROps.s rfl rfl rfl ?_; refine zl (r := b true) (LOp.pick_true rfl rfl rfl) ?_)
      refine zm (r := b true) ?_
      iterate 4 (refine ROps.s rfl rfl rfl ?_)
      iterate 2 (refine zl (r := b true) (LOp.pick_true rfl rfl rfl) ?_; refine zm (r := b true) ?_; refine ROps.s rfl rfl rfl ?_; refine ROps.s rfl rfl rfl ?_; refine ROps.s rfl rfl rfl ?_)
      iterate 2 (refine ROps.s rfl rfl rfl ?_; refine ROps.s rfl rfl rfl ?_; refine ROps.s rfl rfl rfl ?_; refine zl (r := b true) (LOp.pick_true rfl rfl rfl) ?_; refine zm (r := b true) ?_)
      iterate 3 (refine ROps.s rfl rfl rfl ?_)
      refine zl (r := b true) (LOp.pick_true rfl rfl rfl) ?_
      refine zN ?_
      exact .inl ⟨(Le.of ⟨aR, aR, aR, aR, aR, aR, aR, trivial⟩ ⟨⟨rfl, .inr rfl⟩, ⟨rfl, .inr rfl⟩, ⟨rfl, .inl rfl⟩, ⟨rfl, .inr rfl⟩, ⟨rfl, .inr rfl⟩, trivial⟩), h⟩
    ·refine RunC.regionW ?_
     refine zl (r := b true) (LOp.eqb (LOp.move rfl rfl) hc12) ?_
     refine zl (r := b false) (LOp.eqb (LOp.not rfl rfl) rfl) ?_
     refine zm (r := b false) ?_
     refine zl (r := b false) (LOp.eqb (LOp.move rfl rfl) hc13) ?_
     refine zl (r := b true) (LOp.eqb (LOp.not rfl rfl) rfl) ?_
     refine zl (r := b true) (LOp.pick_false rfl rfl rfl) ?_
     iterate 3 (refine zm (r := b true) ?_; refine ROps.s rfl rfl rfl ?_; refine ROps.s rfl rfl rfl ?_; refine zl (r := b true) (LOp.pick_true rfl rfl rfl) ?_)
     refine zm (r := b true) ?_
     iterate 4 (refine ROps.s rfl rfl rfl ?_)
     iterate 2 (refine zl (r := b true) (LOp.pick_true rfl rfl rfl) ?_; refine zm (r := b true) ?_; refine ROps.s rfl rfl rfl ?_; refine ROps.s rfl rfl rfl ?_; refine ROps.s rfl rfl rfl ?_)
     iterate 2 (refine ROps.s rfl rfl rfl ?_; refine ROps.s rfl rfl rfl ?_; refine ROps.s rfl rfl rfl ?_; refine zl (r := b true) (LOp.pick_true rfl rfl rfl) ?_; refine zm (r := b true) ?_)
     iterate 3 (refine ROps.s rfl rfl rfl ?_)
     refine zl (r := b true) (LOp.pick_true rfl rfl rfl) ?_
     refine zN ?_
     exact .inl ⟨(Le.of ⟨aR, aR, aR, aR, aR, aR, aR, trivial⟩ ⟨⟨rfl, .inr rfl⟩, ⟨rfl, .inr rfl⟩, ⟨rfl, .inl rfl⟩, ⟨rfl, .inr rfl⟩, ⟨rfl, .inr rfl⟩, trivial⟩), h⟩
   ·refine RunC.regionW ?_
    refine zl (r := b false) (LOp.eqb (LOp.move rfl rfl) hc12) ?_
    refine zl (r := b true) (LOp.eqb (LOp.not rfl rfl) rfl) ?_
    iterate 4 (refine zm (r := b true) ?_; refine ROps.s rfl rfl rfl ?_; refine ROps.s rfl rfl rfl ?_; refine zl (r := b true) (LOp.pick_true rfl rfl rfl) ?_)
    refine zm (r := b true) ?_
    iterate 4 (refine ROps.s rfl rfl rfl ?_)
    iterate 2 (refine zl (r := b true) (LOp.pick_true rfl rfl rfl) ?_; refine zm (r := b true) ?_; refine ROps.s rfl rfl rfl ?_; refine ROps.s rfl rfl rfl ?_; refine ROps.s rfl rfl rfl ?_)
    iterate 2 (refine ROps.s rfl rfl rfl ?_; refine ROps.s rfl rfl rfl ?_; refine ROps.s rfl rfl rfl ?_; refine zl (r := b true) (LOp.pick_true rfl rfl rfl) ?_; refine zm (r := b true) ?_)
    iterate 3 (refine ROps.s rfl rfl rfl ?_)
    refine zl (r := b true) (LOp.pick_true rfl rfl rfl) ?_
    refine zN ?_
    exact .inl ⟨(Le.of ⟨aR, aR, aR, aR, aR, aR, aR, trivial⟩ ⟨⟨rfl, .inr rfl⟩, ⟨rfl, .inr rfl⟩, ⟨rfl, .inl rfl⟩, ⟨rfl, .inr rfl⟩, ⟨rfl, .inr rfl⟩, trivial⟩), h⟩
  ·rintro τ24 Γ24 (⟨hw24, h⟩ | ⟨hw24, h⟩)
   ·refine RunC.le (τ' := [(1, sl a1.length (a1.map (ik .u8))), (5, i64 x3), (6, optr 0 1 0), (7, sl r7.length (r7.map i64)), (8, sl r9.length (r9.map i64)), (10, optr 1 1 0), (132, b true)]) (Γ' := [⟨1, some (mXc r4 r5 r6)⟩, ⟨1, some (mXc r10 r11 r13)⟩, ⟨1, none⟩, ⟨0, none⟩, ⟨0, none⟩]) hw24 ?_
    unfold w_FnOrders_k2 at h
    refine RunC.cond_true rfl rfl ?_
    refine zQ ?_
    refine za (r := b false) ?_
    refine zN ?_
    refine RunC.ret ?_
    have hq := Option.some.inj h
    subst q0
    exact bodyQ.pure (.inr rfl) rfl (Res.one rfl (RV.tmp rfl))
   ·refine RunC.le (τ' := [(1, sl a1.length (a1.map (ik .u8))), (5, i64 x3), (6, optr 0 1 0), (7, sl r7.length (r7.map i64)), (8, sl r9.length (r9.map i64)), (10, optr 1 1 0), (132, b false)]) (Γ' := [⟨1, some (mXc r4 r5 r6)⟩, ⟨1, some (mXc r10 r11 r13)⟩, ⟨1, none⟩, ⟨0, none⟩, ⟨0, none⟩]) hw24 ?_
    unfold w_FnOrders_k4 at h
    refine RunC.cond_false rfl rfl ?_
    refine RunC.skip ?_
    refine RunC.seq ?_
    refine zQ ?_
    refine za (r := i64 0) ?_
    refine zN ?_
    obtain ⟨z25, hz_25, h⟩ := obind_some h
    refine RunC.cutN (fun τ Γ => Le 703 τ Γ [(1, sl a1.length (a1.map (ik .u8))), (5, i64 x3), (6, optr 0 1 0)] [⟨1, some (mXc r4 r5 r6)⟩, ⟨1, none⟩, ⟨1, none⟩, ⟨0, none⟩, ⟨0, none⟩] ∧ z25 = .inl ()) ?_ ?_
    ·refine RunC.block (RunC.loop (RunL.loopM (x := z25) (w_FnOrders_s5 x3 r6 r7 r9 r13) (fun (s : Int) τ Γ => Le 703 τ Γ [(1, sl a1.length (a1.map (ik .u8))), (5, i64 x3), (6, optr 0 1 0), (7, sl r7.length (r7.map i64)), (8, sl r9.length (r9.map i64)), (10, optr 1 1 0), (18, i64 s)] [⟨1, some (mXc r4 r5 r6)⟩, ⟨1, some (mXc r10 r11 r13)⟩, ⟨1, none⟩, ⟨0, none⟩, ⟨0, none⟩]) ?_ _ _ _ hz_25 (Le.of ⟨aR, aR, aR, aR, aR, aR, aR, trivial⟩ ⟨⟨rfl, .inr rfl⟩, ⟨rfl, .inr rfl⟩, ⟨rfl, .inl rfl⟩, ⟨rfl, .inr rfl⟩, ⟨rfl, .inr rfl⟩, trivial⟩)))
     rintro v27 τ25 Γ25 y25_ hw25 h25_ ho25 hr25
     refine RunC.le (τ' := [(1, sl a1.length (a1.map (ik .u8))), (5, i64 x3), (6, optr 0 1 0), (7, sl r7.length (r7.map i64)), (8, sl r9.length (r9.map i64)), (10, optr 1 1 0), (18, i64 v27)]) (Γ' := [⟨1, some (mXc r4 r5 r6)⟩, ⟨1, some (mXc r10 r11 r13)⟩, ⟨1, none⟩, ⟨0, none⟩, ⟨0, none⟩]) hw25 ?_
     replace h25_ : w_FnOrders_b5 x3 r6 r7 r9 r13 v27 = some y25_ := h25_
     unfold w_FnOrders_b5 at h25_
     iterate 2 (refine RunC.seq ?_)
     rcases bsel_some h25_ with ⟨hc30, h25_⟩ | ⟨hc30, h25_⟩
     ·refine RunC.regionW ?_
      refine zm (r := i64 v27) ?_
      refine zm (r := i64 x3) ?_
      refine zl (r := b true) (LOp.eqb (LOp.lss rfl rfl rfl) hc30) ?_
      refine zN ?_
      refine RunC.cond_true rfl rfl ?_
      refine RunC.skip ?_
      refine RunC.seq ?_
      refine RunC.block ?_
      refine RunC.seq ?_
      obtain ⟨e28, he31, h25_⟩ := obind_some h25_
      obtain ⟨e29, he32, h25_⟩ := obind_some h25_
      rcases bsel_some h25_ with ⟨hc33, h25_⟩ | ⟨hc33, h25_⟩
      ·refine RunC.region_draw (Γ' := [⟨1, some (mXc r4 r5 r6)⟩, ⟨1, some (mXc r10 r11 r13)⟩, ⟨1, none⟩, ⟨0, none⟩, ⟨0, none⟩]) 29 mixed 
        (TR.l (r := sl r9.length (r9.map i64)) rfl rfl (LOp.move rfl rfl) <|
        (TR.l (r := sl r7.length (r7.map i64)) rfl rfl (LOp.move rfl rfl) <|
        (TR.l (r := i64 v27) rfl rfl (LOp.move rfl rfl) <|
        (TR.l (r := ptr [i64 e28]) rfl rfl (LOp.le (LOp.ix (f := i64) und44 siz2 rfl rfl rfl rfl he31) ALe.ptr) <|
        (TR.l (r := i64 e28) rfl rfl (LOp.load1 agg2 rfl rfl) <|
        (TR.l (r := ptr [i64 e29]) rfl rfl (LOp.le (LOp.ix (f := i64) und44 siz2 rfl rfl rfl rfl he32) ALe.ptr) <|
        (TR.l (r := i64 e29) rfl rfl (LOp.load1 agg2 rfl rfl) <|
        (TR.l (r := i64 v27) rfl rfl (LOp.move rfl rfl) <|
        (TR.l (r := b true) rfl rfl (LOp.eqb (LOp.neq rfl rfl rfl) hc33) <|
        (TR.l (r := b true) rfl rfl (LOp.move rfl rfl) <|
        (TR.s rfl rfl <|
        (TR.s rfl rfl <|
        (TR.s rfl rfl <|
        (TR.s rfl rfl <|
        (TR.s rfl rfl <|
        (TR.s rfl rfl <|
        (TR.s rfl rfl <|
        (TR.s rfl rfl <|
        (TR.s rfl rfl <|
        (TR.s rfl rfl <|
        (TR.s rfl rfl <|
        (TR.s rfl rfl <|
        (TR.s rfl rfl <|
        (TR.s rfl rfl <|
        (TR.s rfl rfl <|
        (TR.s rfl rfl <|
        (TR.s rfl rfl <|
        (TR.s rfl rfl <|
        (TR.l (r := b true) rfl rfl (LOp.pick_true rfl rfl rfl) <|
        TR.nil))))))))))))))))))))))))))))) rfl (by kernel_rfl) rfl fills_nil rfl ?_
       iterate 29 refine ROps.dropS ?_
       refine ROps.drop0 ?_
       refine zN ?_
       refine RunC.cond_true rfl rfl ?_
       refine zQ ?_
       refine za (r := b false) ?_
       refine zN ?_
       refine RunC.ret ?_
       cases Option.some.inj h25_
       have hx26_ := hr25 _ rfl
       subst hx26_
       have hq := Option.some.inj h
       subst q0
       exact bodyQ.pure (.inr rfl) rfl (Res.one rfl (RV.tmp rfl))
      ·obtain ⟨x30, hx34, h25_⟩ := olet_some h25_
       obtain ⟨e31, he35, h25_⟩ := obind_some h25_
       obtain ⟨e32, he36, h25_⟩ := obind_some h25_
       obtain ⟨x33, hx37, h25_⟩ := olet_some h25_
       obtain ⟨e34, he38, h25_⟩ := obind_some h25_
       rcases bsel_some h25_ with ⟨hc39, h25_⟩ | ⟨hc39, h25_⟩
       ·refine RunC.region_draw (Γ' := [⟨1, some (mXc r4 r5 r6)⟩, ⟨1, some (mXc r10 r11 r13)⟩, ⟨1, none⟩, ⟨0, none⟩, ⟨0, none⟩]) 29 mixed 
         (TR.l (r := sl r9.length (r9.map i64)) rfl rfl (LOp.move rfl rfl) <|
         (TR.l (r := sl r7.length (r7.map i64)) rfl rfl (LOp.move rfl rfl) <|
         (TR.l (r := i64 v27) rfl rfl (LOp.move rfl rfl) <|
         (TR.l (r := ptr [i64 e28]) rfl rfl (LOp.le (LOp.ix (f := i64) und44 siz2 rfl rfl rfl rfl he31) ALe.ptr) <|
         (TR.l (r := i64 e28) rfl rfl (LOp.load1 agg2 rfl rfl) <|
         (TR.l (r := ptr [i64 e29]) rfl rfl (LOp.le (LOp.ix (f := i64) und44 siz2 rfl rfl rfl rfl he32) ALe.ptr) <|
         (TR.l (r := i64 e29) rfl rfl (LOp.load1 agg2 rfl rfl) <|
         (TR.l (r := i64 v27) rfl rfl (LOp.move rfl rfl) <|
         (TR.l (r := b false) rfl rfl (LOp.eqb (LOp.neq rfl rfl rfl) hc33) <|
         (TR.l (r := b false) rfl rfl (LOp.move rfl rfl) <|
         (TR.l (r := optr 1 1 2) rfl rfl (LOp.fao und26 rfl siz24 rfl rfl rfl) <|
         (TR.d (r := (sFc r13)) (fs := []) rfl rfl (TOp.load1_o rfl rfl agg24 rfl rfl) <|
         (TR.l (r := i64 v27) rfl rfl (LOp.move rfl rfl) <|
         (TR.l (r := i64 x3) rfl rfl (LOp.move rfl rfl) <|
         (TR.l (r := i64 x30) rfl rfl (LOp.eqr (LOp.mul rfl rfl rfl) (congrArg (ik .i64) hx34)) <|
         (TR.l (r := ptr [f32 e31]) rfl rfl (LOp.le (LOp.ix (f := f32) und24 siz36 rfl rfl rfl rfl he35) ALe.ptr) <|
         (TR.l (r := f32 e31) rfl rfl (LOp.load1 agg36 rfl rfl) <|
         (TR.l (r := optr 0 1 2) rfl rfl (LOp.fao und26 rfl siz24 rfl rfl rfl) <|
         (TR.d (r := (sFc r6)) (fs := []) rfl rfl (TOp.load1_o rfl rfl agg24 rfl rfl) <|
         (TR.l (r := sl r7.length (r7.map i64)) rfl rfl (LOp.move rfl rfl) <|
         (TR.l (r := i64 v27) rfl rfl (LOp.move rfl rfl) <|
         (TR.l (r := ptr [i64 e32]) rfl rfl (LOp.le (LOp.ix (f := i64) und44 siz2 rfl rfl rfl rfl he36) ALe.ptr) <|
         (TR.l (r := i64 e32) rfl rfl (LOp.load1 agg2 rfl rfl) <|
         (TR.l (r := i64 x3) rfl rfl (LOp.move rfl rfl) <|
         (TR.l (r := i64 x33) rfl rfl (LOp.eqr (LOp.mul rfl rfl rfl) (congrArg (ik .i64) hx37)) <|
         (TR.l (r := ptr [f32 e34]) rfl rfl (LOp.le (LOp.ix (f := f32) und24 siz36 rfl rfl rfl rfl he38) ALe.ptr) <|
         (TR.l (r := f32 e34) rfl rfl (LOp.load1 agg36 rfl rfl) <|
         (TR.l (r := b true) rfl rfl (LOp.eqb (LOp.fne rfl (OpF.tmp rfl) (OpF.tmp rfl)) hc39) <|
         (TR.l (r := b true) rfl rfl (LOp.pick_false rfl rfl rfl) <|
         TR.nil))))))))))))))))))))))))))))) rfl (by kernel_rfl) rfl fills_nil rfl ?_
        iterate 29 refine ROps.dropS ?_
        refine ROps.drop0 ?_
        refine zN ?_
        refine RunC.cond_true rfl rfl ?_
        refine zQ ?_
        refine za (r := b false) ?_
        refine zN ?_
        refine RunC.ret ?_
        cases Option.some.inj h25_
        have hx27_ := hr25 _ rfl
        subst hx27_
        have hq := Option.some.inj h
        subst q0
        exact bodyQ.pure (.inr rfl) rfl (Res.one rfl (RV.tmp rfl))
       ·refine RunC.region_draw (Γ' := [⟨1, some (mXc r4 r5 r6)⟩, ⟨1, some (mXc r10 r11 r13)⟩, ⟨1, none⟩, ⟨0, none⟩, ⟨0, none⟩]) 29 mixed 
         (TR.l (r := sl r9.length (r9.map i64)) rfl rfl (LOp.move rfl rfl) <|
         (TR.l (r := sl r7.length (r7.map i64)) rfl rfl (LOp.move rfl rfl) <|
         (TR.l (r := i64 v27) rfl rfl (LOp.move rfl rfl) <|
         (TR.l (r := ptr [i64 e28]) rfl rfl (LOp.le (LOp.ix (f := i64) und44 siz2 rfl rfl rfl rfl he31) ALe.ptr) <|
         (TR.l (r := i64 e28) rfl rfl (LOp.load1 agg2 rfl rfl) <|
         (TR.l (r := ptr [i64 e29]) rfl rfl (LOp.le (LOp.ix (f := i64) und44 siz2 rfl rfl rfl rfl he32) ALe.ptr) <|
         (TR.l (r := i64 e29) rfl rfl (LOp.load1 agg2 rfl rfl) <|
         (TR.l (r := i64 v27) rfl rfl (LOp.move rfl rfl) <|
         (TR.l (r := b false) rfl rfl (LOp.eqb (LOp.neq rfl rfl rfl) hc33) <|
         (TR.l (r := b false) rfl rfl (LOp.move rfl rfl) <|
         (TR.l (r := optr 1 1 2) rfl rfl (LOp.fao und26 rfl siz24 rfl rfl rfl) <|
         (TR.d (r := (sFc r13)) (fs := []) rfl rfl (TOp.load1_o rfl rfl agg24 rfl rfl) <|
         (TR.l (r := i64 v27) rfl rfl (LOp.move rfl rfl) <|
         (TR.l (r := i64 x3) rfl rfl (LOp.move rfl rfl) <|
         (TR.l (r := i64 x30) rfl rfl (LOp.eqr (LOp.mul rfl rfl rfl) (congrArg (ik .i64) hx34)) <|
         (TR.l (r := ptr [f32 e31]) rfl rfl (LOp.le (LOp.ix (f := f32) und24 siz36 rfl rfl rfl rfl he35) ALe.ptr) <|
         (TR.l (r := f32 e31) rfl rfl (LOp.load1 agg36 rfl rfl) <|
         (TR.l (r := optr 0 1 2) rfl rfl (LOp.fao und26 rfl siz24 rfl rfl rfl) <|
         (TR.d (r := (sFc r6)) (fs := []) rfl rfl (TOp.load1_o rfl rfl agg24 rfl rfl) <|
         (TR.l (r := sl r7.length (r7.map i64)) rfl rfl (LOp.move rfl rfl) <|
         (TR.l (r := i64 v27) rfl rfl (LOp.move rfl rfl) <|
         (TR.l (r := ptr [i64 e32]) rfl rfl (LOp.le (LOp.ix (f := i64) und44 siz2 rfl rfl rfl rfl he36) ALe.ptr) <|
         (TR.l (r := i64 e32) rfl rfl (LOp.load1 agg2 rfl rfl) <|
         (TR.l (r := i64 x3) rfl rfl (LOp.move rfl rfl) <|
         (TR.l (r := i64 x33) rfl rfl (LOp.eqr (LOp.mul rfl rfl rfl) (congrArg (ik .i64) hx37)) <|
         (TR.l (r := ptr [f32 e34]) rfl rfl (LOp.le (LOp.ix (f := f32) und24 siz36 rfl rfl rfl rfl he38) ALe.ptr) <|
         (TR.l (r := f32 e34) rfl rfl (LOp.load1 agg36 rfl rfl) <|
         (TR.l (r := b false) rfl rfl (LOp.eqb (LOp.fne rfl (OpF.tmp rfl) (OpF.tmp rfl)) hc39) <|
         (TR.l (r := b false) rfl rfl (LOp.pick_false rfl rfl rfl) <|
         TR.nil))))))))))))))))))))))))))))) rfl (by kernel_rfl) rfl fills_nil rfl ?_
        iterate 29 refine ROps.dropS ?_
        refine ROps.drop0 ?_
        refine zN ?_
        refine RunC.cond_false rfl rfl ?_
        refine RunC.skip ?_
        obtain ⟨x35, hx40, h25_⟩ := olet_some h25_
        refine RunC.regionW ?_
        refine zm (r := i64 v27) ?_
        refine zl (r := i64 x35) (LOp.eqr (LOp.add rfl rfl rfl) (congrArg (ik .i64) hx40)) ?_
        refine za (r := i64 x35) ?_
        refine zN ?_
        cases Option.some.inj h25_
        exact ⟨_, rfl, (Le.of ⟨aR, aR, aR, aR, aR, aR, aR, trivial⟩ ⟨⟨rfl, .inr rfl⟩, ⟨rfl, .inr rfl⟩, ⟨rfl, .inl rfl⟩, ⟨rfl, .inr rfl⟩, ⟨rfl, .inr rfl⟩, trivial⟩)⟩
     ·refine RunC.regionW ?_
      refine zm (r := i64 v27) ?_
      refine zm (r := i64 x3) ?_
      refine zl (r := b false) (LOp.eqb (LOp.lss rfl rfl rfl) hc30) ?_
      refine zN ?_
      refine RunC.cond_false rfl rfl ?_
      refine RunC.exit ?_
      cases Option.some.inj h25_
      have hx := ho25 _ rfl
      exact ⟨(Le.of ⟨aR, aR, aR, trivial⟩ ⟨⟨rfl, .inr rfl⟩, ⟨rfl, .inl rfl⟩, ⟨rfl, .inl rfl⟩, ⟨rfl, .inr rfl⟩, ⟨rfl, .inr rfl⟩, trivial⟩), hx⟩
    ·rintro τ28 Γ28 ⟨hw28, rfl⟩
     refine RunC.le hw28 ?_
     replace h : w_FnOrders_k5 a1 x3 r4 r5 r6 = some q0 := h
     unfold w_FnOrders_k5 at h
     refine RunC.seq ?_
     refine RunC.cutN (fun τ Γ => ∃ (v44 : Int) (v45 : Int) (l46 : List F) (w47 : Bool), Le 703 τ Γ [(1, sl a1.length (a1.map (ik .u8))), (5, i64 x3), (6, optr 0 1 0), (19, optr 1 2 0), (20, b w47)] [⟨1, some (mXc r4 r5 r6)⟩, ⟨2, some (mXc v44 v45 l46)⟩, ⟨1, none⟩, ⟨0, none⟩, ⟨0, none⟩] ∧ w_FnOrders_k7 a1 x3 r4 r5 r6 v44 v45 l46 w47 = some q0) ?_ ?_
     ·obtain ⟨z29, hf41, h⟩ := obind_some h
      rcases z29 with z29 | z29
      ·replace h := (osum_inl _ _ _).symm.trans h
       obtain ⟨r36, r37, r38, r39, hz30, h⟩ := obind4_some h
       cases hz30
       refine RunC.regionW ?_
       refine ROps.d (r := agg (mXc r4 r5 r6)) (fs := []) (Γ' := [⟨1, some (mXc r4 r5 r6)⟩, ⟨1, none⟩, ⟨1, none⟩, ⟨0, none⟩, ⟨0, none⟩]) rfl rfl rfl (TOp.loadAgg_o rfl agg26 siz26 rfl rfl rfl rfl) rfl ?_
       refine ROps.d (r := tup [agg (mXc r36 r37 r39), b r38]) (fs := []) (Γ' := [⟨1, some (mXc r4 r5 r6)⟩, ⟨1, none⟩, ⟨1, none⟩, ⟨0, none⟩, ⟨0, none⟩]) rfl rfl rfl (TOp.callS (CallAs.func ent45 rfl rfl) (ALes.cons aR (ALes.cons aR ALes.nil)) (lts_cons (lt_agg (lts_cons rfl (lts_cons rfl (lts_cons (lt_sl (fun _ => rfl)) lts_nil)))) (lts_cons rfl lts_nil)) (lt_tup (lts_cons (lt_agg (lts_cons rfl (lts_cons rfl (lts_cons (lt_sl (fun _ => rfl)) lts_nil)))) (lts_cons rfl lts_nil))) (i_PowerMatrix_ok0 r4 r5 r6 0 r36 r37 r38 r39 hf41) (Bor.tup (Bors.cons (Bor.agg (Bors.cons (Bor.pure rfl) (Bors.cons (Bor.pure rfl) (Bors.cons (Bor.own (f := f32) (fun _ => rfl) rfl rfl) Bors.nil)))) (Bors.cons (Bor.pure rfl) Bors.nil)))) rfl ?_
       refine zm (r := tup [agg (mXc r36 r37 r39), b r38]) ?_
       refine zl (r := agg (mXc r36 r37 r39)) (LOp.extract rfl rfl rfl) ?_
       refine zl (r := b r38) (LOp.extract rfl rfl rfl) ?_
       refine ROps.d (r := optr 1 2 0) (fs := [(1, zMx)]) (Γ' := [⟨1, some (mXc r4 r5 r6)⟩, ⟨2, some zMx⟩, ⟨1, none⟩, ⟨0, none⟩, ⟨0, none⟩]) rfl rfl rfl (TOp.alloc_o (g := ⟨1, none⟩) 1 rfl zer26 zok26 rfl) rfl ?_
       refine ROps.store_le (r := agg (mXc r36 r37 r39)) (l' := (mXc r36 r37 r39)) (Γ' := [⟨1, some (mXc r4 r5 r6)⟩, ⟨2, some (mXc r36 r37 r39)⟩, ⟨1, none⟩, ⟨0, none⟩, ⟨0, none⟩]) rfl siz26 rfl rfl rfl aR rfl rfl rfl rfl (Nat.le_of_ble_eq_true rfl) rfl rfl ?_
       refine za (r := b r38) ?_
       refine zN ?_
       exact ⟨r36, r37, r39, r38, (Le.of ⟨aR, aR, aR, aR, aR, trivial⟩ ⟨⟨rfl, .inr rfl⟩, ⟨rfl, .inr rfl⟩, ⟨rfl, .inl rfl⟩, ⟨rfl, .inr rfl⟩, ⟨rfl, .inr rfl⟩, trivial⟩), h⟩
      ·replace h := (osum_inr _ _ _).symm.trans h
       obtain ⟨r40, r41, r42, r43, hz31, h⟩ := obind4_some h
       cases hz31
       refine RunC.regionW ?_
       refine ROps.d (r := agg (mXc r4 r5 r6)) (fs := []) (Γ' := [⟨1, some (mXc r4 r5 r6)⟩, ⟨1, none⟩, ⟨1, none⟩, ⟨0, none⟩, ⟨0, none⟩]) rfl rfl rfl (TOp.loadAgg_o rfl agg26 siz26 rfl rfl rfl rfl) rfl ?_
       refine ROps.d (r := tup [agg (mXc r40 r41 r42), b r43]) (fs := []) (Γ' := [⟨1, some (mXc r4 r5 r6)⟩, ⟨1, none⟩, ⟨1, none⟩, ⟨0, none⟩, ⟨0, none⟩]) rfl rfl rfl (TOp.call (CallAs.le (CallAs.func ent45 rfl rfl) (ALes.cons aR (ALes.cons aR ALes.nil))) (lts_cons (lt_agg (lts_cons rfl (lts_cons rfl (lts_cons (lt_sl (fun _ => rfl)) lts_nil)))) (lts_cons rfl lts_nil)) (lt_tup (lts_cons (lt_agg (lts_cons rfl (lts_cons rfl (lts_cons (lt_sl (fun _ => rfl)) lts_nil)))) (lts_cons rfl lts_nil))) (i_PowerMatrix_ok1 r4 r5 r6 0 r40 r41 r42 r43 hf41)) rfl ?_
       refine zm (r := tup [agg (mXc r40 r41 r42), b r43]) ?_
       refine zl (r := agg (mXc r40 r41 r42)) (LOp.extract rfl rfl rfl) ?_
       refine zl (r := b r43) (LOp.extract rfl rfl rfl) ?_
       refine ROps.d (r := optr 1 2 0) (fs := [(1, zMx)]) (Γ' := [⟨1, some (mXc r4 r5 r6)⟩, ⟨2, some zMx⟩, ⟨1, none⟩, ⟨0, none⟩, ⟨0, none⟩]) rfl rfl rfl (TOp.alloc_o (g := ⟨1, none⟩) 1 rfl zer26 zok26 rfl) rfl ?_
       refine ROps.store_le (r := agg (mXc r40 r41 r42)) (l' := (mXc r40 r41 r42)) (Γ' := [⟨1, some (mXc r4 r5 r6)⟩, ⟨2, some (mXc r40 r41 r42)⟩, ⟨1, none⟩, ⟨0, none⟩, ⟨0, none⟩]) rfl siz26 rfl rfl rfl aR rfl rfl rfl rfl (Nat.le_of_ble_eq_true rfl) rfl rfl ?_
       refine za (r := b r43) ?_
       refine zN ?_
       exact ⟨r40, r41, r42, r43, (Le.of ⟨aR, aR, aR, aR, aR, trivial⟩ ⟨⟨rfl, .inr rfl⟩, ⟨rfl, .inr rfl⟩, ⟨rfl, .inl rfl⟩, ⟨rfl, .inr rfl⟩, ⟨rfl, .inr rfl⟩, trivial⟩), h⟩
     ·rintro τ32 Γ32 ⟨v44, v45, l46, w47, hw32, h⟩
      refine RunC.le hw32 ?_
      unfold w_FnOrders_k7 at h
      refine RunC.seq ?_
      obtain ⟨r48, r49, r50, r51, hf42, h⟩ := obind4_some h
      refine RunC.regionW ?_
      refine zm (r := i64 x3) ?_
      refine ROps.d (r := tup [agg (mXc r48 r49 r51), b r50]) (fs := []) (Γ' := [⟨1, some (mXc r4 r5 r6)⟩, ⟨2, some (mXc v44 v45 l46)⟩, ⟨1, none⟩, ⟨0, none⟩, ⟨0, none⟩]) rfl rfl rfl (TOp.callS (CallAs.func ent15 rfl rfl) (ALes.cons aR ALes.nil) (lts_cons rfl lts_nil) (lt_tup (lts_cons (lt_agg (lts_cons rfl (lts_cons rfl (lts_cons (lt_sl (fun _ => rfl)) lts_nil)))) (lts_cons rfl lts_nil))) (i_UnitMatrix_ok x3 r48 r49 r50 r51 hf42) (Bor.tup (Bors.cons (Bor.agg (Bors.cons (Bor.pure rfl) (Bors.cons (Bor.pure rfl) (Bors.cons (Bor.own (f := f32) (fun _ => rfl) rfl rfl) Bors.nil)))) (Bors.cons (Bor.pure rfl) Bors.nil)))) rfl ?_
      refine zm (r := tup [agg (mXc r48 r49 r51), b r50]) ?_
      refine zl (r := agg (mXc r48 r49 r51)) (LOp.extract rfl rfl rfl) ?_
      refine zl (r := b r50) (LOp.extract rfl rfl rfl) ?_
      refine ROps.d (r := optr 2 2 0) (fs := [(2, zMx)]) (Γ' := [⟨1, some (mXc r4 r5 r6)⟩, ⟨2, some (mXc v44 v45 l46)⟩, ⟨2, some zMx⟩, ⟨0, none⟩, ⟨0, none⟩]) rfl rfl rfl (TOp.alloc_o (g := ⟨1, none⟩) 2 rfl zer26 zok26 rfl) rfl ?_
      refine ROps.store_le (r := agg (mXc r48 r49 r51)) (l' := (mXc r48 r49 r51)) (Γ' := [⟨1, some (mXc r4 r5 r6)⟩, ⟨2, some (mXc v44 v45 l46)⟩, ⟨2, some (mXc r48 r49 r51)⟩, ⟨0, none⟩, ⟨0, none⟩]) rfl siz26 rfl rfl rfl aR rfl rfl rfl rfl (Nat.le_of_ble_eq_true rfl) rfl rfl ?_
      refine za (r := b r50) ?_
      refine zN ?_
      refine RunC.seq ?_
      refine RunC.cutN (fun τ Γ => ∃ (v60 : Int) (v61 : Int) (l62 : List F) (w63 : Bool), Le 703 τ Γ [(1, sl a1.length (a1.map (ik .u8))), (5, i64 x3), (6, optr 0 1 0), (19, optr 1 2 0), (20, b w47), (21, optr 2 2 0), (22, b r50), (23, optr 3 1 0), (24, b w63)] [⟨1, some (mXc r4 r5 r6)⟩, ⟨2, some (mXc v44 v45 l46)⟩, ⟨2, some (mXc r48 r49 r51)⟩, ⟨1, some (mXc v60 v61 l62)⟩, ⟨0, none⟩] ∧ w_FnOrders_k9 a1 x3 r4 r5 r6 v44 v45 l46 w47 r48 r49 r50 r51 v60 v61 l62 w63 = some q0) ?_ ?_
      ·obtain ⟨z33, hf43, h⟩ := obind_some h
       rcases z33 with z33 | z33
       ·replace h := (osum_inl _ _ _).symm.trans h
        obtain ⟨r52, r53, r54, r55, hz34, h⟩ := obind4_some h
        cases hz34
        refine RunC.regionW ?_
        refine ROps.d (r := agg (mXc r4 r5 r6)) (fs := []) (Γ' := [⟨1, some (mXc r4 r5 r6)⟩, ⟨2, some (mXc v44 v45 l46)⟩, ⟨2, some (mXc r48 r49 r51)⟩, ⟨0, none⟩, ⟨0, none⟩]) rfl rfl rfl (TOp.loadAgg_o rfl agg26 siz26 rfl rfl rfl rfl) rfl ?_
        refine ROps.d (r := tup [agg (mXc r52 r53 r55), b r54]) (fs := []) (Γ' := [⟨1, some (mXc r4 r5 r6)⟩, ⟨2, some (mXc v44 v45 l46)⟩, ⟨2, some (mXc r48 r49 r51)⟩, ⟨0, none⟩, ⟨0, none⟩]) rfl rfl rfl (TOp.callS (CallAs.func ent45 rfl rfl) (ALes.cons aR (ALes.cons aR ALes.nil)) (lts_cons (lt_agg (lts_cons rfl (lts_cons rfl (lts_cons (lt_sl (fun _ => rfl)) lts_nil)))) (lts_cons rfl lts_nil)) (lt_tup (lts_cons (lt_agg (lts_cons rfl (lts_cons rfl (lts_cons (lt_sl (fun _ => rfl)) lts_nil)))) (lts_cons rfl lts_nil))) (i_PowerMatrix_ok0 r4 r5 r6 2 r52 r53 r54 r55 hf43) (Bor.tup (Bors.cons (Bor.agg (Bors.cons (Bor.pure rfl) (Bors.cons (Bor.pure rfl) (Bors.cons (Bor.own (f := f32) (fun _ => rfl) rfl rfl) Bors.nil)))) (Bors.cons (Bor.pure rfl) Bors.nil)))) rfl ?_
        refine zm (r := tup [agg (mXc r52 r53 r55), b r54]) ?_
        refine zl (r := agg (mXc r52 r53 r55)) (LOp.extract rfl rfl rfl) ?_
        refine zl (r := b r54) (LOp.extract rfl rfl rfl) ?_
        refine ROps.d (r := optr 3 1 0) (fs := [(3, zMx)]) (Γ' := [⟨1, some (mXc r4 r5 r6)⟩, ⟨2, some (mXc v44 v45 l46)⟩, ⟨2, some (mXc r48 r49 r51)⟩, ⟨1, some zMx⟩, ⟨0, none⟩]) rfl rfl rfl (TOp.alloc_o (g := ⟨0, none⟩) 3 rfl zer26 zok26 rfl) rfl ?_
        refine ROps.store_le (r := agg (mXc r52 r53 r55)) (l' := (mXc r52 r53 r55)) (Γ' := [⟨1, some (mXc r4 r5 r6)⟩, ⟨2, some (mXc v44 v45 l46)⟩, ⟨2, some (mXc r48 r49 r51)⟩, ⟨1, some (mXc r52 r53 r55)⟩, ⟨0, none⟩]) rfl siz26 rfl rfl rfl aR rfl rfl rfl rfl (Nat.le_of_ble_eq_true rfl) rfl rfl ?_
        refine za (r := b r54) ?_
        refine zN ?_
        exact ⟨r52, r53, r55, r54, (Le.of ⟨aR, aR, aR, aR, aR, aR, aR, aR, aR, trivial⟩ ⟨⟨rfl, .inr rfl⟩, ⟨rfl, .inr rfl⟩, ⟨rfl, .inr rfl⟩, ⟨rfl, .inr rfl⟩, ⟨rfl, .inr rfl⟩, trivial⟩), h⟩
       ·replace h := (osum_inr _ _ _).symm.trans h
        obtain ⟨r56, r57, r58, r59, hz35, h⟩ := obind4_some h
        cases hz35
        refine RunC.regionW ?_
        refine ROps.d (r := agg (mXc r4 r5 r6)) (fs := []) (Γ' := [⟨1, some (mXc r4 r5 r6)⟩, ⟨2, some (mXc v44 v45 l46)⟩, ⟨2, some (mXc r48 r49 r51)⟩, ⟨0, none⟩, ⟨0, none⟩]) rfl rfl rfl (TOp.loadAgg_o rfl agg26 siz26 rfl rfl rfl rfl) rfl ?_
        refine ROps.d (r := tup [agg (mXc r56 r57 r58), b r59]) (fs := []) (Γ' := [⟨1, some (mXc r4 r5 r6)⟩, ⟨2, some (mXc v44 v45 l46)⟩, ⟨2, some (mXc r48 r49 r51)⟩, ⟨0, none⟩, ⟨0, none⟩]) rfl rfl rfl (TOp.call (CallAs.le (CallAs.func ent45 rfl rfl) (ALes.cons aR (ALes.cons aR ALes.nil))) (lts_cons (lt_agg (lts_cons rfl (lts_cons rfl (lts_cons (lt_sl (fun _ => rfl)) lts_nil)))) (lts_cons rfl lts_nil)) (lt_tup (lts_cons (lt_agg (lts_cons rfl (lts_cons rfl (lts_cons (lt_sl (fun _ => rfl)) lts_nil)))) (lts_cons rfl lts_nil))) (i_PowerMatrix_ok1 r4 r5 r6 2 r56 r57 r58 r59 hf43)) rfl ?_
        refine zm (r := tup [agg (mXc r56 r57 r58), b r59]) ?_
        refine zl (r := agg (mXc r56 r57 r58)) (LOp.extract rfl rfl rfl) ?_
        refine zl (r := b r59) (LOp.extract rfl rfl rfl) ?_
        refine ROps.d (r := optr 3 1 0) (fs := [(3, zMx)]) (Γ' := [⟨1, some (mXc r4 r5 r6)⟩, ⟨2, some (mXc v44 v45 l46)⟩, ⟨2, some (mXc r48 r49 r51)⟩, ⟨1, some zMx⟩, ⟨0, none⟩]) rfl rfl rfl (TOp.alloc_o (g := ⟨0, none⟩) 3 rfl zer26 zok26 rfl) rfl ?_
        refine ROps.store_le (r := agg (mXc r56 r57 r58)) (l' := (mXc r56 r57 r58)) (Γ' := [⟨1, some (mXc r4 r5 r6)⟩, ⟨2, some (mXc v44 v45 l46)⟩, ⟨2, some (mXc r48 r49 r51)⟩, ⟨1, some (mXc r56 r57 r58)⟩, ⟨0, none⟩]) rfl siz26 rfl rfl rfl aR rfl rfl rfl rfl (Nat.le_of_ble_eq_true rfl) rfl rfl ?_
        refine za (r := b r59) ?_
        refine zN ?_
        exact ⟨r56, r57, r58, r59, (Le.of ⟨aR, aR, aR, aR, aR, aR, aR, aR, aR, trivial⟩ ⟨⟨rfl, .inr rfl⟩, ⟨rfl, .inr rfl⟩, ⟨rfl, .inr rfl⟩, ⟨rfl, .inr rfl⟩, ⟨rfl, .inr rfl⟩, trivial⟩), h⟩
      ·rintro τ36 Γ36 ⟨v60, v61, l62, w63, hw36, h⟩
       refine RunC.le hw36 ?_
       unfold w_FnOrders_k9 at h
       refine RunC.seq ?_
       obtain ⟨r64, r65, r66, r67, hf44, h⟩ := obind4_some h
       refine RunC.regionW ?_
       iterate 2 (refine ROps.d (r := agg (mXc r4 r5 r6)) (fs := []) (Γ' := [⟨1, some (mXc r4 r5 r6)⟩, ⟨2, some (mXc v44 v45 l46)⟩, ⟨2, some (mXc r48 r49 r51)⟩, ⟨1, some (mXc v60 v61 l62)⟩, ⟨0, none⟩]) rfl rfl rfl (TOp.loadAgg_o rfl agg26 siz26 rfl rfl rfl rfl) rfl ?_)
       refine ROps.d (r := tup [agg (mXc r64 r65 r67), b r66]) (fs := []) (Γ' := [⟨1, some (mXc r4 r5 r6)⟩, ⟨2, some (mXc v44 v45 l46)⟩, ⟨2, some (mXc r48 r49 r51)⟩, ⟨1, some (mXc v60 v61 l62)⟩, ⟨0, none⟩]) rfl rfl rfl (TOp.callS (CallAs.func ent11 rfl rfl) (ALes.cons aR (ALes.cons aR ALes.nil)) (lts_cons (lt_agg (lts_cons rfl (lts_cons rfl (lts_cons (lt_sl (fun _ => rfl)) lts_nil)))) (lts_cons (lt_agg (lts_cons rfl (lts_cons rfl (lts_cons (lt_sl (fun _ => rfl)) lts_nil)))) lts_nil)) (lt_tup (lts_cons (lt_agg (lts_cons rfl (lts_cons rfl (lts_cons (lt_sl (fun _ => rfl)) lts_nil)))) (lts_cons rfl lts_nil))) (i_MulMatrices_ok r4 r5 r6 r4 r5 r6 r64 r65 r66 r67 hf44) (Bor.tup (Bors.cons (Bor.agg (Bors.cons (Bor.pure rfl) (Bors.cons (Bor.pure rfl) (Bors.cons (Bor.own (f := f32) (fun _ => rfl) rfl rfl) Bors.nil)))) (Bors.cons (Bor.pure rfl) Bors.nil)))) rfl ?_
       refine zm (r := tup [agg (mXc r64 r65 r67), b r66]) ?_
       refine zl (r := agg (mXc r64 r65 r67)) (LOp.extract rfl rfl rfl) ?_
       refine zl (r := b r66) (LOp.extract rfl rfl rfl) ?_
       refine ROps.d (r := optr 4 1 0) (fs := [(4, zMx)]) (Γ' := [⟨1, some (mXc r4 r5 r6)⟩, ⟨2, some (mXc v44 v45 l46)⟩, ⟨2, some (mXc r48 r49 r51)⟩, ⟨1, some (mXc v60 v61 l62)⟩, ⟨1, some zMx⟩]) rfl rfl rfl (TOp.alloc_o (g := ⟨0, none⟩) 4 rfl zer26 zok26 rfl) rfl ?_
       refine ROps.store_le (r := agg (mXc r64 r65 r67)) (l' := (mXc r64 r65 r67)) (Γ' := [⟨1, some (mXc r4 r5 r6)⟩, ⟨2, some (mXc v44 v45 l46)⟩, ⟨2, some (mXc r48 r49 r51)⟩, ⟨1, some (mXc v60 v61 l62)⟩, ⟨1, some (mXc r64 r65 r67)⟩]) rfl siz26 rfl rfl rfl aR rfl rfl rfl rfl (Nat.le_of_ble_eq_true rfl) rfl rfl ?_
       refine za (r := b r66) ?_
       refine zN ?_
       refine RunC.wl (τ' := [(1, sl a1.length (a1.map (ik .u8))), (5, i64 x3), (19, optr 1 2 0), (20, b w47), (21, optr 2 2 0), (22, b r50), (23, optr 3 1 0), (24, b w63), (25, optr 4 1 0), (26, b r66)]) (Γ' := [⟨1, none⟩, ⟨2, some (mXc v44 v45 l46)⟩, ⟨2, some (mXc r48 r49 r51)⟩, ⟨1, some (mXc v60 v61 l62)⟩, ⟨1, some (mXc r64 r65 r67)⟩]) ⟨aR, aR, aR, aR, aR, aR, aR, aR, aR, aR, trivial⟩ ⟨⟨rfl, .inl rfl⟩, ⟨rfl, .inr rfl⟩, ⟨rfl, .inr rfl⟩, ⟨rfl, .inr rfl⟩, ⟨rfl, .inr rfl⟩, trivial⟩ ?_
       refine RunC.seq ?_
       obtain ⟨r68, r69, hf45, h⟩ := obind2_some h
       refine RunC.regionW ?_
       refine ROps.d (r := agg (mXc r48 r49 r51)) (fs := []) (Γ' := [⟨1, none⟩, ⟨2, some (mXc v44 v45 l46)⟩, ⟨2, some (mXc r48 r49 r51)⟩, ⟨1, some (mXc v60 v61 l62)⟩, ⟨1, some (mXc r64 r65 r67)⟩]) rfl rfl rfl (TOp.loadAgg_o rfl agg26 siz26 rfl rfl rfl rfl) rfl ?_
       refine ROps.d (r := tup [f32 r68, b r69]) (fs := []) (Γ' := [⟨1, none⟩, ⟨2, some (mXc v44 v45 l46)⟩, ⟨2, some (mXc r48 r49 r51)⟩, ⟨1, some (mXc v60 v61 l62)⟩, ⟨1, some (mXc r64 r65 r67)⟩]) rfl rfl rfl (TOp.callB (CallAs.func ent46 rfl rfl) (Bors.cons (Bor.agg (Bors.cons (Bor.pure rfl) (Bors.cons (Bor.pure rfl) (Bors.cons (Bor.sl (fun _ => rfl)) Bors.nil)))) Bors.nil) rfl rfl (i_TraceOf_ok r48 r49 r51 r68 r69 hf45)) rfl ?_
       refine zm (r := tup [f32 r68, b r69]) ?_
       refine zl (r := f32 r68) (LOp.extract rfl rfl rfl) ?_
       refine zl (r := b r69) (LOp.extract rfl rfl rfl) ?_
       refine za (r := f32 r68) ?_
       refine za (r := b r69) ?_
       refine zN ?_
       iterate 2 (refine RunC.seq ?_)
       refine RunC.cutN (fun τ Γ => ( Le 703 τ Γ [(1, sl a1.length (a1.map (ik .u8))), (5, i64 x3), (21, optr 2 2 0), (23, optr 3 1 0), (25, optr 4 1 0), (231, b true)] [⟨1, none⟩, ⟨2, none⟩, ⟨2, some (mXc r48 r49 r51)⟩, ⟨1, some (mXc v60 v61 l62)⟩, ⟨1, some (mXc r64 r65 r67)⟩] ∧ w_FnOrders_k11 = some q0) ∨ ( Le 703 τ Γ [(1, sl a1.length (a1.map (ik .u8))), (5, i64 x3), (21, optr 2 2 0), (23, optr 3 1 0), (25, optr 4 1 0), (231, b false)] [⟨1, none⟩, ⟨2, none⟩, ⟨2, some (mXc r48 r49 r51)⟩, ⟨1, some (mXc v60 v61 l62)⟩, ⟨1, some (mXc r64 r65 r67)⟩] ∧ w_FnOrders_k13 a1 x3 r48 r49 r51 l62 r67 = some q0)) ?_ ?_
       ·rcases bsel_some h with ⟨hc46, h⟩ | ⟨hc46, h⟩
        ·rcases bsel_some h with ⟨hc47, h⟩ | ⟨hc47, h⟩
         ·rcases bsel_some h with ⟨hc48, h⟩ | ⟨hc48, h⟩
          ·rcases bsel_some h with ⟨hc49, h⟩ | ⟨hc49, h⟩
           ·rcases bsel_some h with ⟨hc50, h⟩ | ⟨hc50, h⟩
            ·obtain ⟨r70, hf51, h⟩ := obind_some h
             rcases bsel_some h with ⟨hc52, h⟩ | ⟨hc52, h⟩
             ·rcases bsel_some h with ⟨hc53, h⟩ | ⟨hc53, h⟩
              ·refine RunC.regionW ?_
               refine zl (r := b true) (LOp.eqb (LOp.move rfl rfl) hc46) ?_
               refine zl (r := b false) (LOp.eqb (LOp.not rfl rfl) rfl) ?_
               refine zm (r := b false) ?_
               refine zl (r := b true) (LOp.eqb (LOp.move rfl rfl) hc47) ?_
               refine zl (r := b false) (LOp.eqb (LOp.not rfl rfl) rfl) ?_
               refine zl (r := b false) (LOp.pick_false rfl rfl rfl) ?_
               refine zm (r := b false) ?_
               refine zl (r := b true) (LOp.eqb (LOp.move rfl rfl) hc48) ?_
               refine zl (r := b false) (LOp.eqb (LOp.not rfl rfl) rfl) ?_
               refine zl (r := b false) (LOp.pick_false rfl rfl rfl) ?_
               refine zm (r := b false) ?_
               refine zl (r := b true) (LOp.eqb (LOp.move rfl rfl) hc49) ?_
               refine zl (r := b false) (LOp.eqb (LOp.not rfl rfl) rfl) ?_
               refine zl (r := b false) (LOp.pick_false rfl rfl rfl) ?_
               refine zm (r := b false) ?_
               refine zl (r := b true) (LOp.eqb (LOp.move rfl rfl) hc50) ?_
               refine zl (r := b false) (LOp.eqb (LOp.not rfl rfl) rfl) ?_
               refine zl (r := b false) (LOp.pick_false rfl rfl rfl) ?_
               refine zm (r := b false) ?_
               refine ROps.d (r := agg (mXc v44 v45 l46)) (fs := []) (Γ' := [⟨1, none⟩, ⟨2, some (mXc v44 v45 l46)⟩, ⟨2, some (mXc r48 r49 r51)⟩, ⟨1, some (mXc v60 v61 l62)⟩, ⟨1, some (mXc r64 r65 r67)⟩]) rfl rfl rfl (TOp.loadAgg_o rfl agg26 siz26 rfl rfl rfl rfl) rfl ?_
               refine ROps.d (r := agg (mXc r48 r49 r51)) (fs := []) (Γ' := [⟨1, none⟩, ⟨2, some (mXc v44 v45 l46)⟩, ⟨2, some (mXc r48 r49 r51)⟩, ⟨1, some (mXc v60 v61 l62)⟩, ⟨1, some (mXc r64 r65 r67)⟩]) rfl rfl rfl (TOp.loadAgg_o rfl agg26 siz26 rfl rfl rfl rfl) rfl ?_
               refine ROps.d (r := b true) (fs := []) (Γ' := [⟨1, none⟩, ⟨2, some (mXc v44 v45 l46)⟩, ⟨2, some (mXc r48 r49 r51)⟩, ⟨1, some (mXc v60 v61 l62)⟩, ⟨1, some (mXc r64 r65 r67)⟩]) rfl rfl rfl (TOp.eqb (TOp.callB (CallAs.func ent16 rfl rfl) (Bors.cons (Bor.agg (Bors.cons (Bor.pure rfl) (Bors.cons (Bor.pure rfl) (Bors.cons (Bor.sl (fun _ => rfl)) Bors.nil)))) (Bors.cons (Bor.agg (Bors.cons (Bor.pure rfl) (Bors.cons (Bor.pure rfl) (Bors.cons (Bor.sl (fun _ => rfl)) Bors.nil)))) Bors.nil)) rfl rfl (i_SameMatrix_ok v44 v45 l46 r48 r49 r51 r70 hf51)) hc52) rfl ?_
               refine zl (r := b false) (LOp.eqb (LOp.not rfl rfl) rfl) ?_
               refine zl (r := b false) (LOp.pick_false rfl rfl rfl) ?_
               refine zm (r := b false) ?_
               refine zl (r := optr 3 1 2) (LOp.fao und26 rfl siz24 rfl rfl rfl) ?_
               refine ROps.d (r := (sFc l62)) (fs := []) (Γ' := [⟨1, none⟩, ⟨2, some (mXc v44 v45 l46)⟩, ⟨2, some (mXc r48 r49 r51)⟩, ⟨1, some (mXc v60 v61 l62)⟩, ⟨1, some (mXc r64 r65 r67)⟩]) rfl rfl rfl (TOp.load1_o rfl rfl agg24 rfl rfl) rfl ?_
               refine zl (r := i64 (l62.length : Int)) (LOp.len_sl und24 rfl rfl) ?_
               refine zl (r := optr 4 1 2) (LOp.fao und26 rfl siz24 rfl rfl rfl) ?_
               refine ROps.d (r := (sFc r67)) (fs := []) (Γ' := [⟨1, none⟩, ⟨2, some (mXc v44 v45 l46)⟩, ⟨2, some (mXc r48 r49 r51)⟩, ⟨1, some (mXc v60 v61 l62)⟩, ⟨1, some (mXc r64 r65 r67)⟩]) rfl rfl rfl (TOp.load1_o rfl rfl agg24 rfl rfl) rfl ?_
               refine zl (r := i64 (r67.length : Int)) (LOp.len_sl und24 rfl rfl) ?_
               refine zl (r := b true) (LOp.eqb (LOp.neq rfl rfl rfl) hc53) ?_
               refine zl (r := b true) (LOp.pick_false rfl rfl rfl) ?_
               refine zm (r := b true) ?_
               iterate 4 (refine ROps.s rfl rfl rfl ?_)
               refine zl (r := b true) (LOp.pick_true rfl rfl rfl) ?_
               refine zN ?_
               exact .inl ⟨(Le.of ⟨aR, aR, aR, aR, aR, aR, trivial⟩ ⟨⟨rfl, .inl rfl⟩, ⟨rfl, .inl rfl⟩, ⟨rfl, .inr rfl⟩, ⟨rfl, .inr rfl⟩, ⟨rfl, .inr rfl⟩, trivial⟩), h⟩
              ·obtain ⟨x71, hx54, h⟩ := olet_some h
               rcases bsel_some h with ⟨hc55, h⟩ | ⟨hc55, h⟩
               ·refine RunC.regionW ?_
                refine zl (r := b true) (LOp.eqb (LOp.move rfl rfl) hc46) ?_
                refine zl (r := b false) (LOp.eqb (LOp.not rfl rfl) rfl) ?_
                refine zm (r := b false) ?_
                refine zl (r := b true) (LOp.eqb (LOp.move rfl rfl) hc47) ?_
                refine zl (r := b false) (LOp.eqb (LOp.not rfl rfl) rfl) ?_
                refine zl (r := b false) (LOp.pick_false rfl rfl rfl) ?_
                refine zm (r := b false) ?_
                refine zl (r := b true) (LOp.eqb (LOp.move rfl rfl) hc48) ?_
                refine zl (r := b false) (LOp.eqb (LOp.not rfl rfl) rfl) ?_
                refine zl (r := b false) (LOp.pick_false rfl rfl rfl) ?_
                refine zm (r := b false) ?_
                refine zl (r := b true) (LOp.eqb (LOp.move rfl rfl) hc49) ?_
                refine zl (r := b false) (LOp.eqb (LOp.not rfl rfl) rfl) ?_
                refine zl (r := b false) (LOp.pick_false rfl rfl rfl) ?_
                refine zm (r := b false) ?_
                refine zl (r := b true) (LOp.eqb (LOp.move rfl rfl) hc50) ?_
                refine zl (r := b false) (LOp.eqb (LOp.not rfl rfl) rfl) ?_
                refine zl (r := b false) (LOp.pick_false rfl rfl rfl) ?_
                refine zm (r := b false) ?_
                refine ROps.d (r := agg (mXc v44 v45 l46)) (fs := []) (Γ' := [⟨1, none⟩, ⟨2, some (mXc v44 v45 l46)⟩, ⟨2, some (mXc r48 r49 r51)⟩, ⟨1, some (mXc v60 v61 l62)⟩, ⟨1, some (mXc r64 r65 r67)⟩]) rfl rfl rfl (TOp.loadAgg_o rfl agg26 siz26 rfl rfl rfl rfl) rfl ?_
                refine ROps.d (r := agg (mXc r48 r49 r51)) (fs := []) (Γ' := [⟨1, none⟩, ⟨2, some (mXc v44 v45 l46)⟩, ⟨2, some (mXc r48 r49 r51)⟩, ⟨1, some (mXc v60 v61 l62)⟩, ⟨1, some (mXc r64 r65 r67)⟩]) rfl rfl rfl (TOp.loadAgg_o rfl agg26 siz26 rfl rfl rfl rfl) rfl ?_
                refine ROps.d (r := b true) (fs := []) (Γ' := [⟨1, none⟩, ⟨2, some (mXc v44 v45 l46)⟩, ⟨2, some (mXc r48 r49 r51)⟩, ⟨1, some (mXc v60 v61 l62)⟩, ⟨1, some (mXc r64 r65 r67)⟩]) rfl rfl rfl (TOp.eqb (TOp.callB (CallAs.func ent16 rfl rfl) (Bors.cons (Bor.agg (Bors.cons (Bor.pure rfl) (Bors.cons (Bor.pure rfl) (Bors.cons (Bor.sl (fun _ => rfl)) Bors.nil)))) (Bors.cons (Bor.agg (Bors.cons (Bor.pure rfl) (Bors.cons (Bor.pure rfl) (Bors.cons (Bor.sl (fun _ => rfl)) Bors.nil)))) Bors.nil)) rfl rfl (i_SameMatrix_ok v44 v45 l46 r48 r49 r51 r70 hf51)) hc52) rfl ?_
                refine zl (r := b false) (LOp.eqb (LOp.not rfl rfl) rfl) ?_
                refine zl (r := b false) (LOp.pick_false rfl rfl rfl) ?_
                refine zm (r := b false) ?_
                refine zl (r := optr 3 1 2) (LOp.fao und26 rfl siz24 rfl rfl rfl) ?_
                refine ROps.d (r := (sFc l62)) (fs := []) (Γ' := [⟨1, none⟩, ⟨2, some (mXc v44 v45 l46)⟩, ⟨2, some (mXc r48 r49 r51)⟩, ⟨1, some (mXc v60 v61 l62)⟩, ⟨1, some (mXc r64 r65 r67)⟩]) rfl rfl rfl (TOp.load1_o rfl rfl agg24 rfl rfl) rfl ?_
                refine zl (r := i64 (l62.length : Int)) (LOp.len_sl und24 rfl rfl) ?_
                refine zl (r := optr 4 1 2) (LOp.fao und26 rfl siz24 rfl rfl rfl) ?_
                refine ROps.d (r := (sFc r67)) (fs := []) (Γ' := [⟨1, none⟩, ⟨2, some (mXc v44 v45 l46)⟩, ⟨2, some (mXc r48 r49 r51)⟩, ⟨1, some (mXc v60 v61 l62)⟩, ⟨1, some (mXc r64 r65 r67)⟩]) rfl rfl rfl (TOp.load1_o rfl rfl agg24 rfl rfl) rfl ?_
                refine zl (r := i64 (r67.length : Int)) (LOp.len_sl und24 rfl rfl) ?_
                refine zl (r := b false) (LOp.eqb (LOp.neq rfl rfl rfl) hc53) ?_
                refine zl (r := b false) (LOp.pick_false rfl rfl rfl) ?_
                refine zm (r := b false) ?_
                refine zm (r := f32 r68) ?_
                refine zm (r := i64 x3) ?_
                refine zl (r := f32 x71) (LOp.eqr (LOp.i2f (src := 2) (dst := 36) ⟨_, pun2⟩ pun36 rfl rfl) (congrArg (f .f32) hx54)) ?_
                refine zl (r := b true) (LOp.eqb (LOp.fne rfl (OpF.tmp rfl) (OpF.tmp rfl)) hc55) ?_
                refine zl (r := b true) (LOp.pick_false rfl rfl rfl) ?_
                refine zN ?_
                exact .inl ⟨(Le.of ⟨aR, aR, aR, aR, aR, aR, trivial⟩ ⟨⟨rfl, .inl rfl⟩, ⟨rfl, .inl rfl⟩, ⟨rfl, .inr rfl⟩, ⟨rfl, .inr rfl⟩, ⟨rfl, .inr rfl⟩, trivial⟩), h⟩
               ·refine RunC.regionW ?_
                refine zl (r := b true) (LOp.eqb (LOp.move rfl rfl) hc46) ?_
                refine zl (r := b false) (LOp.eqb (LOp.not rfl rfl) rfl) ?_
                refine zm (r := b false) ?_
                refine zl (r := b true) (LOp.eqb (LOp.move rfl rfl) hc47) ?_
                refine zl (r := b false) (LOp.eqb (LOp.not rfl rfl) rfl) ?_
                refine zl (r := b false) (LOp.pick_false rfl rfl rfl) ?_
                refine zm (r := b false) ?_
                refine zl (r := b true) (LOp.eqb (LOp.move rfl rfl) hc48) ?_
                refine zl (r := b false) (LOp.eqb (LOp.not rfl rfl) rfl) ?_
                refine zl (r := b false) (LOp.pick_false rfl rfl rfl) ?_
                refine zm (r := b false) ?_
                refine zl (r := b true) (LOp.eqb (LOp.move rfl rfl) hc49) ?_
                refine zl (r := b false) (LOp.eqb (LOp.not rfl rfl) rfl) ?_
                refine zl (r := b false) (LOp.pick_false rfl rfl rfl) ?_
                refine zm (r := b false) ?_
                refine zl (r := b true) (LOp.eqb (LOp.move rfl rfl) hc50) ?_
                refine zl (r := b false) (LOp.eqb (LOp.not rfl rfl) rfl) ?_
                refine zl (r := b false) (LOp.pick_false rfl rfl rfl) ?_
                refine zm (r := b false) ?_
                refine ROps.d (r := agg (mXc v44 v45 l46)) (fs := []) (Γ' := [⟨1, none⟩, ⟨2, some (mXc v44 v45 l46)⟩, ⟨2, some (mXc r48 r49 r51)⟩, ⟨1, some (mXc v60 v61 l62)⟩, ⟨1, some (mXc r64 r65 r67)⟩]) rfl rfl rfl (TOp.loadAgg_o rfl agg26 siz26 rfl rfl rfl rfl) rfl ?_
                refine ROps.d (r := agg (mXc r48 r49 r51)) (fs := []) (Γ' := [⟨1, none⟩, ⟨2, some (mXc v44 v45 l46)⟩, ⟨2, some (mXc r48 r49 r51)⟩, ⟨1, some (mXc v60 v61 l62)⟩, ⟨1, some (mXc r64 r65 r67)⟩]) rfl rfl rfl (TOp.loadAgg_o rfl agg26 siz26 rfl rfl rfl rfl) rfl ?_
                refine ROps.d (r := b true) (fs := []) (Γ' := [⟨1, none⟩, ⟨2, some (mXc v44 v45 l46)⟩, ⟨2, some (mXc r48 r49 r51)⟩, ⟨1, some (mXc v60 v61 l62)⟩, ⟨1, some (mXc r64 r65 r67)⟩]) rfl rfl rfl (TOp.eqb (TOp.callB (CallAs.func ent16 rfl rfl) (Bors.cons (Bor.agg (Bors.cons (Bor.pure rfl) (Bors.cons (Bor.pure rfl) (Bors.cons (Bor.sl (fun _ => rfl)) Bors.nil)))) (Bors.cons (Bor.agg (Bors.cons (Bor.pure rfl) (Bors.cons (Bor.pure rfl) (Bors.cons (Bor.sl (fun _ => rfl)) Bors.nil)))) Bors.nil)) rfl rfl (i_SameMatrix_ok v44 v45 l46 r48 r49 r51 r70 hf51)) hc52) rfl ?_
                refine zl (r := b false) (LOp.eqb (LOp.not rfl rfl) rfl) ?_
                refine zl (r := b false) (LOp.pick_false rfl rfl rfl) ?_
                refine zm (r := b false) ?_
                refine zl (r := optr 3 1 2) (LOp.fao und26 rfl siz24 rfl rfl rfl) ?_
                refine ROps.d (r := (sFc l62)) (fs := []) (Γ' := [⟨1, none⟩, ⟨2, some (mXc v44 v45 l46)⟩, ⟨2, some (mXc r48 r49 r51)⟩, ⟨1, some (mXc v60 v61 l62)⟩, ⟨1, some (mXc r64 r65 r67)⟩]) rfl rfl rfl (TOp.load1_o rfl rfl agg24 rfl rfl) rfl ?_
                refine zl (r := i64 (l62.length : Int)) (LOp.len_sl und24 rfl rfl) ?_
                refine zl (r := optr 4 1 2) (LOp.fao und26 rfl siz24 rfl rfl rfl) ?_
                refine ROps.d (r := (sFc r67)) (fs := []) (Γ' := [⟨1, none⟩, ⟨2, some (mXc v44 v45 l46)⟩, ⟨2, some (mXc r48 r49 r51)⟩, ⟨1, some (mXc v60 v61 l62)⟩, ⟨1, some (mXc r64 r65 r67)⟩]) rfl rfl rfl (TOp.load1_o rfl rfl agg24 rfl rfl) rfl ?_
                refine zl (r := i64 (r67.length : Int)) (LOp.len_sl und24 rfl rfl) ?_
                refine zl (r := b false) (LOp.eqb (LOp.neq rfl rfl rfl) hc53) ?_
                refine zl (r := b false) (LOp.pick_false rfl rfl rfl) ?_
                refine zm (r := b false) ?_
                refine zm (r := f32 r68) ?_
                refine zm (r := i64 x3) ?_
                refine zl (r := f32 x71) (LOp.eqr (LOp.i2f (src := 2) (dst := 36) ⟨_, pun2⟩ pun36 rfl rfl) (congrArg (f .f32) hx54)) ?_
                refine zl (r := b false) (LOp.eqb (LOp.fne rfl (OpF.tmp rfl) (OpF.tmp rfl)) hc55) ?_
                refine zl (r := b false) (LOp.pick_false rfl rfl rfl) ?_
                refine zN ?_
                exact .inr (⟨(Le.of ⟨aR, aR, aR, aR, aR, aR, trivial⟩ ⟨⟨rfl, .inl rfl⟩, ⟨rfl, .inl rfl⟩, ⟨rfl, .inr rfl⟩, ⟨rfl, .inr rfl⟩, ⟨rfl, .inr rfl⟩, trivial⟩), h⟩)
             ·refine RunC.regionW ?_
              refine zl (r := b true) (LOp.eqb (LOp.move rfl rfl) hc46) ?_
              refine zl (r := b false) (LOp.eqb (LOp.not rfl rfl) rfl) ?_
              refine zm (r := b false) ?_
              refine zl (r := b true) (LOp.eqb (LOp.move rfl rfl) hc47) ?_
              refine zl (r := b false) (LOp.eqb (LOp.not rfl rfl) rfl) ?_
              refine zl (r := b false) (LOp.pick_false rfl rfl rfl) ?_
              refine zm (r := b false) ?_
              refine zl (r := b true) (LOp.eqb (LOp.move rfl rfl) hc48) ?_
              refine zl (r := b false) (LOp.eqb (LOp.not rfl rfl) rfl) ?_
              refine zl (r := b false) (LOp.pick_false rfl rfl rfl) ?_
              refine zm (r := b false) ?_
              refine zl (r := b true) (LOp.eqb (LOp.move rfl rfl) hc49) ?_
              refine zl (r := b false) (LOp.eqb (LOp.not rfl rfl) rfl) ?_
              refine zl (r := b false) (LOp.pick_false rfl rfl rfl) ?_
              refine zm (r := b false) ?_
              refine zl (r := b true) (LOp.eqb (LOp.move rfl rfl) hc50) ?_
              refine zl (r := b false) (LOp.eqb (LOp.not rfl rfl) rfl) ?_
              refine zl (r := b false) (LOp.pick_false rfl rfl rfl) ?_
              refine zm (r := b false) ?_
              refine ROps.d (r := agg (mXc v44 v45 l46)) (fs := []) (Γ' := [⟨1, none⟩, ⟨2, some (mXc v44 v45 l46)⟩, ⟨2, some (mXc r48 r49 r51)⟩, ⟨1, some (mXc v60 v61 l62)⟩, ⟨1, some (mXc r64 r65 r67)⟩]) rfl rfl rfl (TOp.loadAgg_o rfl agg26 siz26 rfl rfl rfl rfl) rfl ?_
              refine ROps.d (r := agg (mXc r48 r49 r51)) (fs := []) (Γ' := [⟨1, none⟩, ⟨2, some (mXc v44 v45 l46)⟩, ⟨2, some (mXc r48 r49 r51)⟩, ⟨1, some (mXc v60 v61 l62)⟩, ⟨1, some (mXc r64 r65 r67)⟩]) rfl rfl rfl (TOp.loadAgg_o rfl agg26 siz26 rfl rfl rfl rfl) rfl ?_
              refine ROps.d (r := b false) (fs := []) (Γ' := [⟨1, none⟩, ⟨2, some (mXc v44 v45 l46)⟩, ⟨2, some (mXc r48 r49 r51)⟩, ⟨1, some (mXc v60 v61 l62)⟩, ⟨1, some (mXc r64 r65 r67)⟩]) rfl rfl rfl (TOp.eqb (TOp.callB (CallAs.func ent16 rfl rfl) (Bors.cons (Bor.agg (Bors.cons (Bor.pure rfl) (Bors.cons (Bor.pure rfl) (Bors.cons (Bor.sl (fun _ => rfl)) Bors.nil)))) (Bors.cons (Bor.agg (Bors.cons (Bor.pure rfl) (Bors.cons (Bor.pure rfl) (Bors.cons (Bor.sl (fun _ => rfl)) Bors.nil)))) Bors.nil)) rfl rfl (i_SameMatrix_ok v44 v45 l46 r48 r49 r51 r70 hf51)) hc52) rfl ?_
              refine zl (r := b true) (LOp.eqb (LOp.not rfl rfl) rfl) ?_
              refine zl (r := b true) (LOp.pick_false rfl rfl rfl) ?_
              refine zm (r := b true) ?_
              iterate 7 (refine ROps.s rfl rfl rfl ?_)
              refine zl (r := b true) (LOp.pick_true rfl rfl rfl) ?_
              refine zm (r := b true) ?_
              iterate 4 (refine ROps.s rfl rfl rfl ?_)
              refine zl (r := b true) (LOp.pick_true rfl rfl rfl) ?_
              refine zN ?_
              exact .inl ⟨(Le.of ⟨aR, aR, aR, aR, aR, aR, trivial⟩ ⟨⟨rfl, .inl rfl⟩, ⟨rfl, .inl rfl⟩, ⟨rfl, .inr rfl⟩, ⟨rfl, .inr rfl⟩, ⟨rfl, .inr rfl⟩, trivial⟩), h⟩
            ·refine RunC.regionW ?_
             refine zl (r := b true) (LOp.eqb (LOp.move rfl rfl) hc46) ?_
             refine zl (r := b false) (LOp.eqb (LOp.not rfl rfl) rfl) ?_
             refine zm (r := b false) ?_
             refine zl (r := b true) (LOp.eqb (LOp.move rfl rfl) hc47) ?_
             refine zl (r := b false) (LOp.eqb (LOp.not rfl rfl) rfl) ?_
             refine zl (r := b false) (LOp.pick_false rfl rfl rfl) ?_
             refine zm (r := b false) ?_
             refine zl (r := b true) (LOp.eqb (LOp.move rfl rfl) hc48) ?_
             refine zl (r := b false) (LOp.eqb (LOp.not rfl rfl) rfl) ?_
             refine zl (r := b false) (LOp.pick_false rfl rfl rfl) ?_
             refine zm (r := b false) ?_
             refine zl (r := b true) (LOp.eqb (LOp.move rfl rfl) hc49) ?_
             refine zl (r := b false) (LOp.eqb (LOp.not rfl rfl) rfl) ?_
             refine zl (r := b false) (LOp.pick_false rfl rfl rfl) ?_
             refine zm (r := b false) ?_
             refine zl (r := b false) (LOp.eqb (LOp.move rfl rfl) hc50) ?_
             refine zl (r := b true) (LOp.eqb (LOp.not rfl rfl) rfl) ?_
             refine zl (r := b true) (LOp.pick_false rfl rfl rfl) ?_
             refine zm (r := b true) ?_
             iterate 4 (refine ROps.s rfl rfl rfl ?_)
             refine zl (r := b true) (LOp.pick_true rfl rfl rfl) ?_
             refine zm (r := b true) ?_
             iterate 7 (refine ROps.s rfl rfl rfl ?_)
             refine zl (r := b true) (LOp.pick_true rfl rfl rfl) ?_
             refine zm (r := b true) ?_
             iterate 4 (refine ROps.s rfl rfl rfl ?_)
             refine zl (r := b true) (LOp.pick_true rfl rfl rfl) ?_
             refine zN ?_
             exact .inl ⟨(Le.of ⟨aR, aR, aR, aR, aR, aR, trivial⟩ ⟨⟨rfl, .inl rfl⟩, ⟨rfl, .inl rfl⟩, ⟨rfl, .inr rfl⟩, ⟨rfl, .inr rfl⟩, ⟨rfl, .inr rfl⟩, trivial⟩), h⟩
           ·refine RunC.regionW ?_
            refine zl (r := b true) (LOp.eqb (LOp.move rfl rfl) hc46) ?_
            refine zl (r := b false) (LOp.eqb (LOp.not rfl rfl) rfl) ?_
            refine zm (r := b false) ?_
            refine zl (r := b true) (LOp.eqb (LOp.move rfl rfl) hc47) ?_
            refine zl (r := b false) (LOp.eqb (LOp.not rfl rfl) rfl) ?_
            refine zl (r := b false) (LOp.pick_false rfl rfl rfl) ?_
            refine zm (r := b false) ?_
            refine zl (r := b true) (LOp.eqb (LOp.move rfl rfl) hc48) ?_
            refine zl (r := b false) (LOp.eqb (LOp.not rfl rfl) rfl) ?_
            refine zl (r := b false) (LOp.pick_false rfl rfl rfl) ?_
            refine zm (r := b false) ?_
            refine zl (r := b false) (LOp.eqb (LOp.move rfl rfl) hc49) ?_
            refine zl (r := b true) (LOp.eqb (LOp.not rfl rfl) rfl) ?_
            refine zl (r := b true) (LOp.pick_false rfl rfl rfl) ?_
            refine zm (r := b true) ?_
            iterate 2 (refine ROps.s rfl rfl rfl ?_; refine ROps.s rfl rfl rfl ?_; refine zl (r := b true) (LOp.pick_true rfl rfl rfl) ?_; refine zm (r := b true) ?_; refine ROps.s rfl rfl rfl ?_; refine ROps.s rfl rfl rfl ?_)
            iterate 5 (refine ROps.s rfl rfl rfl ?_)
            refine zl (r := b true) (LOp.pick_true rfl rfl rfl) ?_
            refine zm (r := b true) ?_
            iterate 4 (refine ROps.s rfl rfl rfl ?_)
            refine zl (r := b true) (LOp.pick_true rfl rfl rfl) ?_
            refine zN ?_
            exact .inl ⟨(Le.of ⟨aR, aR, aR, aR, aR, aR, trivial⟩ ⟨⟨rfl, .inl rfl⟩, ⟨rfl, .inl rfl⟩, ⟨rfl, .inr rfl⟩, ⟨rfl, .inr rfl⟩, ⟨rfl, .inr rfl⟩, trivial⟩), h⟩
          ·refine RunC.regionW ?_
           refine zl (r := b true) (LOp.eqb (LOp.move rfl rfl) hc46) ?_
           refine zl (r := b false) (LOp.eqb (LOp.not rfl rfl) rfl) ?_
           refine zm (r := b false) ?_
           refine zl (r := b true) (LOp.eqb (LOp.move rfl rfl) hc47) ?_
           refine zl (r := b false) (LOp.eqb (LOp.not rfl rfl) rfl) ?_
           refine zl (r := b false) (LOp.pick_false rfl rfl rfl) ?_
           refine zm (r := b false) ?_
           refine zl (r := b false) (LOp.eqb (LOp.move rfl rfl) hc48) ?_
           refine zl (r := b true) (LOp.eqb (LOp.not rfl rfl) rfl) ?_
           refine zl (r := b true) (LOp.pick_false rfl rfl rfl) ?_
           iterate 2 (refine zm (r := b true) ?_; refine ROps.s rfl rfl rfl ?_; refine ROps.s rfl rfl rfl ?_; refine zl (r := b true) (LOp.pick_true rfl rfl rfl) ?_)
           refine zm (r := b true) ?_
           iterate 4 (refine ROps.s rfl rfl rfl ?_)
           refine zl (r := b true) (LOp.pick_true rfl rfl rfl) ?_
           refine zm (r := b true) ?_
           iterate 7 (refine ROps.s rfl rfl rfl ?_)
           refine zl (r := b true) (LOp.pick_true rfl rfl rfl) ?_
           refine zm (r := b true) ?_
           iterate 4 (refine ROps.s rfl rfl rfl ?_)
           refine zl (r := b true) (LOp.pick_true rfl rfl rfl) ?_
           refine zN ?_
           exact .inl ⟨(Le.of ⟨aR, aR, aR, aR, aR, aR, trivial⟩ ⟨⟨rfl, .inl rfl⟩, ⟨rfl, .inl rfl⟩, ⟨rfl, .inr rfl⟩, ⟨rfl, .inr rfl⟩, ⟨rfl, .inr rfl⟩, trivial⟩), h⟩
         ·refine RunC.regionW ?_
          refine zl (r := b true) (LOp.eqb (LOp.move rfl rfl) hc46) ?_
          refine zl (r := b false) (LOp.eqb (LOp.not rfl rfl) rfl) ?_
          refine zm (r := b false) ?_
          refine zl (r := b false) (LOp.eqb (LOp.move rfl rfl) hc47) ?_
          refine zl (r := b true) (LOp.eqb (LOp.not rfl rfl) rfl) ?_
          refine zl (r := b true) (LOp.pick_false rfl rfl rfl) ?_
          iterate 3 (refine zm (r := b true) ?_; refine ROps.s rfl rfl rfl ?_; refine ROps.s rfl rfl rfl ?_; refine zl (r := b true) (LOp.pick_true rfl rfl rfl) ?_)
          refine zm (r := b true) ?_
          iterate 4 (refine ROps.s rfl rfl rfl ?_)
          refine zl (r := b true) (LOp.pick_true rfl rfl rfl) ?_
          refine zm (r := b true) ?_
          iterate 7 (refine ROps.s rfl rfl rfl ?_)
          refine zl (r := b true) (LOp.pick_true rfl rfl rfl) ?_
          refine zm (r := b true) ?_
          iterate 4 (refine ROps.s rfl rfl rfl ?_)
          refine zl (r := b true) (LOp.pick_true rfl rfl rfl) ?_
          refine zN ?_
          exact .inl ⟨(Le.of ⟨aR, aR, aR, aR, aR, aR, trivial⟩ ⟨⟨rfl, .inl rfl⟩, ⟨rfl, .inl rfl⟩, ⟨rfl, .inr rfl⟩, ⟨rfl, .inr rfl⟩, ⟨rfl, .inr rfl⟩, trivial⟩), h⟩
        ·refine RunC.regionW ?_
         refine zl (r := b false) (LOp.eqb (LOp.move rfl rfl) hc46) ?_
         refine zl (r := b true) (LOp.eqb (LOp.not rfl rfl) rfl) ?_
         iterate 4 (refine zm (r := b true) ?_; refine ROps.s rfl rfl rfl ?_; refine ROps.s rfl rfl rfl ?_; refine zl (r := b true) (LOp.pick_true rfl rfl rfl) ?_)
         refine zm (r := b true) ?_
         iterate 4 (refine ROps.s rfl rfl rfl ?_)
         refine zl (r := b true) (LOp.pick_true rfl rfl rfl) ?_
         refine zm (r := b true) ?_
         iterate 7 (refine ROps.s rfl rfl rfl ?_)
         refine zl (r := b true) (LOp.pick_true rfl rfl rfl) ?_
         refine zm (r := b true) ?_
         iterate 4 (refine ROps.s rfl rfl rfl ?_)
         refine zl (r := b true) (LOp.pick_true rfl rfl rfl) ?_
         refine zN ?_
         exact .inl ⟨(Le.of ⟨aR, aR, aR, aR, aR, aR, trivial⟩ ⟨⟨rfl, .inl rfl⟩, ⟨rfl, .inl rfl⟩, ⟨rfl, .inr rfl⟩, ⟨rfl, .inr rfl⟩, ⟨rfl, .inr rfl⟩, trivial⟩), h⟩
       ·rintro τ37 Γ37 (⟨hw37, h⟩ | ⟨hw37, h⟩)
        ·refine RunC.le (τ' := [(1, sl a1.length (a1.map (ik .u8))), (5, i64 x3), (21, optr 2 2 0), (23, optr 3 1 0), (25, optr 4 1 0), (231, b true)]) (Γ' := [⟨1, none⟩, ⟨2, none⟩, ⟨2, some (mXc r48 r49 r51)⟩, ⟨1, some (mXc v60 v61 l62)⟩, ⟨1, some (mXc r64 r65 r67)⟩]) hw37 ?_
         unfold w_FnOrders_k11 at h
         refine RunC.cond_true rfl rfl ?_
         refine zQ ?_
         refine za (r := b false) ?_
         refine zN ?_
         refine RunC.ret ?_
         have hq := Option.some.inj h
         subst q0
         exact bodyQ.pure (.inr rfl) rfl (Res.one rfl (RV.tmp rfl))
        ·refine RunC.le (τ' := [(1, sl a1.length (a1.map (ik .u8))), (5, i64 x3), (21, optr 2 2 0), (23, optr 3 1 0), (25, optr 4 1 0), (231, b false)]) (Γ' := [⟨1, none⟩, ⟨2, none⟩, ⟨2, some (mXc r48 r49 r51)⟩, ⟨1, some (mXc v60 v61 l62)⟩, ⟨1, some (mXc r64 r65 r67)⟩]) hw37 ?_
         unfold w_FnOrders_k13 at h
         refine RunC.cond_false rfl rfl ?_
         refine RunC.skip ?_
         refine RunC.seq ?_
         refine zQ ?_
         refine za (r := i64 0) ?_
         refine zN ?_
         obtain ⟨z38, hz_38, h⟩ := obind_some h
         refine RunC.cutN (fun τ Γ => Le 703 τ Γ [(1, sl a1.length (a1.map (ik .u8))), (5, i64 x3), (21, optr 2 2 0)] [⟨1, none⟩, ⟨2, none⟩, ⟨2, some (mXc r48 r49 r51)⟩, ⟨1, none⟩, ⟨1, none⟩] ∧ z38 = .inl ()) ?_ ?_
         ·refine RunC.block (RunC.loop (RunL.loopM (x := z38) (w_FnOrders_s14 l62 r67) (fun (s : Int) τ Γ => Le 703 τ Γ [(1, sl a1.length (a1.map (ik .u8))), (5, i64 x3), (21, optr 2 2 0), (23, optr 3 1 0), (25, optr 4 1 0), (29, i64 s)] [⟨1, none⟩, ⟨2, none⟩, ⟨2, some (mXc r48 r49 r51)⟩, ⟨1, some (mXc v60 v61 l62)⟩, ⟨1, some (mXc r64 r65 r67)⟩]) ?_ _ _ _ hz_38 (Le.of ⟨aR, aR, aR, aR, aR, aR, trivial⟩ ⟨⟨rfl, .inl rfl⟩, ⟨rfl, .inl rfl⟩, ⟨rfl, .inr rfl⟩, ⟨rfl, .inr rfl⟩, ⟨rfl, .inr rfl⟩, trivial⟩)))
          rintro v72 τ38 Γ38 y38_ hw38 h38_ ho38 hr38
          refine RunC.le (τ' := [(1, sl a1.length (a1.map (ik .u8))), (5, i64 x3), (21, optr 2 2 0), (23, optr 3 1 0), (25, optr 4 1 0), (29, i64 v72)]) (Γ' := [⟨1, none⟩, ⟨2, none⟩, ⟨2, some (mXc r48 r49 r51)⟩, ⟨1, some (mXc v60 v61 l62)⟩, ⟨1, some (mXc r64 r65 r67)⟩]) hw38 ?_
          replace h38_ : w_FnOrders_b14 l62 r67 v72 = some y38_ := h38_
          unfold w_FnOrders_b14 at h38_
          iterate 2 (refine RunC.seq ?_)
          rcases bsel_some h38_ with ⟨hc56, h38_⟩ | ⟨hc56, h38_⟩
          ·refine RunC.regionW ?_
           refine zm (r := i64 v72) ?_
           refine zl (r := optr 4 1 2) (LOp.fao und26 rfl siz24 rfl rfl rfl) ?_
           refine ROps.d (r := (sFc r67)) (fs := []) (Γ' := [⟨1, none⟩, ⟨2, none⟩, ⟨2, some (mXc r48 r49 r51)⟩, ⟨1, some (mXc v60 v61 l62)⟩, ⟨1, some (mXc r64 r65 r67)⟩]) rfl rfl rfl (TOp.load1_o rfl rfl agg24 rfl rfl) rfl ?_
           refine zl (r := i64 (r67.length : Int)) (LOp.len_sl und24 rfl rfl) ?_
           refine zl (r := b true) (LOp.eqb (LOp.lss rfl rfl rfl) hc56) ?_
           refine zN ?_
           refine RunC.cond_true rfl rfl ?_
           refine RunC.skip ?_
           refine RunC.seq ?_
           refine RunC.block ?_
           refine RunC.seq ?_
           obtain ⟨e73, he57, h38_⟩ := obind_some h38_
           obtain ⟨e74, he58, h38_⟩ := obind_some h38_
           rcases bsel_some h38_ with ⟨hc59, h38_⟩ | ⟨hc59, h38_⟩
           ·refine RunC.region_draw (Γ' := [⟨1, none⟩, ⟨2, none⟩, ⟨2, some (mXc r48 r49 r51)⟩, ⟨1, some (mXc v60 v61 l62)⟩, ⟨1, some (mXc r64 r65 r67)⟩]) 11 mixed 
             (TR.l (r := optr 3 1 2) rfl rfl (LOp.fao und26 rfl siz24 rfl rfl rfl) <|
             (TR.d (r := (sFc l62)) (fs := []) rfl rfl (TOp.load1_o rfl rfl agg24 rfl rfl) <|
             (TR.l (r := i64 v72) rfl rfl (LOp.move rfl rfl) <|
             (TR.l (r := ptr [f32 e73]) rfl rfl (LOp.le (LOp.ix (f := f32) und24 siz36 rfl rfl rfl rfl he57) ALe.ptr) <|
             (TR.l (r := f32 e73) rfl rfl (LOp.load1 agg36 rfl rfl) <|
             (TR.l (r := optr 4 1 2) rfl rfl (LOp.fao und26 rfl siz24 rfl rfl rfl) <|
             (TR.d (r := (sFc r67)) (fs := []) rfl rfl (TOp.load1_o rfl rfl agg24 rfl rfl) <|
             (TR.l (r := i64 v72) rfl rfl (LOp.move rfl rfl) <|
             (TR.l (r := ptr [f32 e74]) rfl rfl (LOp.le (LOp.ix (f := f32) und24 siz36 rfl rfl rfl rfl he58) ALe.ptr) <|
             (TR.l (r := f32 e74) rfl rfl (LOp.load1 agg36 rfl rfl) <|
             (TR.l (r := b true) rfl rfl (LOp.eqb (LOp.fne rfl (OpF.tmp rfl) (OpF.tmp rfl)) hc59) <|
             TR.nil))))))))))) rfl (by kernel_rfl) rfl fills_nil rfl ?_
            iterate 11 refine ROps.dropS ?_
            refine ROps.drop0 ?_
            refine zN ?_
            refine RunC.cond_true rfl rfl ?_
            refine zQ ?_
            refine za (r := b false) ?_
            refine zN ?_
            refine RunC.ret ?_
            cases Option.some.inj h38_
            have hx39_ := hr38 _ rfl
            subst hx39_
            have hq := Option.some.inj h
            subst q0
            exact bodyQ.pure (.inr rfl) rfl (Res.one rfl (RV.tmp rfl))
           ·refine RunC.region_draw (Γ' := [⟨1, none⟩, ⟨2, none⟩, ⟨2, some (mXc r48 r49 r51)⟩, ⟨1, some (mXc v60 v61 l62)⟩, ⟨1, some (mXc r64 r65 r67)⟩]) 11 mixed 
             (TR.l (r := optr 3 1 2) rfl rfl (LOp.fao und26 rfl siz24 rfl rfl rfl) <|
             (TR.d (r := (sFc l62)) (fs := []) rfl rfl (TOp.load1_o rfl rfl agg24 rfl rfl) <|
             (TR.l (r := i64 v72) rfl rfl (LOp.move rfl rfl) <|
             (TR.l (r := ptr [f32 e73]) rfl rfl (LOp.le (LOp.ix (f := f32) und24 siz36 rfl rfl rfl rfl he57) ALe.ptr) <|
             (TR.l (r := f32 e73) rfl rfl (LOp.load1 agg36 rfl rfl) <|
             (TR.l (r := optr 4 1 2) rfl rfl (LOp.fao und26 rfl siz24 rfl rfl rfl) <|
             (TR.d (r := (sFc r67)) (fs := []) rfl rfl (TOp.load1_o rfl rfl agg24 rfl rfl) <|
             (TR.l (r := i64 v72) rfl rfl (LOp.move rfl rfl) <|
             (TR.l (r := ptr [f32 e74]) rfl rfl (LOp.le (LOp.ix (f := f32) und24 siz36 rfl rfl rfl rfl he58) ALe.ptr) <|
             (TR.l (r := f32 e74) rfl rfl (LOp.load1 agg36 rfl rfl) <|
             (TR.l (r := b false) rfl rfl (LOp.eqb (LOp.fne rfl (OpF.tmp rfl) (OpF.tmp rfl)) hc59) <|
             TR.nil))))))))))) rfl (by kernel_rfl) rfl fills_nil rfl ?_
            iterate 11 refine ROps.dropS ?_
            refine ROps.drop0 ?_
            refine zN ?_
            refine RunC.cond_false rfl rfl ?_
            refine RunC.skip ?_
            obtain ⟨x75, hx60, h38_⟩ := olet_some h38_
            refine RunC.regionW ?_
            refine zm (r := i64 v72) ?_
            refine zl (r := i64 x75) (LOp.eqr (LOp.add rfl rfl rfl) (congrArg (ik .i64) hx60)) ?_
            refine za (r := i64 x75) ?_
            refine zN ?_
            cases Option.some.inj h38_
            exact ⟨_, rfl, (Le.of ⟨aR, aR, aR, aR, aR, aR, trivial⟩ ⟨⟨rfl, .inl rfl⟩, ⟨rfl, .inl rfl⟩, ⟨rfl, .inr rfl⟩, ⟨rfl, .inr rfl⟩, ⟨rfl, .inr rfl⟩, trivial⟩)⟩
          ·refine RunC.regionW ?_
           refine zm (r := i64 v72) ?_
           refine zl (r := optr 4 1 2) (LOp.fao und26 rfl siz24 rfl rfl rfl) ?_
           refine ROps.d (r := (sFc r67)) (fs := []) (Γ' := [⟨1, none⟩, ⟨2, none⟩, ⟨2, some (mXc r48 r49 r51)⟩, ⟨1, some (mXc v60 v61 l62)⟩, ⟨1, some (mXc r64 r65 r67)⟩]) rfl rfl rfl (TOp.load1_o rfl rfl agg24 rfl rfl) rfl ?_
           refine zl (r := i64 (r67.length : Int)) (LOp.len_sl und24 rfl rfl) ?_
           refine zl (r := b false) (LOp.eqb (LOp.lss rfl rfl rfl) hc56) ?_
           refine zN ?_
           refine RunC.cond_false rfl rfl ?_
           refine RunC.exit ?_
           cases Option.some.inj h38_
           have hx := ho38 _ rfl
           exact ⟨(Le.of ⟨aR, aR, aR, trivial⟩ ⟨⟨rfl, .inl rfl⟩, ⟨rfl, .inl rfl⟩, ⟨rfl, .inr rfl⟩, ⟨rfl, .inl rfl⟩, ⟨rfl, .inl rfl⟩, trivial⟩), hx⟩
         ·rintro τ40 Γ40 ⟨hw40, rfl⟩
          refine RunC.le hw40 ?_
          replace h : w_FnOrders_k14 a1 x3 r48 r49 r51 = some q0 := h
          unfold w_FnOrders_k14 at h
          refine RunC.seq ?_
          obtain ⟨r76, hf61, h⟩ := obind_some h
          refine RunC.regionW ?_
          refine zm (r := sl a1.length (a1.map (ik .u8))) ?_
          refine zm (r := i64 x3) ?_
          refine ROps.d (r := (sFc r76)) (fs := []) (Γ' := [⟨1, none⟩, ⟨2, none⟩, ⟨2, some (mXc r48 r49 r51)⟩, ⟨1, none⟩, ⟨1, none⟩]) rfl rfl rfl (TOp.callS (CallAs.func ent47 rfl rfl) (ALes.cons aR (ALes.cons aR ALes.nil)) (lts_cons (lt_sl (fun _ => rfl)) (lts_cons rfl lts_nil)) (lt_sl (fun _ => rfl)) (s_R8Vector_ok a1 x3 r76 hf61) (Bor.own (f := f32) (fun _ => rfl) rfl rfl)) rfl ?_
          refine za (r := (sFc r76)) ?_
          refine zN ?_
          refine RunC.seq ?_
          obtain ⟨r77, r78, r79, r80, hf62, h⟩ := obind4_some h
          refine RunC.regionW ?_
          iterate 2 (refine zm (r := (sFc r76)) ?_)
          refine ROps.d (r := tup [agg (mXc r77 r78 r80), b r79]) (fs := []) (Γ' := [⟨1, none⟩, ⟨2, none⟩, ⟨2, some (mXc r48 r49 r51)⟩, ⟨1, none⟩, ⟨1, none⟩]) rfl rfl rfl (TOp.callS (CallAs.func ent48 rfl rfl) (ALes.cons aR (ALes.cons aR ALes.nil)) (lts_cons (lt_sl (fun _ => rfl)) (lts_cons (lt_sl (fun _ => rfl)) lts_nil)) (lt_tup (lts_cons (lt_agg (lts_cons rfl (lts_cons rfl (lts_cons (lt_sl (fun _ => rfl)) lts_nil)))) (lts_cons rfl lts_nil))) (i_OuterMatrix_ok r76 r76 r77 r78 r79 r80 hf62) (Bor.tup (Bors.cons (Bor.agg (Bors.cons (Bor.pure rfl) (Bors.cons (Bor.pure rfl) (Bors.cons (Bor.own (f := f32) (fun _ => rfl) rfl rfl) Bors.nil)))) (Bors.cons (Bor.pure rfl) Bors.nil)))) rfl ?_
          refine zm (r := tup [agg (mXc r77 r78 r80), b r79]) ?_
          refine zl (r := agg (mXc r77 r78 r80)) (LOp.extract rfl rfl rfl) ?_
          refine zl (r := b r79) (LOp.extract rfl rfl rfl) ?_
          refine ROps.d (r := optr 0 2 0) (fs := [(0, zMx)]) (Γ' := [⟨2, some zMx⟩, ⟨2, none⟩, ⟨2, some (mXc r48 r49 r51)⟩, ⟨1, none⟩, ⟨1, none⟩]) rfl rfl rfl (TOp.alloc_o (g := ⟨1, none⟩) 0 rfl zer26 zok26 rfl) rfl ?_
          refine ROps.store_le (r := agg (mXc r77 r78 r80)) (l' := (mXc r77 r78 r80)) (Γ' := [⟨2, some (mXc r77 r78 r80)⟩, ⟨2, none⟩, ⟨2, some (mXc r48 r49 r51)⟩, ⟨1, none⟩, ⟨1, none⟩]) rfl siz26 rfl rfl rfl aR rfl rfl rfl rfl (Nat.le_of_ble_eq_true rfl) rfl rfl ?_
          refine za (r := b r79) ?_
          refine zN ?_
          refine RunC.seq ?_
          obtain ⟨r81, r82, r83, r84, hf63, h⟩ := obind4_some h
          refine RunC.regionW ?_
          refine ROps.d (r := agg (mXc r48 r49 r51)) (fs := []) (Γ' := [⟨2, some (mXc r77 r78 r80)⟩, ⟨2, none⟩, ⟨2, some (mXc r48 r49 r51)⟩, ⟨1, none⟩, ⟨1, none⟩]) rfl rfl rfl (TOp.loadAgg_o rfl agg26 siz26 rfl rfl rfl rfl) rfl ?_
          refine ROps.d (r := oref 1 3 0 2) (fs := [(1, (([some 1065353216, some 1073741824] : List F).map f32))]) (Γ' := [⟨2, some (mXc r77 r78 r80)⟩, ⟨3, some (([some 1065353216, some 1073741824] : List F).map f32)⟩, ⟨2, some (mXc r48 r49 r51)⟩, ⟨1, none⟩, ⟨1, none⟩]) rfl rfl rfl (TOp.buildSlice_o (g := ⟨2, none⟩) (za := f32 (some 0)) (qs := [(0, [f32 (some 1065353216)]), (1, [f32 (some 1073741824)])]) 1 rfl und24 siz36 zer36 rfl zel36 rfl rfl ⟨rfl, ⟨_, (ALe.fl (by kernel_rfl) (by kernel_rfl)), rfl⟩, ⟨rfl, ⟨_, (ALe.fl (by kernel_rfl) (by kernel_rfl)), rfl⟩, trivial⟩⟩ rfl) rfl ?_
          refine zl (r := agg [i64 2, i64 1, oref 1 3 0 2]) (LOp.build (qs := [(0, [i64 2]), (1, [i64 1]), (2, [oref 1 3 0 2])]) zer26 zok26 und26 plc26 rfl ⟨rfl, ⟨_, ALe.refl _, rfl⟩, ⟨rfl, ⟨_, ALe.refl _, rfl⟩, ⟨rfl, ⟨_, ALe.refl _, rfl⟩, trivial⟩⟩⟩ rfl) ?_
          refine ROps.d (r := tup [agg (oXc r81 r82 3 2 r84.length), b r83]) (fs := [(3, (r84.map f32))]) (Γ' := [⟨2, some (mXc r77 r78 r80)⟩, ⟨3, some (([some 1065353216, some 1073741824] : List F).map f32)⟩, ⟨2, some (mXc r48 r49 r51)⟩, ⟨2, some (r84.map f32)⟩, ⟨1, none⟩]) rfl rfl rfl (TOp.callBN (ls := [(r84.map f32)]) [3] (CallAs.func ent49 rfl rfl) (Bors.cons (Bor.agg (Bors.cons (Bor.pure rfl) (Bors.cons (Bor.pure rfl) (Bors.cons (Bor.sl (fun _ => rfl)) Bors.nil)))) (Bors.cons (Bor.agg (Bors.cons (Bor.pure rfl) (Bors.cons (Bor.pure rfl) (Bors.cons (Bor.own (f := f32) (n := 2) (l := ([some 1065353216, some 1073741824] : List F)) (fun _ => rfl) rfl rfl) Bors.nil)))) Bors.nil)) rfl (i_KroneckerMatrix_ok r48 r49 r51 2 1 ([some 1065353216, some 1073741824] : List F) r81 r82 r83 r84 hf63) (and_all (lts0_map (f := f32) (fun _ => rfl) _) rfl) (and_all (noss_map (f := f32) (fun _ => rfl) _) rfl) rfl (by decide) (ns_of ⟨⟨_, rfl⟩, trivial⟩)) rfl ?_
          refine zm (r := tup [agg (oXc r81 r82 3 2 r84.length), b r83]) ?_
          refine zl (r := agg (oXc r81 r82 3 2 r84.length)) (LOp.extract rfl rfl rfl) ?_
          refine zl (r := b r83) (LOp.extract rfl rfl rfl) ?_
          refine ROps.d (r := optr 4 2 0) (fs := [(4, zMx)]) (Γ' := [⟨2, some (mXc r77 r78 r80)⟩, ⟨3, some (([some 1065353216, some 1073741824] : List F).map f32)⟩, ⟨2, some (mXc r48 r49 r51)⟩, ⟨2, some (r84.map f32)⟩, ⟨2, some zMx⟩]) rfl rfl rfl (TOp.alloc_o (g := ⟨1, none⟩) 4 rfl zer26 zok26 rfl) rfl ?_
          refine ROps.store_le (r := agg (oXc r81 r82 3 2 r84.length)) (l' := (oXc r81 r82 3 2 r84.length)) (Γ' := [⟨2, some (mXc r77 r78 r80)⟩, ⟨3, some (([some 1065353216, some 1073741824] : List F).map f32)⟩, ⟨2, some (mXc r48 r49 r51)⟩, ⟨2, some (r84.map f32)⟩, ⟨2, some (oXc r81 r82 3 2 r84.length)⟩]) rfl siz26 rfl rfl rfl aR rfl rfl rfl rfl (Nat.le_of_ble_eq_true rfl) rfl rfl ?_
          refine za (r := b r83) ?_
          refine zN ?_
          refine RunC.wl (τ' := [(5, i64 x3), (30, (sFc r76)), (31, optr 0 2 0), (32, b r79), (33, optr 4 2 0), (34, b r83)]) (Γ' := [⟨2, some (mXc r77 r78 r80)⟩, ⟨3, none⟩, ⟨2, none⟩, ⟨2, some (r84.map f32)⟩, ⟨2, some (oXc r81 r82 3 2 r84.length)⟩]) ⟨aR, aR, aR, aR, aR, aR, trivial⟩ ⟨⟨rfl, .inr rfl⟩, ⟨rfl, .inl rfl⟩, ⟨rfl, .inl rfl⟩, ⟨rfl, .inr rfl⟩, ⟨rfl, .inr rfl⟩, trivial⟩ ?_
          refine RunC.seq ?_
          obtain ⟨r85, r86, hf64, h⟩ := obind2_some h
          refine RunC.regionW ?_
          iterate 2 (refine zm (r := (sFc r76)) ?_)
          refine ROps.d (r := tup [f32 r85, b r86]) (fs := []) (Γ' := [⟨2, some (mXc r77 r78 r80)⟩, ⟨3, none⟩, ⟨2, none⟩, ⟨2, some (r84.map f32)⟩, ⟨2, some (oXc r81 r82 3 2 r84.length)⟩]) rfl rfl rfl (TOp.callB (CallAs.func ent50 rfl rfl) (Bors.cons (Bor.sl (fun _ => rfl)) (Bors.cons (Bor.sl (fun _ => rfl)) Bors.nil)) rfl rfl (i_DotVectors_ok r76 r76 r85 r86 hf64)) rfl ?_
          refine zm (r := tup [f32 r85, b r86]) ?_
          refine zl (r := f32 r85) (LOp.extract rfl rfl rfl) ?_
          refine zl (r := b r86) (LOp.extract rfl rfl rfl) ?_
          refine za (r := f32 r85) ?_
          refine za (r := b r86) ?_
          refine zN ?_
          refine RunC.seq ?_
          obtain ⟨r87, r88, hf65, h⟩ := obind2_some h
          refine RunC.regionW ?_
          iterate 2 (refine zm (r := (sFc r76)) ?_)
          refine ROps.d (r := tup [f32 r87, b r88]) (fs := []) (Γ' := [⟨2, some (mXc r77 r78 r80)⟩, ⟨3, none⟩, ⟨2, none⟩, ⟨2, some (r84.map f32)⟩, ⟨2, some (oXc r81 r82 3 2 r84.length)⟩]) rfl rfl rfl (TOp.callB (CallAs.func ent51 rfl rfl) (Bors.cons (Bor.sl (fun _ => rfl)) (Bors.cons (Bor.sl (fun _ => rfl)) Bors.nil)) rfl rfl (i_LongDot_ok r76 r76 r87 r88 hf65)) rfl ?_
          refine zm (r := tup [f32 r87, b r88]) ?_
          refine zl (r := f32 r87) (LOp.extract rfl rfl rfl) ?_
          refine zl (r := b r88) (LOp.extract rfl rfl rfl) ?_
          refine za (r := f32 r87) ?_
          refine za (r := b r88) ?_
          refine zN ?_
          refine RunC.seq ?_
          obtain ⟨r89, r90, hf66, h⟩ := obind2_some h
          refine RunC.regionW ?_
          refine ROps.d (r := agg (mXc r77 r78 r80)) (fs := []) (Γ' := [⟨2, some (mXc r77 r78 r80)⟩, ⟨3, none⟩, ⟨2, none⟩, ⟨2, some (r84.map f32)⟩, ⟨2, some (oXc r81 r82 3 2 r84.length)⟩]) rfl rfl rfl (TOp.loadAgg_o rfl agg26 siz26 rfl rfl rfl rfl) rfl ?_
          refine ROps.d (r := tup [f32 r89, b r90]) (fs := []) (Γ' := [⟨2, some (mXc r77 r78 r80)⟩, ⟨3, none⟩, ⟨2, none⟩, ⟨2, some (r84.map f32)⟩, ⟨2, some (oXc r81 r82 3 2 r84.length)⟩]) rfl rfl rfl (TOp.callB (CallAs.func ent46 rfl rfl) (Bors.cons (Bor.agg (Bors.cons (Bor.pure rfl) (Bors.cons (Bor.pure rfl) (Bors.cons (Bor.sl (fun _ => rfl)) Bors.nil)))) Bors.nil) rfl rfl (i_TraceOf_ok r77 r78 r80 r89 r90 hf66)) rfl ?_
          refine zm (r := tup [f32 r89, b r90]) ?_
          refine zl (r := f32 r89) (LOp.extract rfl rfl rfl) ?_
          refine zl (r := b r90) (LOp.extract rfl rfl rfl) ?_
          refine za (r := f32 r89) ?_
          refine za (r := b r90) ?_
          refine zN ?_
          refine RunC.wl (τ' := [(5, i64 x3), (30, (sFc r76)), (32, b r79), (33, optr 4 2 0), (34, b r83), (35, f32 r85), (36, b r86), (37, f32 r87), (38, b r88), (39, f32 r89), (40, b r90)]) (Γ' := [⟨2, none⟩, ⟨3, none⟩, ⟨2, none⟩, ⟨2, some (r84.map f32)⟩, ⟨2, some (oXc r81 r82 3 2 r84.length)⟩]) ⟨aR, aR, aR, aR, aR, aR, aR, aR, aR, aR, aR, trivial⟩ ⟨⟨rfl, .inl rfl⟩, ⟨rfl, .inl rfl⟩, ⟨rfl, .inl rfl⟩, ⟨rfl, .inr rfl⟩, ⟨rfl, .inr rfl⟩, trivial⟩ ?_
          iterate 2 (refine RunC.seq ?_)
          refine RunC.cutN (fun τ Γ => ( Le 703 τ Γ [(5, i64 x3), (30, (sFc r76)), (323, b true)] [⟨2, none⟩, ⟨3, none⟩, ⟨2, none⟩, ⟨2, none⟩, ⟨2, none⟩] ∧ w_FnOrders_k16 = some q0) ∨ ( Le 703 τ Γ [(5, i64 x3), (30, (sFc r76)), (323, b false)] [⟨2, none⟩, ⟨3, none⟩, ⟨2, none⟩, ⟨2, none⟩, ⟨2, none⟩] ∧ w_FnOrders_k18 x3 r76 = some q0)) ?_ ?_
          ·rcases bsel_some h with ⟨hc67, h⟩ | ⟨hc67, h⟩
           ·rcases bsel_some h with ⟨hc68, h⟩ | ⟨hc68, h⟩
            ·rcases bsel_some h with ⟨hc69, h⟩ | ⟨hc69, h⟩
             ·rcases bsel_some h with ⟨hc70, h⟩ | ⟨hc70, h⟩
              ·rcases bsel_some h with ⟨hc71, h⟩ | ⟨hc71, h⟩
               ·obtain ⟨x91, hx72, h⟩ := olet_some h
                rcases bsel_some h with ⟨hc73, h⟩ | ⟨hc73, h⟩
                ·refine RunC.regionW ?_
                 refine zl (r := b true) (LOp.eqb (LOp.move rfl rfl) hc67) ?_
                 refine zl (r := b false) (LOp.eqb (LOp.not rfl rfl) rfl) ?_
                 refine zm (r := b false) ?_
                 refine zl (r := b true) (LOp.eqb (LOp.move rfl rfl) hc68) ?_
                 refine zl (r := b false) (LOp.eqb (LOp.not rfl rfl) rfl) ?_
                 refine zl (r := b false) (LOp.pick_false rfl rfl rfl) ?_
                 refine zm (r := b false) ?_
                 refine zl (r := b true) (LOp.eqb (LOp.move rfl rfl) hc69) ?_
                 refine zl (r := b false) (LOp.eqb (LOp.not rfl rfl) rfl) ?_
                 refine zl (r := b false) (LOp.pick_false rfl rfl rfl) ?_
                 refine zm (r := b false) ?_
                 refine zl (r := b true) (LOp.eqb (LOp.move rfl rfl) hc70) ?_
                 refine zl (r := b false) (LOp.eqb (LOp.not rfl rfl) rfl) ?_
                 refine zl (r := b false) (LOp.pick_false rfl rfl rfl) ?_
                 refine zm (r := b false) ?_
                 refine zl (r := b true) (LOp.eqb (LOp.move rfl rfl) hc71) ?_
                 refine zl (r := b false) (LOp.eqb (LOp.not rfl rfl) rfl) ?_
                 refine zl (r := b false) (LOp.pick_false rfl rfl rfl) ?_
                 refine zm (r := b false) ?_
                 refine zl (r := optr 4 2 0) (LOp.fao und26 rfl siz2 rfl rfl rfl) ?_
                 refine ROps.d (r := i64 r81) (fs := []) (Γ' := [⟨2, none⟩, ⟨3, none⟩, ⟨2, none⟩, ⟨2, some (r84.map f32)⟩, ⟨2, some (oXc r81 r82 3 2 r84.length)⟩]) rfl rfl rfl (TOp.load1_o rfl rfl agg2 rfl rfl) rfl ?_
                 refine zm (r := i64 x3) ?_
                 refine zl (r := i64 x91) (LOp.eqr (LOp.mul rfl rfl rfl) (congrArg (ik .i64) hx72)) ?_
                 refine zl (r := b true) (LOp.eqb (LOp.neq rfl rfl rfl) hc73) ?_
                 refine zl (r := b true) (LOp.pick_false rfl rfl rfl) ?_
                 refine zm (r := b true) ?_
                 iterate 4 (refine ROps.s rfl rfl rfl ?_)
                 iterate 2 (refine zl (r := b true) (LOp.pick_true rfl rfl rfl) ?_; refine zm (r := b true) ?_; refine ROps.s rfl rfl rfl ?_; refine ROps.s rfl rfl rfl ?_; refine ROps.s rfl rfl rfl ?_)
                 refine zl (r := b true) (LOp.pick_true rfl rfl rfl) ?_
                 refine zN ?_
                 exact .inl ⟨(Le.of ⟨aR, aR, aR, trivial⟩ ⟨⟨rfl, .inl rfl⟩, ⟨rfl, .inl rfl⟩, ⟨rfl, .inl rfl⟩, ⟨rfl, .inl rfl⟩, ⟨rfl, .inl rfl⟩, trivial⟩), h⟩
                ·rcases bsel_some h with ⟨hc74, h⟩ | ⟨hc74, h⟩
                 ·refine RunC.regionW ?_
                  refine zl (r := b true) (LOp.eqb (LOp.move rfl rfl) hc67) ?_
                  refine zl (r := b false) (LOp.eqb (LOp.not rfl rfl) rfl) ?_
                  refine zm (r := b false) ?_
                  refine zl (r := b true) (LOp.eqb (LOp.move rfl rfl) hc68) ?_
                  refine zl (r := b false) (LOp.eqb (LOp.not rfl rfl) rfl) ?_
                  refine zl (r := b false) (LOp.pick_false rfl rfl rfl) ?_
                  refine zm (r := b false) ?_
                  refine zl (r := b true) (LOp.eqb (LOp.move rfl rfl) hc69) ?_
                  refine zl (r := b false) (LOp.eqb (LOp.not rfl rfl) rfl) ?_
                  refine zl (r := b false) (LOp.pick_false rfl rfl rfl) ?_
                  refine zm (r := b false) ?_
                  refine zl (r := b true) (LOp.eqb (LOp.move rfl rfl) hc70) ?_
                  refine zl (r := b false) (LOp.eqb (LOp.not rfl rfl) rfl) ?_
                  refine zl (r := b false) (LOp.pick_false rfl rfl rfl) ?_
                  refine zm (r := b false) ?_
                  refine zl (r := b true) (LOp.eqb (LOp.move rfl rfl) hc71) ?_
                  refine zl (r := b false) (LOp.eqb (LOp.not rfl rfl) rfl) ?_
                  refine zl (r := b false) (LOp.pick_false rfl rfl rfl) ?_
                  refine zm (r := b false) ?_
                  refine zl (r := optr 4 2 0) (LOp.fao und26 rfl siz2 rfl rfl rfl) ?_
                  refine ROps.d (r := i64 r81) (fs := []) (Γ' := [⟨2, none⟩, ⟨3, none⟩, ⟨2, none⟩, ⟨2, some (r84.map f32)⟩, ⟨2, some (oXc r81 r82 3 2 r84.length)⟩]) rfl rfl rfl (TOp.load1_o rfl rfl agg2 rfl rfl) rfl ?_
                  refine zm (r := i64 x3) ?_
                  refine zl (r := i64 x91) (LOp.eqr (LOp.mul rfl rfl rfl) (congrArg (ik .i64) hx72)) ?_
                  refine zl (r := b false) (LOp.eqb (LOp.neq rfl rfl rfl) hc73) ?_
                  refine zl (r := b false) (LOp.pick_false rfl rfl rfl) ?_
                  refine zm (r := b false) ?_
                  refine zl (r := optr 4 2 1) (LOp.fao und26 rfl siz2 rfl rfl rfl) ?_
                  refine ROps.d (r := i64 r82) (fs := []) (Γ' := [⟨2, none⟩, ⟨3, none⟩, ⟨2, none⟩, ⟨2, some (r84.map f32)⟩, ⟨2, some (oXc r81 r82 3 2 r84.length)⟩]) rfl rfl rfl (TOp.load1_o rfl rfl agg2 rfl rfl) rfl ?_
                  refine zm (r := i64 x3) ?_
                  refine zl (r := b true) (LOp.eqb (LOp.neq rfl rfl rfl) hc74) ?_
                  refine zl (r := b true) (LOp.pick_false rfl rfl rfl) ?_
                  iterate 2 (refine zm (r := b true) ?_; refine ROps.s rfl rfl rfl ?_; refine ROps.s rfl rfl rfl ?_; refine ROps.s rfl rfl rfl ?_; refine zl (r := b true) (LOp.pick_true rfl rfl rfl) ?_)
                  refine zN ?_
                  exact .inl ⟨(Le.of ⟨aR, aR, aR, trivial⟩ ⟨⟨rfl, .inl rfl⟩, ⟨rfl, .inl rfl⟩, ⟨rfl, .inl rfl⟩, ⟨rfl, .inl rfl⟩, ⟨rfl, .inl rfl⟩, trivial⟩), h⟩
                 ·rcases bsel_some h with ⟨hc75, h⟩ | ⟨hc75, h⟩
                  ·refine RunC.regionW ?_
                   refine zl (r := b true) (LOp.eqb (LOp.move rfl rfl) hc67) ?_
                   refine zl (r := b false) (LOp.eqb (LOp.not rfl rfl) rfl) ?_
                   refine zm (r := b false) ?_
                   refine zl (r := b true) (LOp.eqb (LOp.move rfl rfl) hc68) ?_
                   refine zl (r := b false) (LOp.eqb (LOp.not rfl rfl) rfl) ?_
                   refine zl (r := b false) (LOp.pick_false rfl rfl rfl) ?_
                   refine zm (r := b false) ?_
                   refine zl (r := b true) (LOp.eqb (LOp.move rfl rfl) hc69) ?_
                   refine zl (r := b false) (LOp.eqb (LOp.not rfl rfl) rfl) ?_
                   refine zl (r := b false) (LOp.pick_false rfl rfl rfl) ?_
                   refine zm (r := b false) ?_
                   refine zl (r := b true) (LOp.eqb (LOp.move rfl rfl) hc70) ?_
                   refine zl (r := b false) (LOp.eqb (LOp.not rfl rfl) rfl) ?_
                   refine zl (r := b false) (LOp.pick_false rfl rfl rfl) ?_
                   refine zm (r := b false) ?_
                   refine zl (r := b true) (LOp.eqb (LOp.move rfl rfl) hc71) ?_
                   refine zl (r := b false) (LOp.eqb (LOp.not rfl rfl) rfl) ?_
                   refine zl (r := b false) (LOp.pick_false rfl rfl rfl) ?_
                   refine zm (r := b false) ?_
                   refine zl (r := optr 4 2 0) (LOp.fao und26 rfl siz2 rfl rfl rfl) ?_
                   refine ROps.d (r := i64 r81) (fs := []) (Γ' := [⟨2, none⟩, ⟨3, none⟩, ⟨2, none⟩, ⟨2, some (r84.map f32)⟩, ⟨2, some (oXc r81 r82 3 2 r84.length)⟩]) rfl rfl rfl (TOp.load1_o rfl rfl agg2 rfl rfl) rfl ?_
                   refine zm (r := i64 x3) ?_
                   refine zl (r := i64 x91) (LOp.eqr (LOp.mul rfl rfl rfl) (congrArg (ik .i64) hx72)) ?_
                   refine zl (r := b false) (LOp.eqb (LOp.neq rfl rfl rfl) hc73) ?_
                   refine zl (r := b false) (LOp.pick_false rfl rfl rfl) ?_
                   refine zm (r := b false) ?_
                   refine zl (r := optr 4 2 1) (LOp.fao und26 rfl siz2 rfl rfl rfl) ?_
                   refine ROps.d (r := i64 r82) (fs := []) (Γ' := [⟨2, none⟩, ⟨3, none⟩, ⟨2, none⟩, ⟨2, some (r84.map f32)⟩, ⟨2, some (oXc r81 r82 3 2 r84.length)⟩]) rfl rfl rfl (TOp.load1_o rfl rfl agg2 rfl rfl) rfl ?_
                   refine zm (r := i64 x3) ?_
                   refine zl (r := b false) (LOp.eqb (LOp.neq rfl rfl rfl) hc74) ?_
                   refine zl (r := b false) (LOp.pick_false rfl rfl rfl) ?_
                   refine zm (r := b false) ?_
                   refine zm (r := f32 r85) ?_
                   refine zm (r := f32 r87) ?_
                   refine zl (r := b true) (LOp.eqb (LOp.fne rfl (OpF.tmp rfl) (OpF.tmp rfl)) hc75) ?_
                   refine zl (r := b true) (LOp.pick_false rfl rfl rfl) ?_
                   refine zm (r := b true) ?_
                   iterate 3 (refine ROps.s rfl rfl rfl ?_)
                   refine zl (r := b true) (LOp.pick_true rfl rfl rfl) ?_
                   refine zN ?_
                   exact .inl ⟨(Le.of ⟨aR, aR, aR, trivial⟩ ⟨⟨rfl, .inl rfl⟩, ⟨rfl, .inl rfl⟩, ⟨rfl, .inl rfl⟩, ⟨rfl, .inl rfl⟩, ⟨rfl, .inl rfl⟩, trivial⟩), h⟩
                  ·rcases bsel_some h with ⟨hc76, h⟩ | ⟨hc76, h⟩
                   ·refine RunC.regionW ?_
                    refine zl (r := b true) (LOp.eqb (LOp.move rfl rfl) hc67) ?_
                    refine zl (r := b false) (LOp.eqb (LOp.not rfl rfl) rfl) ?_
                    refine zm (r := b false) ?_
                    refine zl (r := b true) (LOp.eqb (LOp.move rfl rfl) hc68) ?_
                    refine zl (r := b false) (LOp.eqb (LOp.not rfl rfl) rfl) ?_
                    refine zl (r := b false) (LOp.pick_false rfl rfl rfl) ?_
                    refine zm (r := b false) ?_
                    refine zl (r := b true) (LOp.eqb (LOp.move rfl rfl) hc69) ?_
                    refine zl (r := b false) (LOp.eqb (LOp.not rfl rfl) rfl) ?_
                    refine zl (r := b false) (LOp.pick_false rfl rfl rfl) ?_
                    refine zm (r := b false) ?_
                    refine zl (r := b true) (LOp.eqb (LOp.move rfl rfl) hc70) ?_
                    refine zl (r := b false) (LOp.eqb (LOp.not rfl rfl) rfl) ?_
                    refine zl (r := b false) (LOp.pick_false rfl rfl rfl) ?_
                    refine zm (r := b false) ?_
                    refine zl (r := b true) (LOp.eqb (LOp.move rfl rfl) hc71) ?_
                    refine zl (r := b false) (LOp.eqb (LOp.not rfl rfl) rfl) ?_
                    refine zl (r := b false) (LOp.pick_false rfl rfl rfl) ?_
                    refine zm (r := b false) ?_
                    refine zl (r := optr 4 2 0) (LOp.fao und26 rfl siz2 rfl rfl rfl) ?_
                    refine ROps.d (r := i64 r81) (fs := []) (Γ' := [⟨2, none⟩, ⟨3, none⟩, ⟨2, none⟩, ⟨2, some (r84.map f32)⟩, ⟨2, some (oXc r81 r82 3 2 r84.length)⟩]) rfl rfl rfl (TOp.load1_o rfl rfl agg2 rfl rfl) rfl ?_
                    refine zm (r := i64 x3) ?_
                    refine zl (r := i64 x91) (LOp.eqr (LOp.mul rfl rfl rfl) (congrArg (ik .i64) hx72)) ?_
                    refine zl (r := b false) (LOp.eqb (LOp.neq rfl rfl rfl) hc73) ?_
                    refine zl (r := b false) (LOp.pick_false rfl rfl rfl) ?_
                    refine zm (r := b false) ?_
                    refine zl (r := optr 4 2 1) (LOp.fao und26 rfl siz2 rfl rfl rfl) ?_
                    refine ROps.d (r := i64 r82) (fs := []) (Γ' := [⟨2, none⟩, ⟨3, none⟩, ⟨2, none⟩, ⟨2, some (r84.map f32)⟩, ⟨2, some (oXc r81 r82 3 2 r84.length)⟩]) rfl rfl rfl (TOp.load1_o rfl rfl agg2 rfl rfl) rfl ?_
                    refine zm (r := i64 x3) ?_
                    refine zl (r := b false) (LOp.eqb (LOp.neq rfl rfl rfl) hc74) ?_
                    refine zl (r := b false) (LOp.pick_false rfl rfl rfl) ?_
                    refine zm (r := b false) ?_
                    refine zm (r := f32 r85) ?_
                    refine zm (r := f32 r87) ?_
                    refine zl (r := b false) (LOp.eqb (LOp.fne rfl (OpF.tmp rfl) (OpF.tmp rfl)) hc75) ?_
                    refine zl (r := b false) (LOp.pick_false rfl rfl rfl) ?_
                    refine zm (r := b false) ?_
                    refine zm (r := f32 r89) ?_
                    refine zm (r := f32 r85) ?_
                    refine zl (r := b true) (LOp.eqb (LOp.fne rfl (OpF.tmp rfl) (OpF.tmp rfl)) hc76) ?_
                    refine zl (r := b true) (LOp.pick_false rfl rfl rfl) ?_
                    refine zN ?_
                    exact .inl ⟨(Le.of ⟨aR, aR, aR, trivial⟩ ⟨⟨rfl, .inl rfl⟩, ⟨rfl, .inl rfl⟩, ⟨rfl, .inl rfl⟩, ⟨rfl, .inl rfl⟩, ⟨rfl, .inl rfl⟩, trivial⟩), h⟩
                   ·refine RunC.regionW ?_
                    refine zl (r := b true) (LOp.eqb (LOp.move rfl rfl) hc67) ?_
                    refine zl (r := b false) (LOp.eqb (LOp.not rfl rfl) rfl) ?_
                    refine zm (r := b false) ?_
                    refine zl (r := b true) (LOp.eqb (LOp.move rfl rfl) hc68) ?_
                    refine zl (r := b false) (LOp.eqb (LOp.not rfl rfl) rfl) ?_
                    refine zl (r := b false) (LOp.pick_false rfl rfl rfl) ?_
                    refine zm (r := b false) ?_
                    refine zl (r := b true) (LOp.eqb (LOp.move rfl rfl) hc69) ?_
                    refine zl (r := b false) (LOp.eqb (LOp.not rfl rfl) rfl) ?_
                    refine zl (r := b false) (LOp.pick_false rfl rfl rfl) ?_
                    refine zm (r := b false) ?_
                    refine zl (r := b true) (LOp.eqb (LOp.move rfl rfl) hc70) ?_
                    refine zl (r := b false) (LOp.eqb (LOp.not rfl rfl) rfl) ?_
                    refine zl (r := b false) (LOp.pick_false rfl rfl rfl) ?_
                    refine zm (r := b false) ?_
                    refine zl (r := b true) (LOp.eqb (LOp.move rfl rfl) hc71) ?_
                    refine zl (r := b false) (LOp.eqb (LOp.not rfl rfl) rfl) ?_
                    refine zl (r := b false) (LOp.pick_false rfl rfl rfl) ?_
                    refine zm (r := b false) ?_
                    refine zl (r := optr 4 2 0) (LOp.fao und26 rfl siz2 rfl rfl rfl) ?_
                    refine ROps.d (r := i64 r81) (fs := []) (Γ' := [⟨2, none⟩, ⟨3, none⟩, ⟨2, none⟩, ⟨2, some (r84.map f32)⟩, ⟨2, some (oXc r81 r82 3 2 r84.length)⟩]) rfl rfl rfl (TOp.load1_o rfl rfl agg2 rfl rfl) rfl ?_
                    refine zm (r := i64 x3) ?_
                    refine zl (r := i64 x91) (LOp.eqr (LOp.mul rfl rfl rfl) (congrArg (ik .i64) hx72)) ?_
                    refine zl (r := b false) (LOp.eqb (LOp.neq rfl rfl rfl) hc73) ?_
                    refine zl (r := b false) (LOp.pick_false rfl rfl rfl) ?_
                    refine zm (r := b false) ?_
                    refine zl (r := optr 4 2 1) (LOp.fao und26 rfl siz2 rfl rfl rfl) ?_
                    refine ROps.d (r := i64 r82) (fs := []) (Γ' := [⟨2, none⟩, ⟨3, none⟩, ⟨2, none⟩, ⟨2, some (r84.map f32)⟩, ⟨2, some (oXc r81 r82 3 2 r84.length)⟩]) rfl rfl rfl (TOp.load1_o rfl rfl agg2 rfl rfl) rfl ?_
                    refine zm (r := i64 x3) ?_
                    refine zl (r := b false) (LOp.eqb (LOp.neq rfl rfl rfl) hc74) ?_
                    refine zl (r := b false) (LOp.pick_false rfl rfl rfl) ?_
                    refine zm (r := b false) ?_
                    refine zm (r := f32 r85) ?_
                    refine zm (r := f32 r87) ?_
                    refine zl (r := b false) (LOp.eqb (LOp.fne rfl (OpF.tmp rfl) (OpF.tmp rfl)) hc75) ?_
                    refine zl (r := b false) (LOp.pick_false rfl rfl rfl) ?_
                    refine zm (r := b false) ?_
                    refine zm (r := f32 r89) ?_
                    refine zm (r := f32 r85) ?_
                    refine zl (r := b false) (LOp.eqb (LOp.fne rfl (OpF.tmp rfl) (OpF.tmp rfl)) hc76) ?_
                    refine zl (r := b false) (LOp.pick_false rfl rfl rfl) ?_
                    refine zN ?_
                    exact .inr (⟨(Le.of ⟨aR, aR, aR, trivial⟩ ⟨⟨rfl, .inl rfl⟩, ⟨rfl, .inl rfl⟩, ⟨rfl, .inl rfl⟩, ⟨rfl, .inl rfl⟩, ⟨rfl, .inl rfl⟩, trivial⟩), h⟩)
               ·refine RunC.regionW ?_
                refine zl (r := b true) (LOp.eqb (LOp.move rfl rfl) hc67) ?_
                refine zl (r := b false) (LOp.eqb (LOp.not rfl rfl) rfl) ?_
                refine zm (r := b false) ?_
                refine zl (r := b true) (LOp.eqb (LOp.move rfl rfl) hc68) ?_
                refine zl (r := b false) (LOp.eqb (LOp.not rfl rfl) rfl) ?_
                refine zl (r := b false) (LOp.pick_false rfl rfl rfl) ?_
                refine zm (r := b false) ?_
                refine zl (r := b true) (LOp.eqb (LOp.move rfl rfl) hc69) ?_
                refine zl (r := b false) (LOp.eqb (LOp.not rfl rfl) rfl) ?_
                refine zl (r := b false) (LOp.pick_false rfl rfl rfl) ?_
                refine zm (r := b false) ?_
                refine zl (r := b true) (LOp.eqb (LOp.move rfl rfl) hc70) ?_
                refine zl (r := b false) (LOp.eqb (LOp.not rfl rfl) rfl) ?_
                refine zl (r := b false) (LOp.pick_false rfl rfl rfl) ?_
                refine zm (r := b false) ?_
                refine zl (r := b false) (LOp.eqb (LOp.move rfl rfl) hc71) ?_
                refine zl (r := b true) (LOp.eqb (LOp.not rfl rfl) rfl) ?_
                refine zl (r := b true) (LOp.pick_false rfl rfl rfl) ?_
                refine zm (r := b true) ?_
                iterate 5 (refine ROps.s rfl rfl rfl ?_)
                refine zl (r := b true) (LOp.pick_true rfl rfl rfl) ?_
                refine zm (r := b true) ?_
                iterate 4 (refine ROps.s rfl rfl rfl ?_)
                iterate 2 (refine zl (r := b true) (LOp.pick_true rfl rfl rfl) ?_; refine zm (r := b true) ?_; refine ROps.s rfl rfl rfl ?_; refine ROps.s rfl rfl rfl ?_; refine ROps.s rfl rfl rfl ?_)
                refine zl (r := b true) (LOp.pick_true rfl rfl rfl) ?_
                refine zN ?_
                exact .inl ⟨(Le.of ⟨aR, aR, aR, trivial⟩ ⟨⟨rfl, .inl rfl⟩, ⟨rfl, .inl rfl⟩, ⟨rfl, .inl rfl⟩, ⟨rfl, .inl rfl⟩, ⟨rfl, .inl rfl⟩, trivial⟩), h⟩
              ·refine RunC.regionW ?_
               refine zl (r := b true) (LOp.eqb (LOp.move rfl rfl) hc67) ?_
               refine zl (r := b false) (LOp.eqb (LOp.not rfl rfl) rfl) ?_
               refine zm (r := b false) ?_
               refine zl (r := b true) (LOp.eqb (LOp.move rfl rfl) hc68) ?_
               refine zl (r := b false) (LOp.eqb (LOp.not rfl rfl) rfl) ?_
               refine zl (r := b false) (LOp.pick_false rfl rfl rfl) ?_
               refine zm (r := b false) ?_
               refine zl (r := b true) (LOp.eqb (LOp.move rfl rfl) hc69) ?_
               refine zl (r := b false) (LOp.eqb (LOp.not rfl rfl) rfl) ?_
               refine zl (r := b false) (LOp.pick_false rfl rfl rfl) ?_
               refine zm (r := b false) ?_
               refine zl (r := b false) (LOp.eqb (LOp.move rfl rfl) hc70) ?_
               refine zl (r := b true) (LOp.eqb (LOp.not rfl rfl) rfl) ?_
               refine zl (r := b true) (LOp.pick_false rfl rfl rfl) ?_
               refine zm (r := b true) ?_
               iterate 2 (refine ROps.s rfl rfl rfl ?_; refine ROps.s rfl rfl rfl ?_; refine zl (r := b true) (LOp.pick_true rfl rfl rfl) ?_; refine zm (r := b true) ?_; refine ROps.s rfl rfl rfl ?_; refine ROps.s rfl rfl rfl ?_; refine ROps.s rfl rfl rfl ?_)
               iterate 2 (refine ROps.s rfl rfl rfl ?_; refine zl (r := b true) (LOp.pick_true rfl rfl rfl) ?_; refine zm (r := b true) ?_; refine ROps.s rfl rfl rfl ?_; refine ROps.s rfl rfl rfl ?_)
               refine ROps.s rfl rfl rfl ?_
               refine zl (r := b true) (LOp.pick_true rfl rfl rfl) ?_
               refine zN ?_
               exact .inl ⟨(Le.of ⟨aR, aR, aR, trivial⟩ ⟨⟨rfl, .inl rfl⟩, ⟨rfl, .inl rfl⟩, ⟨rfl, .inl rfl⟩, ⟨rfl, .inl rfl⟩, ⟨rfl, .inl rfl⟩, trivial⟩), h⟩
             ·refine RunC.regionW ?_
              refine zl (r := b true) (LOp.eqb (LOp.move rfl rfl) hc67) ?_
              refine zl (r := b false) (LOp.eqb (LOp.not rfl rfl) rfl) ?_
              refine zm (r := b false) ?_
              refine zl (r := b true) (LOp.eqb (LOp.move rfl rfl) hc68) ?_
              refine zl (r := b false) (LOp.eqb (LOp.not rfl rfl) rfl) ?_
              refine zl (r := b false) (LOp.pick_false rfl rfl rfl) ?_
              refine zm (r := b false) ?_
              refine zl (r := b false) (LOp.eqb (LOp.move rfl rfl) hc69) ?_
              refine zl (r := b true) (LOp.eqb (LOp.not rfl rfl) rfl) ?_
              refine zl (r := b true) (LOp.pick_false rfl rfl rfl) ?_
              iterate 2 (refine zm (r := b true) ?_; refine ROps.s rfl rfl rfl ?_; refine ROps.s rfl rfl rfl ?_; refine zl (r := b true) (LOp.pick_true rfl rfl rfl) ?_)
              refine zm (r := b true) ?_
              iterate 5 (refine ROps.s rfl rfl rfl ?_)
              refine zl (r := b true) (LOp.pick_true rfl rfl rfl) ?_
              refine zm (r := b true) ?_
              iterate 4 (refine ROps.s rfl rfl rfl ?_)
              iterate 2 (refine zl (r := b true) (LOp.pick_true rfl rfl rfl) ?_; refine zm (r := b true) ?_; refine ROps.s rfl rfl rfl ?_; refine ROps.s rfl rfl rfl ?_; refine ROps.s rfl rfl rfl ?_)
              refine zl (r := b true) (LOp.pick_true rfl rfl rfl) ?_
              refine zN ?_
              exact .inl ⟨(Le.of ⟨aR, aR, aR, trivial⟩ ⟨⟨rfl, .inl rfl⟩, ⟨rfl, .inl rfl⟩, ⟨rfl, .inl rfl⟩, ⟨rfl, .inl rfl⟩, ⟨rfl, .inl rfl⟩, trivial⟩), h⟩
            ·refine RunC.regionW ?_
             refine zl (r := b true) (LOp.eqb (LOp.move rfl rfl) hc67) ?_
             refine zl (r := b false) (LOp.eqb (LOp.not rfl rfl) rfl) ?_
             refine zm (r := b false) ?_
             refine zl (r := b false) (LOp.eqb (LOp.move rfl rfl) hc68) ?_
             refine zl (r := b true) (LOp.eqb (LOp.not rfl rfl) rfl) ?_
             refine zl (r := b true) (LOp.pick_false rfl rfl rfl) ?_
             iterate 3 (refine zm (r := b true) ?_; refine ROps.s rfl rfl rfl ?_; refine ROps.s rfl rfl rfl ?_; refine zl (r := b true) (LOp.pick_true rfl rfl rfl) ?_)
             refine zm (r := b true) ?_
             iterate 5 (refine ROps.s rfl rfl rfl ?_)
             refine zl (r := b true) (LOp.pick_true rfl rfl rfl) ?_
             refine zm (r := b true) ?_
             iterate 4 (refine ROps.s rfl rfl rfl ?_)
             iterate 2 (refine zl (r := b true) (LOp.pick_true rfl rfl rfl) ?_; refine zm (r := b true) ?_; refine ROps.s rfl rfl rfl ?_; refine ROps.s rfl rfl rfl ?_; refine ROps.s rfl rfl rfl ?_)
             refine zl (r := b true) (LOp.pick_true rfl rfl rfl) ?_
             refine zN ?_
             exact .inl ⟨(Le.of ⟨aR, aR, aR, trivial⟩ ⟨⟨rfl, .inl rfl⟩, ⟨rfl, .inl rfl⟩, ⟨rfl, .inl rfl⟩, ⟨rfl, .inl rfl⟩, ⟨rfl, .inl rfl⟩, trivial⟩), h⟩
           ·refine RunC.regionW ?_
            refine zl (r := b false) (LOp.eqb (LOp.move rfl rfl) hc67) ?_
            refine zl (r := b true) (LOp.eqb (LOp.not rfl rfl) rfl) ?_
            iterate 4 (refine zm (r := b true) ?_; refine ROps.s rfl rfl rfl ?_; refine ROps.s rfl rfl rfl ?_; refine zl (r := b true) (LOp.pick_true rfl rfl rfl) ?_)
            refine zm (r := b true) ?_
            iterate 5 (refine ROps.s rfl rfl rfl ?_)
            refine zl (r := b true) (LOp.pick_true rfl rfl rfl) ?_
            refine zm (r := b true) ?_
            iterate 4 (refine ROps.s rfl rfl rfl ?_)
            iterate 2 (refine zl (r := b true) (LOp.pick_true rfl rfl rfl) ?_; refine zm (r := b true) ?_; refine ROps.s rfl rfl rfl ?_; refine ROps.s rfl rfl rfl ?_; refine ROps.s rfl rfl rfl ?_)
            refine zl (r := b true) (LOp.pick_true rfl rfl rfl) ?_
            refine zN ?_
            exact .inl ⟨(Le.of ⟨aR, aR, aR, trivial⟩ ⟨⟨rfl, .inl rfl⟩, ⟨rfl, .inl rfl⟩, ⟨rfl, .inl rfl⟩, ⟨rfl, .inl rfl⟩, ⟨rfl, .inl rfl⟩, trivial⟩), h⟩
          ·rintro τ41 Γ41 (⟨hw41, h⟩ | ⟨hw41, h⟩)
           ·refine RunC.le (τ' := [(5, i64 x3), (30, (sFc r76)), (323, b true)]) (Γ' := [⟨2, none⟩, ⟨3, none⟩, ⟨2, none⟩, ⟨2, none⟩, ⟨2, none⟩]) hw41 ?_
            unfold w_FnOrders_k16 at h
            refine RunC.cond_true rfl rfl ?_
            refine zQ ?_
            refine za (r := b false) ?_
            refine zN ?_
            refine RunC.ret ?_
            have hq := Option.some.inj h
            subst q0
            exact bodyQ.pure (.inr rfl) rfl (Res.one rfl (RV.tmp rfl))
           ·refine RunC.le (τ' := [(5, i64 x3), (30, (sFc r76)), (323, b false)]) (Γ' := [⟨2, none⟩, ⟨3, none⟩, ⟨2, none⟩, ⟨2, none⟩, ⟨2, none⟩]) hw41 ?_
            unfold w_FnOrders_k18 at h
            refine RunC.cond_false rfl rfl ?_
            refine RunC.skip ?_
            refine RunC.seq ?_
            obtain ⟨r92, r93, r94, hf77, h⟩ := obind3_some h
            refine RunC.regionW ?_
            refine zm (r := (sFc r76)) ?_
            refine ROps.d (r := tup [f32 r92, f32 r93, b r94]) (fs := []) (Γ' := [⟨2, none⟩, ⟨3, none⟩, ⟨2, none⟩, ⟨2, none⟩, ⟨2, none⟩]) rfl rfl rfl (TOp.callB (CallAs.func ent52 rfl rfl) (Bors.cons (Bor.sl (fun _ => rfl)) Bors.nil) rfl rfl (i_CarrySum_ok r76 r92 r93 r94 hf77)) rfl ?_
            refine zm (r := tup [f32 r92, f32 r93, b r94]) ?_
            refine zl (r := f32 r92) (LOp.extract rfl rfl rfl) ?_
            refine zl (r := f32 r93) (LOp.extract rfl rfl rfl) ?_
            refine zl (r := b r94) (LOp.extract rfl rfl rfl) ?_
            refine za (r := f32 r92) ?_
            refine za (r := f32 r93) ?_
            refine za (r := b r94) ?_
            refine zN ?_
            refine zQ ?_
            refine zl (r := f32 (some 0)) (LOp.le (LOp.assign rfl rfl) (ALe.fl (by kernel_rfl) (by kernel_rfl))) ?_
            refine zN ?_
            refine RunC.seq ?_
            refine zQ ?_
            refine za (r := i64 0) ?_
            refine zN ?_
            obtain ⟨z42, hz_42, h⟩ := obind_some h
            refine RunC.cutN (fun τ Γ => ∃ (y100 : F), Le 703 τ Γ [(41, f32 r92), (42, f32 r93), (43, b r94), (44, f32 y100)] [⟨2, none⟩, ⟨3, none⟩, ⟨2, none⟩, ⟨2, none⟩, ⟨2, none⟩] ∧ z42 = .inl y100) ?_ ?_
            ·refine RunC.block (RunC.loop (RunL.loopM (x := z42) (w_FnOrders_s19 x3 r76) (fun (s : F × Int) τ Γ => Le 703 τ Γ [(5, i64 x3), (30, (sFc r76)), (41, f32 r92), (42, f32 r93), (43, b r94), (44, f32 s.1), (45, i64 s.2)] [⟨2, none⟩, ⟨3, none⟩, ⟨2, none⟩, ⟨2, none⟩, ⟨2, none⟩]) ?_ _ _ _ hz_42 (Le.of ⟨aR, aR, aR, aR, aR, aR, aR, trivial⟩ ⟨⟨rfl, .inl rfl⟩, ⟨rfl, .inl rfl⟩, ⟨rfl, .inl rfl⟩, ⟨rfl, .inl rfl⟩, ⟨rfl, .inl rfl⟩, trivial⟩)))
             rintro ⟨y95, v96⟩ τ42 Γ42 y42_ hw42 h42_ ho42 hr42
             refine RunC.le (τ' := [(5, i64 x3), (30, (sFc r76)), (41, f32 r92), (42, f32 r93), (43, b r94), (44, f32 y95), (45, i64 v96)]) (Γ' := [⟨2, none⟩, ⟨3, none⟩, ⟨2, none⟩, ⟨2, none⟩, ⟨2, none⟩]) hw42 ?_
             replace h42_ : w_FnOrders_b19 x3 r76 y95 v96 = some y42_ := h42_
             unfold w_FnOrders_b19 at h42_
             iterate 2 (refine RunC.seq ?_)
             rcases bsel_some h42_ with ⟨hc78, h42_⟩ | ⟨hc78, h42_⟩
             ·refine RunC.regionW ?_
              refine zm (r := i64 v96) ?_
              refine zm (r := i64 x3) ?_
              refine zl (r := b true) (LOp.eqb (LOp.lss rfl rfl rfl) hc78) ?_
              refine zN ?_
              refine RunC.cond_true rfl rfl ?_
              refine RunC.skip ?_
              refine RunC.seq ?_
              refine RunC.block ?_
              obtain ⟨e97, he79, h42_⟩ := obind_some h42_
              obtain ⟨x98, hx80, h42_⟩ := olet_some h42_
              refine RunC.regionW ?_
              refine zm (r := f32 y95) ?_
              refine zm (r := (sFc r76)) ?_
              refine zm (r := i64 v96) ?_
              refine zl (r := ptr [f32 e97]) (LOp.le (LOp.ix (f := f32) und24 siz36 rfl rfl rfl rfl he79) ALe.ptr) ?_
              refine zl (r := f32 e97) (LOp.load1 agg36 rfl rfl) ?_
              refine ROps.d (r := f32 x98) (fs := []) (Γ' := [⟨2, none⟩, ⟨3, none⟩, ⟨2, none⟩, ⟨2, none⟩, ⟨2, none⟩]) rfl rfl rfl (TOp.eqr (TOp.fop (.inl rfl) rfl (OpF.tmp rfl) (OpF.tmp rfl)) (congrArg (f .f32) hx80)) rfl ?_
              refine za (r := f32 x98) ?_
              refine zN ?_
              obtain ⟨x99, hx81, h42_⟩ := olet_some h42_
              refine RunC.regionW ?_
              refine zm (r := i64 v96) ?_
              refine zl (r := i64 x99) (LOp.eqr (LOp.add rfl rfl rfl) (congrArg (ik .i64) hx81)) ?_
              refine za (r := i64 x99) ?_
              refine zN ?_
              cases Option.some.inj h42_
              exact ⟨_, rfl, (Le.of ⟨aR, aR, aR, aR, aR, aR, aR, trivial⟩ ⟨⟨rfl, .inl rfl⟩, ⟨rfl, .inl rfl⟩, ⟨rfl, .inl rfl⟩, ⟨rfl, .inl rfl⟩, ⟨rfl, .inl rfl⟩, trivial⟩)⟩
             ·refine RunC.regionW ?_
              refine zm (r := i64 v96) ?_
              refine zm (r := i64 x3) ?_
              refine zl (r := b false) (LOp.eqb (LOp.lss rfl rfl rfl) hc78) ?_
              refine zN ?_
              refine RunC.cond_false rfl rfl ?_
              refine RunC.exit ?_
              cases Option.some.inj h42_
              have hx := ho42 _ rfl
              exact ⟨y95, (Le.of ⟨aR, aR, aR, aR, trivial⟩ ⟨⟨rfl, .inl rfl⟩, ⟨rfl, .inl rfl⟩, ⟨rfl, .inl rfl⟩, ⟨rfl, .inl rfl⟩, ⟨rfl, .inl rfl⟩, trivial⟩), hx⟩
            ·rintro τ43 Γ43 ⟨y100, hw43, rfl⟩
             refine RunC.le hw43 ?_
             replace h : w_FnOrders_k19 r92 r93 r94 y100 = some q0 := h
             unfold w_FnOrders_k19 at h
             refine RunC.seq ?_
             refine RunC.cutN (fun τ Γ => ( Le 703 τ Γ [(4, b false)] [⟨2, none⟩, ⟨3, none⟩, ⟨2, none⟩, ⟨2, none⟩, ⟨2, none⟩] ∧ w_FnOrders_k21 = some q0) ∨ ( Le 703 τ Γ [(4, b (feq .f32 r93 (some 0)))] [⟨2, none⟩, ⟨3, none⟩, ⟨2, none⟩, ⟨2, none⟩, ⟨2, none⟩] ∧ w_FnOrders_k23 r93 = some q0)) ?_ ?_
             ·rcases bsel_some h with ⟨hc82, h⟩ | ⟨hc82, h⟩
              ·rcases bsel_some h with ⟨hc83, h⟩ | ⟨hc83, h⟩
               ·refine RunC.regionW ?_
                refine zl (r := b true) (LOp.eqb (LOp.move rfl rfl) hc82) ?_
                refine zm (r := b true) ?_
                refine zm (r := f32 r92) ?_
                refine zm (r := f32 y100) ?_
                refine zl (r := b true) (LOp.eqb (LOp.feq rfl (OpF.tmp rfl) (OpF.tmp rfl)) hc83) ?_
                refine zl (r := b true) (LOp.pick_true rfl rfl rfl) ?_
                refine zm (r := b true) ?_
                refine zm (r := f32 r93) ?_
                refine zl (r := b (feq .f32 r93 (some 0))) (LOp.feq rfl (OpF.tmp rfl) (OpF.const rfl (by kernel_rfl) (by kernel_rfl))) ?_
                refine zl (r := b (feq .f32 r93 (some 0))) (LOp.pick_true rfl rfl rfl) ?_
                refine za (r := b (feq .f32 r93 (some 0))) ?_
                refine zN ?_
                exact .inr (⟨(Le.of ⟨aR, trivial⟩ ⟨⟨rfl, .inl rfl⟩, ⟨rfl, .inl rfl⟩, ⟨rfl, .inl rfl⟩, ⟨rfl, .inl rfl⟩, ⟨rfl, .inl rfl⟩, trivial⟩), h⟩)
               ·refine RunC.regionW ?_
                refine zl (r := b true) (LOp.eqb (LOp.move rfl rfl) hc82) ?_
                refine zm (r := b true) ?_
                refine zm (r := f32 r92) ?_
                refine zm (r := f32 y100) ?_
                refine zl (r := b false) (LOp.eqb (LOp.feq rfl (OpF.tmp rfl) (OpF.tmp rfl)) hc83) ?_
                refine zl (r := b false) (LOp.pick_true rfl rfl rfl) ?_
                refine zm (r := b false) ?_
                iterate 2 (refine ROps.s rfl rfl rfl ?_)
                refine zl (r := b false) (LOp.pick_false rfl rfl rfl) ?_
                refine za (r := b false) ?_
                refine zN ?_
                exact .inl ⟨(Le.of ⟨aR, trivial⟩ ⟨⟨rfl, .inl rfl⟩, ⟨rfl, .inl rfl⟩, ⟨rfl, .inl rfl⟩, ⟨rfl, .inl rfl⟩, ⟨rfl, .inl rfl⟩, trivial⟩), h⟩
              ·refine RunC.regionW ?_
               refine zl (r := b false) (LOp.eqb (LOp.move rfl rfl) hc82) ?_
               refine zm (r := b false) ?_
               iterate 3 (refine ROps.s rfl rfl rfl ?_)
               refine zl (r := b false) (LOp.pick_false rfl rfl rfl) ?_
               refine zm (r := b false) ?_
               iterate 2 (refine ROps.s rfl rfl rfl ?_)
               refine zl (r := b false) (LOp.pick_false rfl rfl rfl) ?_
               refine za (r := b false) ?_
               refine zN ?_
               exact .inl ⟨(Le.of ⟨aR, trivial⟩ ⟨⟨rfl, .inl rfl⟩, ⟨rfl, .inl rfl⟩, ⟨rfl, .inl rfl⟩, ⟨rfl, .inl rfl⟩, ⟨rfl, .inl rfl⟩, trivial⟩), h⟩
             ·rintro τ44 Γ44 (⟨hw44, h⟩ | ⟨hw44, h⟩)
              ·refine RunC.le (τ' := [(4, b false)]) (Γ' := [⟨2, none⟩, ⟨3, none⟩, ⟨2, none⟩, ⟨2, none⟩, ⟨2, none⟩]) hw44 ?_
               unfold w_FnOrders_k21 at h
               refine RunC.ret ?_
               have hq := Option.some.inj h
               subst q0
               exact bodyQ.pure (.inr rfl) rfl (Res.one rfl (RV.tmp rfl))
              ·refine RunC.le (τ' := [(4, b (feq .f32 r93 (some 0)))]) (Γ' := [⟨2, none⟩, ⟨3, none⟩, ⟨2, none⟩, ⟨2, none⟩, ⟨2, none⟩]) hw44 ?_
               unfold w_FnOrders_k23 at h
               refine RunC.ret ?_
               have hq := Option.some.inj h
               subst q0
               exact bodyQ.pure (.inr rfl) rfl (Res.one rfl (RV.tmp rfl))
end Go.Proofs.Ytcjbfpoaidjpaaa
