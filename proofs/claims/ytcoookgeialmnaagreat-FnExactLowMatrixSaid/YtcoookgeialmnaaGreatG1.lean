/- Generated. -/
import Derived.Test.YtcoookgeialmnaaGreatG0
namespace Go.Proofs.YtcoookgeialmnaaGreat
open Go Go.AM Go.AM.AV
set_option maxRecDepth 20000
set_option maxHeartbeats 4000000
set_option linter.unusedVariables false
set_option linter.unusedSimpArgs false
noncomputable def s_LowMatrix_k5 (v15 : Int) (v19 : Int) : Option (LR (Int × Int) (Int) (Int × Int × Bool × (List F))) :=
 olet (IntKind.i64.wrap (v15 + 1)) fun (x21 : Int) =>
 some (LR.next (v19, x21))
noncomputable def s_LowMatrix_b6 (r10 : List F) (L11 : List Bool) (v14 : Int) (v15 : Int) : Option (LR (Int × Int) (Int) (Int × Int × Bool × (List F))) :=
 bsel (decide (v15 < ((r10.length : Nat) : Int))) (
  obind (at? L11 v15) fun (e16 : Bool) =>
  bsel e16 (
   s_LowMatrix_k5 v15 v14) (
   bsel (decide (v14 < 0)) (
    s_LowMatrix_k5 v15 v15) (
    obind (at? r10 v15) fun (e17 : F) =>
    obind (at? r10 v14) fun (e18 : F) =>
    bsel (flt .f32 e18 e17) (
     s_LowMatrix_k5 v15 v15) (
     s_LowMatrix_k5 v15 v14)))) (
  some (LR.out v14))
noncomputable def s_LowMatrix_s6 (r10 : List F) (L11 : List Bool) : (Int × Int) → Option (LR (Int × Int) (Int) (Int × Int × Bool × (List F))) := fun s => s_LowMatrix_b6 r10 L11 s.1 s.2
noncomputable def s_LowMatrix_k6 (L11 : List Bool) (v13 : Int) (v23 : Int) : Option (LR ((List Bool) × Int) ((List Bool)) (Int × Int × Bool × (List F))) :=
 obind (setAt? L11 v23 true) fun (L24 : List Bool) =>
 olet (IntKind.i64.wrap (v13 + 1)) fun (x25 : Int) =>
 some (LR.next (L24, x25))
noncomputable def s_LowMatrix_b7 (a3 : Int) (r10 : List F) (L11 : List Bool) (v13 : Int) : Option (LR ((List Bool) × Int) ((List Bool)) (Int × Int × Bool × (List F))) :=
 bsel (decide (v13 < a3)) (
  obind (loopM (s_LowMatrix_s6 r10 L11) ((-1), 0)) fun z => osum z (fun e => s_LowMatrix_k6 L11 v13 e) (fun r => some (LR.ret r))) (
  some (LR.out L11))
noncomputable def s_LowMatrix_s7 (a3 : Int) (r10 : List F) : ((List Bool) × Int) → Option (LR ((List Bool) × Int) ((List Bool)) (Int × Int × Bool × (List F))) := fun s => s_LowMatrix_b7 a3 r10 s.1 s.2
noncomputable def s_LowMatrix_b9 (a0 : Int) (a1 : Int) (r3 : Int) (r4 : Int) (r5 : Int) (r6 : Int) (r8 : List F) (r9 : List F) (L26 : List Bool) (v33 : Int) (L34 : List F) (v36 : Int) : Option (LR ((List F) × Int) ((List F)) (Int × Int × Bool × (List F))) :=
 olet (IntKind.i64.wrap (a0 * a1)) fun (x37 : Int) =>
 bsel (decide (v36 < x37)) (
  obind (at? L26 v33) fun (e38 : Bool) =>
  bsel e38 (
   obind (at? L34 v36) fun (e39 : F) =>
   need (!decide (a1 = 0)) <|
   olet (IntKind.i64.wrap (v36.tdiv a1)) fun (x40 : Int) =>
   obind (s_l02At r3 r4 r8 x40 v33) fun (r41 : F) =>
   need (!decide (a1 = 0)) <|
   olet (v36.tmod a1) fun (x42 : Int) =>
   obind (s_l02At r5 r6 r9 x42 v33) fun (r43 : F) =>
   olet (fop .mul .f32 r41 r43) fun (x44 : F) =>
   olet (fop .add .f32 e39 x44) fun (x45 : F) =>
   obind (setAt? L34 v36 x45) fun (L46 : List F) =>
   olet (IntKind.i64.wrap (v36 + 1)) fun (x47 : Int) =>
   some (LR.next (L46, x47))) (
   some (LR.out L34))) (
  some (LR.out L34))
noncomputable def s_LowMatrix_s9 (a0 : Int) (a1 : Int) (r3 : Int) (r4 : Int) (r5 : Int) (r6 : Int) (r8 : List F) (r9 : List F) (L26 : List Bool) (v33 : Int) : ((List F) × Int) → Option (LR ((List F) × Int) ((List F)) (Int × Int × Bool × (List F))) := fun s => s_LowMatrix_b9 a0 a1 r3 r4 r5 r6 r8 r9 L26 v33 s.1 s.2
noncomputable def s_LowMatrix_k9 (v33 : Int) (L48 : List F) : Option (LR ((List F) × Int) ((List F)) (Int × Int × Bool × (List F))) :=
 olet (IntKind.i64.wrap (v33 + 1)) fun (x51 : Int) =>
 some (LR.next (L48, x51))
noncomputable def s_LowMatrix_b10 (a0 : Int) (a1 : Int) (r3 : Int) (r4 : Int) (r5 : Int) (r6 : Int) (r8 : List F) (r9 : List F) (L26 : List Bool) (L31 : List F) (v33 : Int) : Option (LR ((List F) × Int) ((List F)) (Int × Int × Bool × (List F))) :=
 bsel (decide (v33 < a1)) (
  obind (loopM (s_LowMatrix_s9 a0 a1 r3 r4 r5 r6 r8 r9 L26 v33) (L31, 0)) fun z => osum z (fun e => s_LowMatrix_k9 v33 e) (fun r => some (LR.ret r))) (
  some (LR.out L31))
noncomputable def s_LowMatrix_s10 (a0 : Int) (a1 : Int) (r3 : Int) (r4 : Int) (r5 : Int) (r6 : Int) (r8 : List F) (r9 : List F) (L26 : List Bool) : ((List F) × Int) → Option (LR ((List F) × Int) ((List F)) (Int × Int × Bool × (List F))) := fun s => s_LowMatrix_b10 a0 a1 r3 r4 r5 r6 r8 r9 L26 s.1 s.2
noncomputable def s_LowMatrix_k10 (r28 : Int) (r29 : Int) (r30 : List F) (L52 : List F) : Option (Int × Int × Bool × (List F)) :=
 obind (s_l02Give_02o r28 r29 L52) (fun z => osum z (fun y => obind4 (some y) fun (r54 : Int) (r55 : Int) (r56 : Bool) (r57 : List F) =>
  need (decide (r57.length = r30.length)) <|
  some (r54, r55, r56, r57)) (fun y => obind5 (some y) fun (r58 : Int) (r59 : Int) (r60 : Bool) (r61 : List F) (r62 : List F) =>
  need (decide (r61.length = r30.length)) <|
  some (r58, r59, r60, r62)))
noncomputable def s_LowMatrix_k7 (a0 : Int) (a1 : Int) (r3 : Int) (r4 : Int) (r5 : Int) (r6 : Int) (r8 : List F) (r9 : List F) (L26 : List Bool) : Option (Int × Int × Bool × (List F)) :=
 obind3 (s_l02Zero a0 a1) fun (r28 : Int) (r29 : Int) (r30 : List F) =>
 obind (loopM (s_LowMatrix_s10 a0 a1 r3 r4 r5 r6 r8 r9 L26) (r30, 0)) fun z => osum z (fun e => s_LowMatrix_k10 r28 r29 r30 e) (fun r => some r)
noncomputable def s_LowMatrix (a0 : Int) (a1 : Int) (a2 : List F) (a3 : Int) (a4 : Int) : Option (Int × Int × Bool × (List F)) :=
 obind (s_l04Tall a0 a1 a2 a4) fun (r1 : Bool) =>
 bsel r1 (
  obind (s_l00In a3 0 a1) fun (r2 : Bool) =>
  bsel r2 (
   obind7 (s_l04Side a0 a1 a2 a4) fun (r3 : Int) (r4 : Int) (r5 : Int) (r6 : Int) (r7 : Bool) (r8 : List F) (r9 : List F) =>
   bsel r7 (
    obind (s_l04Squares r3 r4 r8) fun (r10 : List F) =>
    need (mkok 1 a1) <|
    obind (loopM (s_LowMatrix_s7 a3 r10) ((List.replicate a1.toNat false), 0)) fun z => osum z (fun e => s_LowMatrix_k7 a0 a1 r3 r4 r5 r6 r8 r9 e) (fun r => some r)) (
    some (0, 0, false, ([] : List F)))) (
   some (0, 0, false, ([] : List F)))) (
  some (0, 0, false, ([] : List F)))
theorem s_LowMatrix_ok (a0 : Int) (a1 : Int) (a2 : List F) (a3 : Int) (a4 : Int) (q0 : Int) (q1 : Int) (q2 : Bool) (q3 : List F) (h : s_LowMatrix a0 a1 a2 a3 a4 = some (q0, q1, q2, q3)) : Ev Tryz.prog 6 [agg [i64 a0, i64 a1, sl a2.length (a2.map f32)], i64 a3, i64 a4] [] (tup [agg [i64 q0, i64 q1, oref 0 0 0 q3.length], b q2]) [⟨0, some (q3.map f32)⟩] := by
 refine Ev.start Tryz.func6 rfl rfl 8 (τ := [(0, agg [i64 a0, i64 a1, sl a2.length (a2.map f32)]), (1, i64 a3), (2, i64 a4)]) rfl (Γ' := [⟨0, none⟩, ⟨0, none⟩, ⟨0, none⟩, ⟨0, none⟩, ⟨0, none⟩, ⟨0, none⟩, ⟨0, none⟩, ⟨0, none⟩]) rfl (n := 263) rfl (g := 0) rfl (fun _ => rfl) ?_
 unfold s_LowMatrix at h
 refine zQ ?_
 refine ROps.d (r := ptr [i64 a0, i64 a1, sl a2.length (a2.map f32)]) (fs := []) (Γ' := [⟨0, none⟩, ⟨0, none⟩, ⟨0, none⟩, ⟨0, none⟩, ⟨0, none⟩, ⟨0, none⟩, ⟨0, none⟩, ⟨0, none⟩]) rfl rfl rfl (TOp.box_s rfl rfl rfl) rfl ?_
 refine ROps.d (r := optr 0 1 0) (fs := [(0, [i64 0, i64 0, nilsl])]) (Γ' := [⟨1, some [i64 0, i64 0, nilsl]⟩, ⟨0, none⟩, ⟨0, none⟩, ⟨0, none⟩, ⟨0, none⟩, ⟨0, none⟩, ⟨0, none⟩, ⟨0, none⟩]) rfl rfl rfl (TOp.alloc_o (g := ⟨0, none⟩) 0 rfl zer26 zok26 rfl) rfl ?_
 refine zA (r := b false) rfl rfl rfl rfl rfl ?_
 refine zN ?_
 refine RunC.seq ?_
 refine RunC.seq ?_
 obtain ⟨r1, hf1, h⟩ := obind_some h
 rcases bsel_some h with ⟨hc2, h⟩ | ⟨hc2, h⟩
 ·obtain ⟨r2, hf3, h⟩ := obind_some h
  rcases bsel_some h with ⟨hc4, h⟩ | ⟨hc4, h⟩
  ·refine RunC.regionW ?_
   refine zM (r := i64 a4) rfl rfl rfl rfl rfl ?_
   refine ROps.d (r := b true) (fs := []) (Γ' := [⟨1, some [i64 0, i64 0, nilsl]⟩, ⟨0, none⟩, ⟨0, none⟩, ⟨0, none⟩, ⟨0, none⟩, ⟨0, none⟩, ⟨0, none⟩, ⟨0, none⟩]) rfl rfl rfl (TOp.eqb (TOp.callB (CallAs.func ent16 rfl rfl) (Bors.cons (Bor.ptr (Bors.cons (Bor.pure rfl) (Bors.cons (Bor.pure rfl) (Bors.cons (Bor.sl (fun _ => rfl)) Bors.nil)))) (Bors.cons (Bor.pure rfl) Bors.nil)) rfl rfl (s_l04Tall_ok a0 a1 a2 a4 r1 hf1)) hc2) rfl ?_
   refine zL (r := b false) rfl rfl rfl (LOp.eqb (LOp.not rfl rfl) rfl) ?_
   refine zM (r := b false) rfl rfl rfl rfl rfl ?_
   refine zM (r := i64 a3) rfl rfl rfl rfl rfl ?_
   refine zL (r := ptr [i64 a1, sl a2.length (a2.map f32)]) rfl rfl rfl (LOp.fap und26 rfl siz2 rfl rfl rfl) ?_
   refine zL (r := i64 a1) rfl rfl rfl (LOp.load1 agg2 rfl rfl) ?_
   refine ROps.d (r := b true) (fs := []) (Γ' := [⟨1, some [i64 0, i64 0, nilsl]⟩, ⟨0, none⟩, ⟨0, none⟩, ⟨0, none⟩, ⟨0, none⟩, ⟨0, none⟩, ⟨0, none⟩, ⟨0, none⟩]) rfl rfl rfl (TOp.eqb (TOp.callB (CallAs.func ent17 rfl rfl) (Bors.cons (Bor.pure rfl) (Bors.cons (Bor.pure rfl) (Bors.cons (Bor.pure rfl) Bors.nil))) rfl rfl (s_l00In_ok a3 0 a1 r2 hf3)) hc4) rfl ?_
   refine zL (r := b false) rfl rfl rfl (LOp.eqb (LOp.not rfl rfl) rfl) ?_
   refine zL (r := b false) rfl rfl rfl (LOp.pick_false rfl rfl rfl) ?_
   refine zN ?_
   refine RunC.cond_false rfl rfl ?_
   refine RunC.skip ?_
   refine RunC.seq ?_
   obtain ⟨r3, r4, r5, r6, r7, r8, r9, hf5, h⟩ := obind7_some h
   rcases bsel_some h with ⟨hc6, h⟩ | ⟨hc6, h⟩
   ·refine RunC.regionW ?_
    refine zM (r := i64 a4) rfl rfl rfl rfl rfl ?_
    refine ROps.d (r := tup [agg [i64 r3, i64 r4, oref 1 1 0 r8.length], agg [i64 r5, i64 r6, oref 2 1 0 r9.length], b r7]) (fs := [(1, (r8.map f32)), (2, (r9.map f32))]) (Γ' := [⟨1, some [i64 0, i64 0, nilsl]⟩, ⟨1, some (r8.map f32)⟩, ⟨1, some (r9.map f32)⟩, ⟨0, none⟩, ⟨0, none⟩, ⟨0, none⟩, ⟨0, none⟩, ⟨0, none⟩]) rfl rfl rfl (TOp.callBN (ls := [(r8.map f32), (r9.map f32)]) [1, 2] (CallAs.func ent18 rfl rfl) (Bors.cons (Bor.ptr (Bors.cons (Bor.pure rfl) (Bors.cons (Bor.pure rfl) (Bors.cons (Bor.sl (fun _ => rfl)) Bors.nil)))) (Bors.cons (Bor.pure rfl) Bors.nil)) rfl (s_l04Side_ok a0 a1 a2 a4 r3 r4 r5 r6 r7 r8 r9 hf5) (and_all (lts0_map (f := f32) (fun _ => rfl) _) (and_all (lts0_map (f := f32) (fun _ => rfl) _) rfl)) (and_all (noss_map (f := f32) (fun _ => rfl) _) (and_all (noss_map (f := f32) (fun _ => rfl) _) rfl)) rfl (by decide) (ns_of ⟨⟨_, rfl⟩, ⟨_, rfl⟩, trivial⟩)) rfl ?_
    refine zM (r := tup [agg [i64 r3, i64 r4, oref 1 1 0 r8.length], agg [i64 r5, i64 r6, oref 2 1 0 r9.length], b r7]) rfl rfl rfl rfl rfl ?_
    refine zL (r := agg [i64 r3, i64 r4, oref 1 1 0 r8.length]) rfl rfl rfl (LOp.extract rfl rfl rfl) ?_
    refine zL (r := agg [i64 r5, i64 r6, oref 2 1 0 r9.length]) rfl rfl rfl (LOp.extract rfl rfl rfl) ?_
    refine zL (r := b true) rfl rfl rfl (LOp.eqb (LOp.extract rfl rfl rfl) hc6) ?_
    refine ROps.d (r := optr 3 1 0) (fs := [(3, [i64 0, i64 0, nilsl])]) (Γ' := [⟨1, some [i64 0, i64 0, nilsl]⟩, ⟨1, some (r8.map f32)⟩, ⟨1, some (r9.map f32)⟩, ⟨1, some [i64 0, i64 0, nilsl]⟩, ⟨0, none⟩, ⟨0, none⟩, ⟨0, none⟩, ⟨0, none⟩]) rfl rfl rfl (TOp.alloc_o (g := ⟨0, none⟩) 3 rfl zer26 zok26 rfl) rfl ?_
    refine ROps.d (r := optr 4 1 0) (fs := [(4, [i64 0, i64 0, nilsl])]) (Γ' := [⟨1, some [i64 0, i64 0, nilsl]⟩, ⟨1, some (r8.map f32)⟩, ⟨1, some (r9.map f32)⟩, ⟨1, some [i64 0, i64 0, nilsl]⟩, ⟨1, some [i64 0, i64 0, nilsl]⟩, ⟨0, none⟩, ⟨0, none⟩, ⟨0, none⟩]) rfl rfl rfl (TOp.alloc_o (g := ⟨0, none⟩) 4 rfl zer26 zok26 rfl) rfl ?_
    refine ROps.store_le (r := agg [i64 r3, i64 r4, oref 1 1 0 r8.length]) (l' := [i64 r3, i64 r4, oref 1 1 0 r8.length]) (Γ' := [⟨1, some [i64 0, i64 0, nilsl]⟩, ⟨1, some (r8.map f32)⟩, ⟨1, some (r9.map f32)⟩, ⟨1, some [i64 r3, i64 r4, oref 1 1 0 r8.length]⟩, ⟨1, some [i64 0, i64 0, nilsl]⟩, ⟨0, none⟩, ⟨0, none⟩, ⟨0, none⟩]) rfl siz26 rfl rfl rfl aR rfl rfl rfl rfl (Nat.le_of_ble_eq_true rfl) rfl rfl ?_
    refine ROps.store_le (r := agg [i64 r5, i64 r6, oref 2 1 0 r9.length]) (l' := [i64 r5, i64 r6, oref 2 1 0 r9.length]) (Γ' := [⟨1, some [i64 0, i64 0, nilsl]⟩, ⟨1, some (r8.map f32)⟩, ⟨1, some (r9.map f32)⟩, ⟨1, some [i64 r3, i64 r4, oref 1 1 0 r8.length]⟩, ⟨1, some [i64 r5, i64 r6, oref 2 1 0 r9.length]⟩, ⟨0, none⟩, ⟨0, none⟩, ⟨0, none⟩]) rfl siz26 rfl rfl rfl aR rfl rfl rfl rfl (Nat.le_of_ble_eq_true rfl) rfl rfl ?_
    refine zA (r := b true) rfl rfl rfl rfl rfl ?_
    refine zN ?_
    refine RunC.seq ?_
    refine zQ ?_
    refine zM (r := b true) rfl rfl rfl rfl rfl ?_
    refine zL (r := b false) rfl rfl rfl (LOp.eqb (LOp.not rfl rfl) rfl) ?_
    refine zN ?_
    refine RunC.cond_false rfl rfl ?_
    refine RunC.skip ?_
    refine RunC.seq ?_
    obtain ⟨r10, hf7, h⟩ := obind_some h
    refine RunC.regionW ?_
    refine ROps.d (r := oref 5 1 0 r10.length) (fs := [(5, (r10.map f32))]) (Γ' := [⟨1, some [i64 0, i64 0, nilsl]⟩, ⟨1, some (r8.map f32)⟩, ⟨1, some (r9.map f32)⟩, ⟨1, some [i64 r3, i64 r4, oref 1 1 0 r8.length]⟩, ⟨1, some [i64 r5, i64 r6, oref 2 1 0 r9.length]⟩, ⟨1, some (r10.map f32)⟩, ⟨0, none⟩, ⟨0, none⟩]) rfl rfl rfl (TOp.callBN (ls := [(r10.map f32)]) [5] (CallAs.func ent19 rfl rfl) (Bors.cons (Bor.optr rfl (Bors.p (Bors.cons (Bor.pure rfl) (Bors.cons (Bor.pure rfl) (Bors.cons (Bor.own (f := f32) (fun _ => rfl) rfl rfl) Bors.nil)))) rfl) Bors.nil) rfl (s_l04Squares_ok r3 r4 r8 r10 hf7) (and_all (lts0_map (f := f32) (fun _ => rfl) _) rfl) (and_all (noss_map (f := f32) (fun _ => rfl) _) rfl) rfl (by decide) (ns_of ⟨⟨_, rfl⟩, trivial⟩)) rfl ?_
    refine zA (r := oref 5 1 0 r10.length) rfl rfl rfl rfl rfl ?_
    refine zN ?_
    refine RunC.seq ?_
    obtain ⟨hm8, h⟩ := need_some h
    refine RunC.regionW ?_
    refine zL (r := ptr [i64 a1, sl a2.length (a2.map f32)]) rfl rfl rfl (LOp.fap und26 rfl siz2 rfl rfl rfl) ?_
    refine zL (r := i64 a1) rfl rfl rfl (LOp.load1 agg2 rfl rfl) ?_
    refine ROps.d (r := oref 6 1 0 a1.toNat) (fs := [(6, ((List.replicate a1.toNat false).map b))]) (Γ' := [⟨1, some [i64 0, i64 0, nilsl]⟩, ⟨1, some (r8.map f32)⟩, ⟨1, some (r9.map f32)⟩, ⟨1, some [i64 r3, i64 r4, oref 1 1 0 r8.length]⟩, ⟨1, some [i64 r5, i64 r6, oref 2 1 0 r9.length]⟩, ⟨1, some (r10.map f32)⟩, ⟨1, some ((List.replicate a1.toNat false).map b)⟩, ⟨0, none⟩]) rfl rfl rfl (TOp.mkS (g := ⟨0, none⟩) (t := 46) (e := 4) (by_ := 1) (f := b) (zv := false) 6 rfl und46 tin4 rfl siz4 zer4 rfl zel4 rfl rfl rfl hm8) rfl ?_
    refine zA (r := oref 6 1 0 a1.toNat) rfl rfl rfl rfl rfl ?_
    refine zN ?_
    refine RunC.seq ?_
    refine zQ ?_
    refine zA (r := i64 0) rfl rfl rfl rfl rfl ?_
    refine zN ?_
    obtain ⟨z11, hz_11, h⟩ := obind_some h
    refine RunC.cutN (fun τ Γ => ∃ (L26 : List Bool), L26.length = a1.toNat ∧ WeakLe τ [(3, ptr [i64 a0, i64 a1, sl a2.length (a2.map f32)]), (6, optr 0 1 0), (8, optr 3 1 0), (9, optr 4 1 0), (12, oref 6 1 0 a1.toNat)] ∧ DeadLe Γ [⟨1, some [i64 0, i64 0, nilsl]⟩, ⟨1, some (r8.map f32)⟩, ⟨1, some (r9.map f32)⟩, ⟨1, some [i64 r3, i64 r4, oref 1 1 0 r8.length]⟩, ⟨1, some [i64 r5, i64 r6, oref 2 1 0 r9.length]⟩, ⟨1, none⟩, ⟨1, some (L26.map b)⟩, ⟨0, none⟩] ∧ z11 = .inl L26) ?_ ?_
    ·refine RunC.block (RunC.loop (RunL.loopM (x := z11) (s_LowMatrix_s7 a3 r10) (fun (s : (List Bool) × Int) τ Γ => s.1.length = a1.toNat ∧ WeakLe τ [(1, i64 a3), (3, ptr [i64 a0, i64 a1, sl a2.length (a2.map f32)]), (6, optr 0 1 0), (8, optr 3 1 0), (9, optr 4 1 0), (11, oref 5 1 0 r10.length), (12, oref 6 1 0 a1.toNat), (13, i64 s.2)] ∧ DeadLe Γ [⟨1, some [i64 0, i64 0, nilsl]⟩, ⟨1, some (r8.map f32)⟩, ⟨1, some (r9.map f32)⟩, ⟨1, some [i64 r3, i64 r4, oref 1 1 0 r8.length]⟩, ⟨1, some [i64 r5, i64 r6, oref 2 1 0 r9.length]⟩, ⟨1, some (r10.map f32)⟩, ⟨1, some (s.1.map b)⟩, ⟨0, none⟩]) ?_ _ _ _ hz_11 ⟨List.length_replicate, ⟨aR, aR, aR, aR, aR, aR, aR, aR, trivial⟩, ⟨⟨rfl, .inr rfl⟩, ⟨rfl, .inr rfl⟩, ⟨rfl, .inr rfl⟩, ⟨rfl, .inr rfl⟩, ⟨rfl, .inr rfl⟩, ⟨rfl, .inr rfl⟩, ⟨rfl, .inr rfl⟩, ⟨rfl, .inr rfl⟩, trivial⟩⟩))
     rintro ⟨L11, v13⟩ τ11 Γ11 y11_ ⟨hl12, hw11, hd11⟩ h11_ ho11 hr11
     refine RunC.wl (τ' := [(1, i64 a3), (3, ptr [i64 a0, i64 a1, sl a2.length (a2.map f32)]), (6, optr 0 1 0), (8, optr 3 1 0), (9, optr 4 1 0), (11, oref 5 1 0 r10.length), (12, oref 6 1 0 a1.toNat), (13, i64 v13)]) (Γ' := [⟨1, some [i64 0, i64 0, nilsl]⟩, ⟨1, some (r8.map f32)⟩, ⟨1, some (r9.map f32)⟩, ⟨1, some [i64 r3, i64 r4, oref 1 1 0 r8.length]⟩, ⟨1, some [i64 r5, i64 r6, oref 2 1 0 r9.length]⟩, ⟨1, some (r10.map f32)⟩, ⟨1, some (L11.map b)⟩, ⟨0, none⟩]) hw11 hd11 ?_
     replace hl12 : L11.length = a1.toNat := hl12
     replace h11_ : s_LowMatrix_b7 a3 r10 L11 v13 = some y11_ := h11_
     unfold s_LowMatrix_b7 at h11_
     refine RunC.seq ?_
     refine RunC.seq ?_
     rcases bsel_some h11_ with ⟨hc9, h11_⟩ | ⟨hc9, h11_⟩
     ·refine RunC.regionW ?_
      refine zM (r := i64 v13) rfl rfl rfl rfl rfl ?_
      refine zM (r := i64 a3) rfl rfl rfl rfl rfl ?_
      refine zL (r := b true) rfl rfl rfl (LOp.eqb (LOp.lss rfl rfl rfl) hc9) ?_
      refine zN ?_
      refine RunC.cond_true rfl rfl ?_
      refine RunC.skip ?_
      refine RunC.seq ?_
      refine RunC.block ?_
      refine zQ ?_
      refine zA (r := i64 (-1)) rfl rfl rfl rfl rfl ?_
      refine zN ?_
      refine RunC.seq ?_
      refine zQ ?_
      refine zA (r := i64 0) rfl rfl rfl rfl rfl ?_
      refine zN ?_
      obtain ⟨z12, hz_12, h11_⟩ := obind_some h11_
      refine RunC.cutN (fun τ Γ => ∃ (v23 : Int), L11.length = a1.toNat ∧ WeakLe τ [(1, i64 a3), (3, ptr [i64 a0, i64 a1, sl a2.length (a2.map f32)]), (6, optr 0 1 0), (8, optr 3 1 0), (9, optr 4 1 0), (11, oref 5 1 0 r10.length), (12, oref 6 1 0 a1.toNat), (13, i64 v13), (14, i64 v23)] ∧ DeadLe Γ [⟨1, some [i64 0, i64 0, nilsl]⟩, ⟨1, some (r8.map f32)⟩, ⟨1, some (r9.map f32)⟩, ⟨1, some [i64 r3, i64 r4, oref 1 1 0 r8.length]⟩, ⟨1, some [i64 r5, i64 r6, oref 2 1 0 r9.length]⟩, ⟨1, some (r10.map f32)⟩, ⟨1, some (L11.map b)⟩, ⟨0, none⟩] ∧ z12 = .inl v23) ?_ ?_
      ·refine RunC.block (RunC.loop (RunL.loopM (x := z12) (s_LowMatrix_s6 r10 L11) (fun (s : Int × Int) τ Γ => WeakLe τ [(1, i64 a3), (3, ptr [i64 a0, i64 a1, sl a2.length (a2.map f32)]), (6, optr 0 1 0), (8, optr 3 1 0), (9, optr 4 1 0), (11, oref 5 1 0 r10.length), (12, oref 6 1 0 a1.toNat), (13, i64 v13), (14, i64 s.1), (15, i64 s.2)] ∧ DeadLe Γ [⟨1, some [i64 0, i64 0, nilsl]⟩, ⟨1, some (r8.map f32)⟩, ⟨1, some (r9.map f32)⟩, ⟨1, some [i64 r3, i64 r4, oref 1 1 0 r8.length]⟩, ⟨1, some [i64 r5, i64 r6, oref 2 1 0 r9.length]⟩, ⟨1, some (r10.map f32)⟩, ⟨1, some (L11.map b)⟩, ⟨0, none⟩]) ?_ _ _ _ hz_12 ⟨⟨aR, aR, aR, aR, aR, aR, aR, aR, aR, aR, trivial⟩, ⟨⟨rfl, .inr rfl⟩, ⟨rfl, .inr rfl⟩, ⟨rfl, .inr rfl⟩, ⟨rfl, .inr rfl⟩, ⟨rfl, .inr rfl⟩, ⟨rfl, .inr rfl⟩, ⟨rfl, .inr rfl⟩, ⟨rfl, .inr rfl⟩, trivial⟩⟩))
       rintro ⟨v14, v15⟩ τ12 Γ12 y12_ ⟨hw12, hd12⟩ h12_ ho12 hr12
       refine RunC.wl (τ' := [(1, i64 a3), (3, ptr [i64 a0, i64 a1, sl a2.length (a2.map f32)]), (6, optr 0 1 0), (8, optr 3 1 0), (9, optr 4 1 0), (11, oref 5 1 0 r10.length), (12, oref 6 1 0 a1.toNat), (13, i64 v13), (14, i64 v14), (15, i64 v15)]) (Γ' := [⟨1, some [i64 0, i64 0, nilsl]⟩, ⟨1, some (r8.map f32)⟩, ⟨1, some (r9.map f32)⟩, ⟨1, some [i64 r3, i64 r4, oref 1 1 0 r8.length]⟩, ⟨1, some [i64 r5, i64 r6, oref 2 1 0 r9.length]⟩, ⟨1, some (r10.map f32)⟩, ⟨1, some (L11.map b)⟩, ⟨0, none⟩]) hw12 hd12 ?_
       replace h12_ : s_LowMatrix_b6 r10 L11 v14 v15 = some y12_ := h12_
       unfold s_LowMatrix_b6 at h12_
       refine RunC.seq ?_
       refine RunC.seq ?_
       rcases bsel_some h12_ with ⟨hc10, h12_⟩ | ⟨hc10, h12_⟩
       ·refine RunC.regionW ?_
        refine zM (r := i64 v15) rfl rfl rfl rfl rfl ?_
        refine zM (r := oref 5 1 0 r10.length) rfl rfl rfl rfl rfl ?_
        refine zL (r := i64 ((r10.length : Nat) : Int)) rfl rfl rfl (LOp.len_oref und22 rfl rfl) ?_
        refine zL (r := b true) rfl rfl rfl (LOp.eqb (LOp.lss rfl rfl rfl) hc10) ?_
        refine zN ?_
        refine RunC.cond_true rfl rfl ?_
        refine RunC.skip ?_
        refine RunC.seq ?_
        refine RunC.cutN (fun τ Γ => ∃ (v19 : Int), L11.length = a1.toNat ∧ WeakLe τ [(1, i64 a3), (3, ptr [i64 a0, i64 a1, sl a2.length (a2.map f32)]), (6, optr 0 1 0), (8, optr 3 1 0), (9, optr 4 1 0), (11, oref 5 1 0 r10.length), (12, oref 6 1 0 a1.toNat), (13, i64 v13), (14, i64 v19), (15, i64 v15)] ∧ DeadLe Γ [⟨1, some [i64 0, i64 0, nilsl]⟩, ⟨1, some (r8.map f32)⟩, ⟨1, some (r9.map f32)⟩, ⟨1, some [i64 r3, i64 r4, oref 1 1 0 r8.length]⟩, ⟨1, some [i64 r5, i64 r6, oref 2 1 0 r9.length]⟩, ⟨1, some (r10.map f32)⟩, ⟨1, some (L11.map b)⟩, ⟨0, none⟩] ∧ s_LowMatrix_k5 v15 v19 = some y12_) ?_ ?_
        ·refine RunC.block ?_
         refine RunC.seq ?_
         obtain ⟨e16, he11, h12_⟩ := obind_some h12_
         rcases bsel_some h12_ with ⟨hc12, h12_⟩ | ⟨hc12, h12_⟩
         ·refine RunC.region_draw (Γ' := [⟨1, some [i64 0, i64 0, nilsl]⟩, ⟨1, some (r8.map f32)⟩, ⟨1, some (r9.map f32)⟩, ⟨1, some [i64 r3, i64 r4, oref 1 1 0 r8.length]⟩, ⟨1, some [i64 r5, i64 r6, oref 2 1 0 r9.length]⟩, ⟨1, some (r10.map f32)⟩, ⟨1, some (L11.map b)⟩, ⟨0, none⟩]) 20 mixed 
           (TR.l (r := oref 6 1 0 a1.toNat) rfl rfl (LOp.move rfl rfl) <|
           (TR.l (r := i64 v15) rfl rfl (LOp.move rfl rfl) <|
           (TR.d (r := optr 6 1 v15.toNat) (fs := []) rfl rfl (TOp.ixo und46 siz4 rfl rfl rfl (at_in he11 hl12) rfl) <|
           (TR.d (r := b true) (fs := []) rfl rfl (TOp.eqb (TOp.load1_o rfl (at_cell he11) agg4 rfl rfl) hc12) <|
           (TR.l (r := b false) rfl rfl (LOp.eqb (LOp.not rfl rfl) rfl) <|
           (TR.l (r := b false) rfl rfl (LOp.move rfl rfl) <|
           (TR.s rfl rfl <|
           (TR.s rfl rfl <|
           (TR.s rfl rfl <|
           (TR.s rfl rfl <|
           (TR.s rfl rfl <|
           (TR.s rfl rfl <|
           (TR.s rfl rfl <|
           (TR.s rfl rfl <|
           (TR.s rfl rfl <|
           (TR.s rfl rfl <|
           (TR.s rfl rfl <|
           (TR.s rfl rfl <|
           (TR.s rfl rfl <|
           (TR.l (r := b false) rfl rfl (LOp.pick_false rfl rfl rfl) <|
           TR.nil)))))))))))))))))))) rfl (by kernel_rfl) rfl fills_nil rfl ?_
          iterate 20 refine ROps.dropS ?_
          refine ROps.drop0 ?_
          refine zN ?_
          refine RunC.cond_false rfl rfl ?_
          refine RunC.skip ?_
          exact ⟨v14, hl12, ⟨aR, aR, aR, aR, aR, aR, aR, aR, aR, aR, trivial⟩, ⟨⟨rfl, .inr rfl⟩, ⟨rfl, .inr rfl⟩, ⟨rfl, .inr rfl⟩, ⟨rfl, .inr rfl⟩, ⟨rfl, .inr rfl⟩, ⟨rfl, .inr rfl⟩, ⟨rfl, .inr rfl⟩, ⟨rfl, .inr rfl⟩, trivial⟩, h12_⟩
         ·rcases bsel_some h12_ with ⟨hc13, h12_⟩ | ⟨hc13, h12_⟩
          ·refine RunC.region_draw (Γ' := [⟨1, some [i64 0, i64 0, nilsl]⟩, ⟨1, some (r8.map f32)⟩, ⟨1, some (r9.map f32)⟩, ⟨1, some [i64 r3, i64 r4, oref 1 1 0 r8.length]⟩, ⟨1, some [i64 r5, i64 r6, oref 2 1 0 r9.length]⟩, ⟨1, some (r10.map f32)⟩, ⟨1, some (L11.map b)⟩, ⟨0, none⟩]) 20 mixed 
            (TR.l (r := oref 6 1 0 a1.toNat) rfl rfl (LOp.move rfl rfl) <|
            (TR.l (r := i64 v15) rfl rfl (LOp.move rfl rfl) <|
            (TR.d (r := optr 6 1 v15.toNat) (fs := []) rfl rfl (TOp.ixo und46 siz4 rfl rfl rfl (at_in he11 hl12) rfl) <|
            (TR.d (r := b false) (fs := []) rfl rfl (TOp.eqb (TOp.load1_o rfl (at_cell he11) agg4 rfl rfl) hc12) <|
            (TR.l (r := b true) rfl rfl (LOp.eqb (LOp.not rfl rfl) rfl) <|
            (TR.l (r := b true) rfl rfl (LOp.move rfl rfl) <|
            (TR.l (r := i64 v14) rfl rfl (LOp.move rfl rfl) <|
            (TR.l (r := b true) rfl rfl (LOp.eqb (LOp.lss rfl rfl rfl) hc13) <|
            (TR.l (r := b true) rfl rfl (LOp.move rfl rfl) <|
            (TR.s rfl rfl <|
            (TR.s rfl rfl <|
            (TR.s rfl rfl <|
            (TR.s rfl rfl <|
            (TR.s rfl rfl <|
            (TR.s rfl rfl <|
            (TR.s rfl rfl <|
            (TR.s rfl rfl <|
            (TR.s rfl rfl <|
            (TR.l (r := b true) rfl rfl (LOp.pick_true rfl rfl rfl) <|
            (TR.l (r := b true) rfl rfl (LOp.pick_true rfl rfl rfl) <|
            TR.nil)))))))))))))))))))) rfl (by kernel_rfl) rfl fills_nil rfl ?_
           iterate 20 refine ROps.dropS ?_
           refine ROps.drop0 ?_
           refine zN ?_
           refine RunC.cond_true rfl rfl ?_
           refine RunC.regionW ?_
           refine zM (r := i64 v15) rfl rfl rfl rfl rfl ?_
           refine zA (r := i64 v15) rfl rfl rfl rfl rfl ?_
           refine zN ?_
           exact ⟨v15, hl12, ⟨aR, aR, aR, aR, aR, aR, aR, aR, aR, aR, trivial⟩, ⟨⟨rfl, .inr rfl⟩, ⟨rfl, .inr rfl⟩, ⟨rfl, .inr rfl⟩, ⟨rfl, .inr rfl⟩, ⟨rfl, .inr rfl⟩, ⟨rfl, .inr rfl⟩, ⟨rfl, .inr rfl⟩, ⟨rfl, .inr rfl⟩, trivial⟩, h12_⟩
          ·obtain ⟨e17, he14, h12_⟩ := obind_some h12_
           obtain ⟨e18, he15, h12_⟩ := obind_some h12_
           rcases bsel_some h12_ with ⟨hc16, h12_⟩ | ⟨hc16, h12_⟩
           ·refine RunC.region_draw (Γ' := [⟨1, some [i64 0, i64 0, nilsl]⟩, ⟨1, some (r8.map f32)⟩, ⟨1, some (r9.map f32)⟩, ⟨1, some [i64 r3, i64 r4, oref 1 1 0 r8.length]⟩, ⟨1, some [i64 r5, i64 r6, oref 2 1 0 r9.length]⟩, ⟨1, some (r10.map f32)⟩, ⟨1, some (L11.map b)⟩, ⟨0, none⟩]) 20 mixed 
             (TR.l (r := oref 6 1 0 a1.toNat) rfl rfl (LOp.move rfl rfl) <|
             (TR.l (r := i64 v15) rfl rfl (LOp.move rfl rfl) <|
             (TR.d (r := optr 6 1 v15.toNat) (fs := []) rfl rfl (TOp.ixo und46 siz4 rfl rfl rfl (at_in he11 hl12) rfl) <|
             (TR.d (r := b false) (fs := []) rfl rfl (TOp.eqb (TOp.load1_o rfl (at_cell he11) agg4 rfl rfl) hc12) <|
             (TR.l (r := b true) rfl rfl (LOp.eqb (LOp.not rfl rfl) rfl) <|
             (TR.l (r := b true) rfl rfl (LOp.move rfl rfl) <|
             (TR.l (r := i64 v14) rfl rfl (LOp.move rfl rfl) <|
             (TR.l (r := b false) rfl rfl (LOp.eqb (LOp.lss rfl rfl rfl) hc13) <|
             (TR.l (r := b false) rfl rfl (LOp.move rfl rfl) <|
             (TR.l (r := oref 5 1 0 r10.length) rfl rfl (LOp.move rfl rfl) <|
             (TR.l (r := i64 v15) rfl rfl (LOp.move rfl rfl) <|
             (TR.d (r := optr 5 1 v15.toNat) (fs := []) rfl rfl (TOp.ixo und22 siz33 rfl rfl rfl (at_in he14 rfl) rfl) <|
             (TR.d (r := f32 e17) (fs := []) rfl rfl (TOp.load1_o rfl (at_cell he14) agg33 rfl rfl) <|
             (TR.l (r := oref 5 1 0 r10.length) rfl rfl (LOp.move rfl rfl) <|
             (TR.l (r := i64 v14) rfl rfl (LOp.move rfl rfl) <|
             (TR.d (r := optr 5 1 v14.toNat) (fs := []) rfl rfl (TOp.ixo und22 siz33 rfl rfl rfl (at_in he15 rfl) rfl) <|
             (TR.d (r := f32 e18) (fs := []) rfl rfl (TOp.load1_o rfl (at_cell he15) agg33 rfl rfl) <|
             (TR.l (r := b true) rfl rfl (LOp.eqb (LOp.fgt rfl (OpF.tmp rfl) (OpF.tmp rfl)) hc16) <|
             (TR.l (r := b true) rfl rfl (LOp.pick_false rfl rfl rfl) <|
             (TR.l (r := b true) rfl rfl (LOp.pick_true rfl rfl rfl) <|
             TR.nil)))))))))))))))))))) rfl (by kernel_rfl) rfl fills_nil rfl ?_
            iterate 20 refine ROps.dropS ?_
            refine ROps.drop0 ?_
            refine zN ?_
            refine RunC.cond_true rfl rfl ?_
            refine RunC.regionW ?_
            refine zM (r := i64 v15) rfl rfl rfl rfl rfl ?_
            refine zA (r := i64 v15) rfl rfl rfl rfl rfl ?_
            refine zN ?_
            exact ⟨v15, hl12, ⟨aR, aR, aR, aR, aR, aR, aR, aR, aR, aR, trivial⟩, ⟨⟨rfl, .inr rfl⟩, ⟨rfl, .inr rfl⟩, ⟨rfl, .inr rfl⟩, ⟨rfl, .inr rfl⟩, ⟨rfl, .inr rfl⟩, ⟨rfl, .inr rfl⟩, ⟨rfl, .inr rfl⟩, ⟨rfl, .inr rfl⟩, trivial⟩, h12_⟩
           ·refine RunC.region_draw (Γ' := [⟨1, some [i64 0, i64 0, nilsl]⟩, ⟨1, some (r8.map f32)⟩, ⟨1, some (r9.map f32)⟩, ⟨1, some [i64 r3, i64 r4, oref 1 1 0 r8.length]⟩, ⟨1, some [i64 r5, i64 r6, oref 2 1 0 r9.length]⟩, ⟨1, some (r10.map f32)⟩, ⟨1, some (L11.map b)⟩, ⟨0, none⟩]) 20 mixed 
             (TR.l (r := oref 6 1 0 a1.toNat) rfl rfl (LOp.move rfl rfl) <|
             (TR.l (r := i64 v15) rfl rfl (LOp.move rfl rfl) <|
             (TR.d (r := optr 6 1 v15.toNat) (fs := []) rfl rfl (TOp.ixo und46 siz4 rfl rfl rfl (at_in he11 hl12) rfl) <|
             (TR.d (r := b false) (fs := []) rfl rfl (TOp.eqb (TOp.load1_o rfl (at_cell he11) agg4 rfl rfl) hc12) <|
             (TR.l (r := b true) rfl rfl (LOp.eqb (LOp.not rfl rfl) rfl) <|
             (TR.l (r := b true) rfl rfl (LOp.move rfl rfl) <|
             (TR.l (r := i64 v14) rfl rfl (LOp.move rfl rfl) <|
             (TR.l (r := b false) rfl rfl (LOp.eqb (LOp.lss rfl rfl rfl) hc13) <|
             (TR.l (r := b false) rfl rfl (LOp.move rfl rfl) <|
             (TR.l (r := oref 5 1 0 r10.length) rfl rfl (LOp.move rfl rfl) <|
             (TR.l (r := i64 v15) rfl rfl (LOp.move rfl rfl) <|
             (TR.d (r := optr 5 1 v15.toNat) (fs := []) rfl rfl (TOp.ixo und22 siz33 rfl rfl rfl (at_in he14 rfl) rfl) <|
             (TR.d (r := f32 e17) (fs := []) rfl rfl (TOp.load1_o rfl (at_cell he14) agg33 rfl rfl) <|
             (TR.l (r := oref 5 1 0 r10.length) rfl rfl (LOp.move rfl rfl) <|
             (TR.l (r := i64 v14) rfl rfl (LOp.move rfl rfl) <|
             (TR.d (r := optr 5 1 v14.toNat) (fs := []) rfl rfl (TOp.ixo und22 siz33 rfl rfl rfl (at_in he15 rfl) rfl) <|
             (TR.d (r := f32 e18) (fs := []) rfl rfl (TOp.load1_o rfl (at_cell he15) agg33 rfl rfl) <|
             (TR.l (r := b false) rfl rfl (LOp.eqb (LOp.fgt rfl (OpF.tmp rfl) (OpF.tmp rfl)) hc16) <|
             (TR.l (r := b false) rfl rfl (LOp.pick_false rfl rfl rfl) <|
             (TR.l (r := b false) rfl rfl (LOp.pick_true rfl rfl rfl) <|
             TR.nil)))))))))))))))))))) rfl (by kernel_rfl) rfl fills_nil rfl ?_
            iterate 20 refine ROps.dropS ?_
            refine ROps.drop0 ?_
            refine zN ?_
            refine RunC.cond_false rfl rfl ?_
            refine RunC.skip ?_
            exact ⟨v14, hl12, ⟨aR, aR, aR, aR, aR, aR, aR, aR, aR, aR, trivial⟩, ⟨⟨rfl, .inr rfl⟩, ⟨rfl, .inr rfl⟩, ⟨rfl, .inr rfl⟩, ⟨rfl, .inr rfl⟩, ⟨rfl, .inr rfl⟩, ⟨rfl, .inr rfl⟩, ⟨rfl, .inr rfl⟩, ⟨rfl, .inr rfl⟩, trivial⟩, h12_⟩
        ·rintro τ13 Γ13 ⟨v19, hl20, hw13, hd13, h12_⟩
         refine RunC.wl hw13 hd13 ?_
         unfold s_LowMatrix_k5 at h12_
         obtain ⟨x21, hx17, h12_⟩ := olet_some h12_
         refine RunC.regionW ?_
         refine zM (r := i64 v15) rfl rfl rfl rfl rfl ?_
         refine zL (r := i64 x21) rfl rfl rfl (LOp.eqr (LOp.add rfl rfl rfl) (congrArg (ik .i64) hx17)) ?_
         refine zA (r := i64 x21) rfl rfl rfl rfl rfl ?_
         refine zN ?_
         cases Option.some.inj h12_
         exact ⟨_, rfl, ⟨aR, aR, aR, aR, aR, aR, aR, aR, aR, aR, trivial⟩, ⟨⟨rfl, .inr rfl⟩, ⟨rfl, .inr rfl⟩, ⟨rfl, .inr rfl⟩, ⟨rfl, .inr rfl⟩, ⟨rfl, .inr rfl⟩, ⟨rfl, .inr rfl⟩, ⟨rfl, .inr rfl⟩, ⟨rfl, .inr rfl⟩, trivial⟩⟩
       ·refine RunC.regionW ?_
        refine zM (r := i64 v15) rfl rfl rfl rfl rfl ?_
        refine zM (r := oref 5 1 0 r10.length) rfl rfl rfl rfl rfl ?_
        refine zL (r := i64 ((r10.length : Nat) : Int)) rfl rfl rfl (LOp.len_oref und22 rfl rfl) ?_
        refine zL (r := b false) rfl rfl rfl (LOp.eqb (LOp.lss rfl rfl rfl) hc10) ?_
        refine zN ?_
        refine RunC.cond_false rfl rfl ?_
        refine RunC.exit ?_
        cases Option.some.inj h12_
        have hx := ho12 _ rfl
        exact ⟨v14, hl12, ⟨aR, aR, aR, aR, aR, aR, aR, aR, aR, trivial⟩, ⟨⟨rfl, .inr rfl⟩, ⟨rfl, .inr rfl⟩, ⟨rfl, .inr rfl⟩, ⟨rfl, .inr rfl⟩, ⟨rfl, .inr rfl⟩, ⟨rfl, .inr rfl⟩, ⟨rfl, .inr rfl⟩, ⟨rfl, .inr rfl⟩, trivial⟩, hx⟩
      ·rintro τ14 Γ14 ⟨v23, hl22, hw14, hd14, rfl⟩
       refine RunC.wl hw14 hd14 ?_
       replace h11_ : s_LowMatrix_k6 L11 v13 v23 = some y11_ := h11_
       unfold s_LowMatrix_k6 at h11_
       obtain ⟨L24, he18, h11_⟩ := obind_some h11_
       refine RunC.regionW ?_
       refine zM (r := oref 6 1 0 a1.toNat) rfl rfl rfl rfl rfl ?_
       refine zM (r := i64 v23) rfl rfl rfl rfl rfl ?_
       refine ROps.d (r := optr 6 1 v23.toNat) (fs := []) (Γ' := [⟨1, some [i64 0, i64 0, nilsl]⟩, ⟨1, some (r8.map f32)⟩, ⟨1, some (r9.map f32)⟩, ⟨1, some [i64 r3, i64 r4, oref 1 1 0 r8.length]⟩, ⟨1, some [i64 r5, i64 r6, oref 2 1 0 r9.length]⟩, ⟨1, some (r10.map f32)⟩, ⟨1, some (L11.map b)⟩, ⟨0, none⟩]) rfl rfl rfl (TOp.ixo und46 siz4 rfl rfl rfl (set_in he18 hl22) rfl) rfl ?_
       refine ROps.st (f := b) (i := v23) (Γ' := [⟨1, some [i64 0, i64 0, nilsl]⟩, ⟨1, some (r8.map f32)⟩, ⟨1, some (r9.map f32)⟩, ⟨1, some [i64 r3, i64 r4, oref 1 1 0 r8.length]⟩, ⟨1, some [i64 r5, i64 r6, oref 2 1 0 r9.length]⟩, ⟨1, some (r10.map f32)⟩, ⟨1, some (L24.map b)⟩, ⟨0, none⟩]) rfl siz4 rfl rfl rfl aR rfl rfl rfl he18 rfl ?_
       refine zN ?_
       obtain ⟨x25, hx19, h11_⟩ := olet_some h11_
       refine RunC.regionW ?_
       refine zM (r := i64 v13) rfl rfl rfl rfl rfl ?_
       refine zL (r := i64 x25) rfl rfl rfl (LOp.eqr (LOp.add rfl rfl rfl) (congrArg (ik .i64) hx19)) ?_
       refine zA (r := i64 x25) rfl rfl rfl rfl rfl ?_
       refine zN ?_
       cases Option.some.inj h11_
       exact ⟨_, rfl, ((setAt?_len he18).trans hl22), ⟨aR, aR, aR, aR, aR, aR, aR, aR, trivial⟩, ⟨⟨rfl, .inr rfl⟩, ⟨rfl, .inr rfl⟩, ⟨rfl, .inr rfl⟩, ⟨rfl, .inr rfl⟩, ⟨rfl, .inr rfl⟩, ⟨rfl, .inr rfl⟩, ⟨rfl, .inr rfl⟩, ⟨rfl, .inr rfl⟩, trivial⟩⟩
     ·refine RunC.regionW ?_
      refine zM (r := i64 v13) rfl rfl rfl rfl rfl ?_
      refine zM (r := i64 a3) rfl rfl rfl rfl rfl ?_
      refine zL (r := b false) rfl rfl rfl (LOp.eqb (LOp.lss rfl rfl rfl) hc9) ?_
      refine zN ?_
      refine RunC.cond_false rfl rfl ?_
      refine RunC.exit ?_
      cases Option.some.inj h11_
      have hx := ho11 _ rfl
      exact ⟨L11, hl12, ⟨aR, aR, aR, aR, aR, trivial⟩, ⟨⟨rfl, .inr rfl⟩, ⟨rfl, .inr rfl⟩, ⟨rfl, .inr rfl⟩, ⟨rfl, .inr rfl⟩, ⟨rfl, .inr rfl⟩, ⟨rfl, .inl rfl⟩, ⟨rfl, .inr rfl⟩, ⟨rfl, .inr rfl⟩, trivial⟩, hx⟩
    ·rintro τ15 Γ15 ⟨L26, hl27, hw15, hd15, rfl⟩
     refine RunC.wl hw15 hd15 ?_
     replace h : s_LowMatrix_k7 a0 a1 r3 r4 r5 r6 r8 r9 L26 = some (q0, q1, q2, q3) := h
     unfold s_LowMatrix_k7 at h
     refine RunC.seq ?_
     obtain ⟨r28, r29, r30, hf20, h⟩ := obind3_some h
     refine RunC.regionW ?_
     refine zL (r := ptr [i64 a0, i64 a1, sl a2.length (a2.map f32)]) rfl rfl rfl (LOp.fap und26 rfl siz2 rfl rfl rfl) ?_
     refine zL (r := i64 a0) rfl rfl rfl (LOp.load1 agg2 rfl rfl) ?_
     refine zL (r := ptr [i64 a1, sl a2.length (a2.map f32)]) rfl rfl rfl (LOp.fap und26 rfl siz2 rfl rfl rfl) ?_
     refine zL (r := i64 a1) rfl rfl rfl (LOp.load1 agg2 rfl rfl) ?_
     refine ROps.d (r := agg [i64 r28, i64 r29, oref 5 2 0 r30.length]) (fs := [(5, (r30.map f32))]) (Γ' := [⟨1, some [i64 0, i64 0, nilsl]⟩, ⟨1, some (r8.map f32)⟩, ⟨1, some (r9.map f32)⟩, ⟨1, some [i64 r3, i64 r4, oref 1 1 0 r8.length]⟩, ⟨1, some [i64 r5, i64 r6, oref 2 1 0 r9.length]⟩, ⟨2, some (r30.map f32)⟩, ⟨1, some (L26.map b)⟩, ⟨0, none⟩]) rfl rfl rfl (TOp.callBN (ls := [(r30.map f32)]) [5] (CallAs.func ent20 rfl rfl) (Bors.cons (Bor.pure rfl) (Bors.cons (Bor.pure rfl) Bors.nil)) rfl (s_l02Zero_ok a0 a1 r28 r29 r30 hf20) (and_all (lts0_map (f := f32) (fun _ => rfl) _) rfl) (and_all (noss_map (f := f32) (fun _ => rfl) _) rfl) rfl (by decide) (ns_of ⟨⟨_, rfl⟩, trivial⟩)) rfl ?_
     refine ROps.d (r := optr 7 1 0) (fs := [(7, [i64 0, i64 0, nilsl])]) (Γ' := [⟨1, some [i64 0, i64 0, nilsl]⟩, ⟨1, some (r8.map f32)⟩, ⟨1, some (r9.map f32)⟩, ⟨1, some [i64 r3, i64 r4, oref 1 1 0 r8.length]⟩, ⟨1, some [i64 r5, i64 r6, oref 2 1 0 r9.length]⟩, ⟨2, some (r30.map f32)⟩, ⟨1, some (L26.map b)⟩, ⟨1, some [i64 0, i64 0, nilsl]⟩]) rfl rfl rfl (TOp.alloc_o (g := ⟨0, none⟩) 7 rfl zer26 zok26 rfl) rfl ?_
     refine ROps.store_le (r := agg [i64 r28, i64 r29, oref 5 2 0 r30.length]) (l' := [i64 r28, i64 r29, oref 5 2 0 r30.length]) (Γ' := [⟨1, some [i64 0, i64 0, nilsl]⟩, ⟨1, some (r8.map f32)⟩, ⟨1, some (r9.map f32)⟩, ⟨1, some [i64 r3, i64 r4, oref 1 1 0 r8.length]⟩, ⟨1, some [i64 r5, i64 r6, oref 2 1 0 r9.length]⟩, ⟨2, some (r30.map f32)⟩, ⟨1, some (L26.map b)⟩, ⟨1, some [i64 r28, i64 r29, oref 5 2 0 r30.length]⟩]) rfl siz26 rfl rfl rfl aR rfl rfl rfl rfl (Nat.le_of_ble_eq_true rfl) rfl rfl ?_
     refine zN ?_
     refine RunC.seq ?_
     refine zQ ?_
     refine zA (r := i64 0) rfl rfl rfl rfl rfl ?_
     refine zN ?_
     obtain ⟨z16, hz_16, h⟩ := obind_some h
     refine RunC.cutN (fun τ Γ => ∃ (L52 : List F), L52.length = r30.length ∧ WeakLe τ [(6, optr 0 1 0), (16, optr 7 1 0)] ∧ DeadLe Γ [⟨1, some [i64 0, i64 0, nilsl]⟩, ⟨1, none⟩, ⟨1, none⟩, ⟨1, none⟩, ⟨1, none⟩, ⟨2, some (L52.map f32)⟩, ⟨1, none⟩, ⟨1, some [i64 r28, i64 r29, oref 5 2 0 r30.length]⟩] ∧ z16 = .inl L52) ?_ ?_
     ·refine RunC.block (RunC.loop (RunL.loopM (x := z16) (s_LowMatrix_s10 a0 a1 r3 r4 r5 r6 r8 r9 L26) (fun (s : (List F) × Int) τ Γ => s.1.length = r30.length ∧ WeakLe τ [(3, ptr [i64 a0, i64 a1, sl a2.length (a2.map f32)]), (6, optr 0 1 0), (8, optr 3 1 0), (9, optr 4 1 0), (12, oref 6 1 0 a1.toNat), (16, optr 7 1 0), (17, i64 s.2)] ∧ DeadLe Γ [⟨1, some [i64 0, i64 0, nilsl]⟩, ⟨1, some (r8.map f32)⟩, ⟨1, some (r9.map f32)⟩, ⟨1, some [i64 r3, i64 r4, oref 1 1 0 r8.length]⟩, ⟨1, some [i64 r5, i64 r6, oref 2 1 0 r9.length]⟩, ⟨2, some (s.1.map f32)⟩, ⟨1, some (L26.map b)⟩, ⟨1, some [i64 r28, i64 r29, oref 5 2 0 r30.length]⟩]) ?_ _ _ _ hz_16 ⟨rfl, ⟨aR, aR, aR, aR, aR, aR, aR, trivial⟩, ⟨⟨rfl, .inr rfl⟩, ⟨rfl, .inr rfl⟩, ⟨rfl, .inr rfl⟩, ⟨rfl, .inr rfl⟩, ⟨rfl, .inr rfl⟩, ⟨rfl, .inr rfl⟩, ⟨rfl, .inr rfl⟩, ⟨rfl, .inr rfl⟩, trivial⟩⟩))
      rintro ⟨L31, v33⟩ τ16 Γ16 y16_ ⟨hl32, hw16, hd16⟩ h16_ ho16 hr16
      refine RunC.wl (τ' := [(3, ptr [i64 a0, i64 a1, sl a2.length (a2.map f32)]), (6, optr 0 1 0), (8, optr 3 1 0), (9, optr 4 1 0), (12, oref 6 1 0 a1.toNat), (16, optr 7 1 0), (17, i64 v33)]) (Γ' := [⟨1, some [i64 0, i64 0, nilsl]⟩, ⟨1, some (r8.map f32)⟩, ⟨1, some (r9.map f32)⟩, ⟨1, some [i64 r3, i64 r4, oref 1 1 0 r8.length]⟩, ⟨1, some [i64 r5, i64 r6, oref 2 1 0 r9.length]⟩, ⟨2, some (L31.map f32)⟩, ⟨1, some (L26.map b)⟩, ⟨1, some [i64 r28, i64 r29, oref 5 2 0 r30.length]⟩]) hw16 hd16 ?_
      replace hl32 : L31.length = r30.length := hl32
      replace h16_ : s_LowMatrix_b10 a0 a1 r3 r4 r5 r6 r8 r9 L26 L31 v33 = some y16_ := h16_
      unfold s_LowMatrix_b10 at h16_
      refine RunC.seq ?_
      refine RunC.seq ?_
      rcases bsel_some h16_ with ⟨hc21, h16_⟩ | ⟨hc21, h16_⟩
      ·refine RunC.regionW ?_
       refine zM (r := i64 v33) rfl rfl rfl rfl rfl ?_
       refine zL (r := ptr [i64 a1, sl a2.length (a2.map f32)]) rfl rfl rfl (LOp.fap und26 rfl siz2 rfl rfl rfl) ?_
       refine zL (r := i64 a1) rfl rfl rfl (LOp.load1 agg2 rfl rfl) ?_
       refine zL (r := b true) rfl rfl rfl (LOp.eqb (LOp.lss rfl rfl rfl) hc21) ?_
       refine zN ?_
       refine RunC.cond_true rfl rfl ?_
       refine RunC.skip ?_
       refine RunC.seq ?_
       refine RunC.block ?_
       refine zQ ?_
       refine zA (r := i64 0) rfl rfl rfl rfl rfl ?_
       refine zN ?_
       obtain ⟨z17, hz_17, h16_⟩ := obind_some h16_
       refine RunC.cutN (fun τ Γ => ∃ (L48 : List F), L48.length = r30.length ∧ L26.length = a1.toNat ∧ WeakLe τ [(3, ptr [i64 a0, i64 a1, sl a2.length (a2.map f32)]), (6, optr 0 1 0), (8, optr 3 1 0), (9, optr 4 1 0), (12, oref 6 1 0 a1.toNat), (16, optr 7 1 0), (17, i64 v33)] ∧ DeadLe Γ [⟨1, some [i64 0, i64 0, nilsl]⟩, ⟨1, some (r8.map f32)⟩, ⟨1, some (r9.map f32)⟩, ⟨1, some [i64 r3, i64 r4, oref 1 1 0 r8.length]⟩, ⟨1, some [i64 r5, i64 r6, oref 2 1 0 r9.length]⟩, ⟨2, some (L48.map f32)⟩, ⟨1, some (L26.map b)⟩, ⟨1, some [i64 r28, i64 r29, oref 5 2 0 r30.length]⟩] ∧ z17 = .inl L48) ?_ ?_
       ·refine RunC.block (RunC.loop (RunL.loopM (x := z17) (s_LowMatrix_s9 a0 a1 r3 r4 r5 r6 r8 r9 L26 v33) (fun (s : (List F) × Int) τ Γ => s.1.length = r30.length ∧ WeakLe τ [(3, ptr [i64 a0, i64 a1, sl a2.length (a2.map f32)]), (6, optr 0 1 0), (8, optr 3 1 0), (9, optr 4 1 0), (12, oref 6 1 0 a1.toNat), (16, optr 7 1 0), (17, i64 v33), (18, i64 s.2)] ∧ DeadLe Γ [⟨1, some [i64 0, i64 0, nilsl]⟩, ⟨1, some (r8.map f32)⟩, ⟨1, some (r9.map f32)⟩, ⟨1, some [i64 r3, i64 r4, oref 1 1 0 r8.length]⟩, ⟨1, some [i64 r5, i64 r6, oref 2 1 0 r9.length]⟩, ⟨2, some (s.1.map f32)⟩, ⟨1, some (L26.map b)⟩, ⟨1, some [i64 r28, i64 r29, oref 5 2 0 r30.length]⟩]) ?_ _ _ _ hz_17 ⟨hl32, ⟨aR, aR, aR, aR, aR, aR, aR, aR, trivial⟩, ⟨⟨rfl, .inr rfl⟩, ⟨rfl, .inr rfl⟩, ⟨rfl, .inr rfl⟩, ⟨rfl, .inr rfl⟩, ⟨rfl, .inr rfl⟩, ⟨rfl, .inr rfl⟩, ⟨rfl, .inr rfl⟩, ⟨rfl, .inr rfl⟩, trivial⟩⟩))
        rintro ⟨L34, v36⟩ τ17 Γ17 y17_ ⟨hl35, hw17, hd17⟩ h17_ ho17 hr17
        refine RunC.wl (τ' := [(3, ptr [i64 a0, i64 a1, sl a2.length (a2.map f32)]), (6, optr 0 1 0), (8, optr 3 1 0), (9, optr 4 1 0), (12, oref 6 1 0 a1.toNat), (16, optr 7 1 0), (17, i64 v33), (18, i64 v36)]) (Γ' := [⟨1, some [i64 0, i64 0, nilsl]⟩, ⟨1, some (r8.map f32)⟩, ⟨1, some (r9.map f32)⟩, ⟨1, some [i64 r3, i64 r4, oref 1 1 0 r8.length]⟩, ⟨1, some [i64 r5, i64 r6, oref 2 1 0 r9.length]⟩, ⟨2, some (L34.map f32)⟩, ⟨1, some (L26.map b)⟩, ⟨1, some [i64 r28, i64 r29, oref 5 2 0 r30.length]⟩]) hw17 hd17 ?_
        replace hl35 : L34.length = r30.length := hl35
        replace h17_ : s_LowMatrix_b9 a0 a1 r3 r4 r5 r6 r8 r9 L26 v33 L34 v36 = some y17_ := h17_
        unfold s_LowMatrix_b9 at h17_
        refine RunC.seq ?_
        refine RunC.seq ?_
        obtain ⟨x37, hx22, h17_⟩ := olet_some h17_
        rcases bsel_some h17_ with ⟨hc23, h17_⟩ | ⟨hc23, h17_⟩
        ·obtain ⟨e38, he24, h17_⟩ := obind_some h17_
         rcases bsel_some h17_ with ⟨hc25, h17_⟩ | ⟨hc25, h17_⟩
         ·refine RunC.regionW ?_
          refine zM (r := i64 v36) rfl rfl rfl rfl rfl ?_
          refine zL (r := ptr [i64 a0, i64 a1, sl a2.length (a2.map f32)]) rfl rfl rfl (LOp.fap und26 rfl siz2 rfl rfl rfl) ?_
          refine zL (r := i64 a0) rfl rfl rfl (LOp.load1 agg2 rfl rfl) ?_
          refine zL (r := ptr [i64 a1, sl a2.length (a2.map f32)]) rfl rfl rfl (LOp.fap und26 rfl siz2 rfl rfl rfl) ?_
          refine zL (r := i64 a1) rfl rfl rfl (LOp.load1 agg2 rfl rfl) ?_
          refine zL (r := i64 x37) rfl rfl rfl (LOp.eqr (LOp.mul rfl rfl rfl) (congrArg (ik .i64) hx22)) ?_
          refine zL (r := b true) rfl rfl rfl (LOp.eqb (LOp.lss rfl rfl rfl) hc23) ?_
          refine zM (r := b true) rfl rfl rfl rfl rfl ?_
          refine zM (r := oref 6 1 0 a1.toNat) rfl rfl rfl rfl rfl ?_
          refine zM (r := i64 v33) rfl rfl rfl rfl rfl ?_
          refine ROps.d (r := optr 6 1 v33.toNat) (fs := []) (Γ' := [⟨1, some [i64 0, i64 0, nilsl]⟩, ⟨1, some (r8.map f32)⟩, ⟨1, some (r9.map f32)⟩, ⟨1, some [i64 r3, i64 r4, oref 1 1 0 r8.length]⟩, ⟨1, some [i64 r5, i64 r6, oref 2 1 0 r9.length]⟩, ⟨2, some (L34.map f32)⟩, ⟨1, some (L26.map b)⟩, ⟨1, some [i64 r28, i64 r29, oref 5 2 0 r30.length]⟩]) rfl rfl rfl (TOp.ixo und46 siz4 rfl rfl rfl (at_in he24 hl27) rfl) rfl ?_
          refine ROps.d (r := b true) (fs := []) (Γ' := [⟨1, some [i64 0, i64 0, nilsl]⟩, ⟨1, some (r8.map f32)⟩, ⟨1, some (r9.map f32)⟩, ⟨1, some [i64 r3, i64 r4, oref 1 1 0 r8.length]⟩, ⟨1, some [i64 r5, i64 r6, oref 2 1 0 r9.length]⟩, ⟨2, some (L34.map f32)⟩, ⟨1, some (L26.map b)⟩, ⟨1, some [i64 r28, i64 r29, oref 5 2 0 r30.length]⟩]) rfl rfl rfl (TOp.eqb (TOp.load1_o rfl (at_cell he24) agg4 rfl rfl) hc25) rfl ?_
          refine zL (r := b true) rfl rfl rfl (LOp.pick_true rfl rfl rfl) ?_
          refine zN ?_
          refine RunC.cond_true rfl rfl ?_
          refine RunC.skip ?_
          refine RunC.seq ?_
          refine RunC.block ?_
          obtain ⟨e39, he26, h17_⟩ := obind_some h17_
          obtain ⟨hz27, h17_⟩ := need_some h17_
          obtain ⟨x40, hx28, h17_⟩ := olet_some h17_
          obtain ⟨r41, hf29, h17_⟩ := obind_some h17_
          obtain ⟨hz30, h17_⟩ := need_some h17_
          obtain ⟨x42, hx31, h17_⟩ := olet_some h17_
          obtain ⟨r43, hf32, h17_⟩ := obind_some h17_
          obtain ⟨x44, hx33, h17_⟩ := olet_some h17_
          obtain ⟨x45, hx34, h17_⟩ := olet_some h17_
          obtain ⟨L46, he35, h17_⟩ := obind_some h17_
          refine RunC.region_draw (Γ' := [⟨1, some [i64 0, i64 0, nilsl]⟩, ⟨1, some (r8.map f32)⟩, ⟨1, some (r9.map f32)⟩, ⟨1, some [i64 r3, i64 r4, oref 1 1 0 r8.length]⟩, ⟨1, some [i64 r5, i64 r6, oref 2 1 0 r9.length]⟩, ⟨2, some (L34.map f32)⟩, ⟨1, some (L26.map b)⟩, ⟨1, some [i64 r28, i64 r29, oref 5 2 0 r30.length]⟩]) 23 mixed 
           (TR.l (r := optr 7 1 2) rfl rfl (LOp.fao und26 rfl siz22 rfl rfl rfl) <|
           (TR.d (r := oref 5 2 0 r30.length) (fs := []) rfl rfl (TOp.load1_o rfl rfl agg22 rfl rfl) <|
           (TR.l (r := i64 v36) rfl rfl (LOp.move rfl rfl) <|
           (TR.l (r := optr 7 1 2) rfl rfl (LOp.fao und26 rfl siz22 rfl rfl rfl) <|
           (TR.d (r := oref 5 2 0 r30.length) (fs := []) rfl rfl (TOp.load1_o rfl rfl agg22 rfl rfl) <|
           (TR.l (r := i64 v36) rfl rfl (LOp.move rfl rfl) <|
           (TR.d (r := optr 5 2 v36.toNat) (fs := []) rfl rfl (TOp.ixo und22 siz33 rfl rfl rfl (at_in he26 hl35) rfl) <|
           (TR.d (r := f32 e39) (fs := []) rfl rfl (TOp.load1_o rfl (at_cell he26) agg33 rfl rfl) <|
           (TR.l (r := i64 v36) rfl rfl (LOp.move rfl rfl) <|
           (TR.l (r := ptr [i64 a1, sl a2.length (a2.map f32)]) rfl rfl (LOp.fap und26 rfl siz2 rfl rfl rfl) <|
           (TR.l (r := i64 a1) rfl rfl (LOp.load1 agg2 rfl rfl) <|
           (TR.l (r := i64 x40) rfl rfl (LOp.eqr (LOp.quo rfl rfl rfl (nz hz27)) (congrArg (ik .i64) hx28)) <|
           (TR.l (r := i64 v33) rfl rfl (LOp.move rfl rfl) <|
           (TR.d (r := f32 r41) (fs := []) rfl rfl (TOp.callB (CallAs.func ent21 rfl rfl) (Bors.cons (Bor.optr rfl (Bors.p (Bors.cons (Bor.pure rfl) (Bors.cons (Bor.pure rfl) (Bors.cons (Bor.own (f := f32) (fun _ => rfl) rfl rfl) Bors.nil)))) rfl) (Bors.cons (Bor.pure rfl) (Bors.cons (Bor.pure rfl) Bors.nil))) rfl rfl (s_l02At_ok r3 r4 r8 x40 v33 r41 hf29)) <|
           (TR.l (r := i64 v36) rfl rfl (LOp.move rfl rfl) <|
           (TR.l (r := ptr [i64 a1, sl a2.length (a2.map f32)]) rfl rfl (LOp.fap und26 rfl siz2 rfl rfl rfl) <|
           (TR.l (r := i64 a1) rfl rfl (LOp.load1 agg2 rfl rfl) <|
           (TR.l (r := i64 x42) rfl rfl (LOp.eqr (LOp.rem rfl rfl rfl (nz hz30)) (congrArg (ik .i64) hx31)) <|
           (TR.l (r := i64 v33) rfl rfl (LOp.move rfl rfl) <|
           (TR.d (r := f32 r43) (fs := []) rfl rfl (TOp.callB (CallAs.func ent21 rfl rfl) (Bors.cons (Bor.optr rfl (Bors.p (Bors.cons (Bor.pure rfl) (Bors.cons (Bor.pure rfl) (Bors.cons (Bor.own (f := f32) (fun _ => rfl) rfl rfl) Bors.nil)))) rfl) (Bors.cons (Bor.pure rfl) (Bors.cons (Bor.pure rfl) Bors.nil))) rfl rfl (s_l02At_ok r5 r6 r9 x42 v33 r43 hf32)) <|
           (TR.d (r := f32 x44) (fs := []) rfl rfl (TOp.eqr (TOp.fop (.inr (.inr (.inl rfl))) rfl (OpF.tmp rfl) (OpF.tmp rfl)) (congrArg (f .f32) hx33)) <|
           (TR.d (r := f32 x45) (fs := []) rfl rfl (TOp.eqr (TOp.fop (.inl rfl) rfl (OpF.tmp rfl) (OpF.tmp rfl)) (congrArg (f .f32) hx34)) <|
           (TR.d (r := optr 5 2 v36.toNat) (fs := []) rfl rfl (TOp.ixo und22 siz33 rfl rfl rfl (set_in he35 hl35) rfl) <|
           TR.nil))))))))))))))))))))))) rfl (by kernel_rfl) rfl fills_nil rfl ?_
          iterate 23 refine ROps.dropS ?_
          refine ROps.drop0 ?_
          refine ROps.st (f := f32) (i := v36) (Γ' := [⟨1, some [i64 0, i64 0, nilsl]⟩, ⟨1, some (r8.map f32)⟩, ⟨1, some (r9.map f32)⟩, ⟨1, some [i64 r3, i64 r4, oref 1 1 0 r8.length]⟩, ⟨1, some [i64 r5, i64 r6, oref 2 1 0 r9.length]⟩, ⟨2, some (L46.map f32)⟩, ⟨1, some (L26.map b)⟩, ⟨1, some [i64 r28, i64 r29, oref 5 2 0 r30.length]⟩]) rfl siz33 rfl rfl rfl aR rfl rfl rfl he35 rfl ?_
          refine zN ?_
          refine RunC.wl (τ' := [(3, ptr [i64 a0, i64 a1, sl a2.length (a2.map f32)]), (6, optr 0 1 0), (8, optr 3 1 0), (9, optr 4 1 0), (12, oref 6 1 0 a1.toNat), (16, optr 7 1 0), (17, i64 v33), (18, i64 v36), (97, oref 6 1 0 a1.toNat), (98, i64 v33), (99, optr 6 1 v33.toNat), (100, b true)]) (Γ' := [⟨1, some [i64 0, i64 0, nilsl]⟩, ⟨1, some (r8.map f32)⟩, ⟨1, some (r9.map f32)⟩, ⟨1, some [i64 r3, i64 r4, oref 1 1 0 r8.length]⟩, ⟨1, some [i64 r5, i64 r6, oref 2 1 0 r9.length]⟩, ⟨2, some (L46.map f32)⟩, ⟨1, some (L26.map b)⟩, ⟨1, some [i64 r28, i64 r29, oref 5 2 0 r30.length]⟩]) ⟨aR, aR, aR, aR, aR, aR, aR, aR, aR, aR, aR, aR, trivial⟩ ⟨⟨rfl, .inr rfl⟩, ⟨rfl, .inr rfl⟩, ⟨rfl, .inr rfl⟩, ⟨rfl, .inr rfl⟩, ⟨rfl, .inr rfl⟩, ⟨rfl, .inr rfl⟩, ⟨rfl, .inr rfl⟩, ⟨rfl, .inr rfl⟩, trivial⟩ ?_
          obtain ⟨x47, hx36, h17_⟩ := olet_some h17_
          refine RunC.regionW ?_
          refine zM (r := i64 v36) rfl rfl rfl rfl rfl ?_
          refine zL (r := i64 x47) rfl rfl rfl (LOp.eqr (LOp.add rfl rfl rfl) (congrArg (ik .i64) hx36)) ?_
          refine zA (r := i64 x47) rfl rfl rfl rfl rfl ?_
          refine zN ?_
          cases Option.some.inj h17_
          exact ⟨_, rfl, ((setAt?_len he35).trans hl35), ⟨aR, aR, aR, aR, aR, aR, aR, aR, trivial⟩, ⟨⟨rfl, .inr rfl⟩, ⟨rfl, .inr rfl⟩, ⟨rfl, .inr rfl⟩, ⟨rfl, .inr rfl⟩, ⟨rfl, .inr rfl⟩, ⟨rfl, .inr rfl⟩, ⟨rfl, .inr rfl⟩, ⟨rfl, .inr rfl⟩, trivial⟩⟩
         ·refine RunC.regionW ?_
          refine zM (r := i64 v36) rfl rfl rfl rfl rfl ?_
          refine zL (r := ptr [i64 a0, i64 a1, sl a2.length (a2.map f32)]) rfl rfl rfl (LOp.fap und26 rfl siz2 rfl rfl rfl) ?_
          refine zL (r := i64 a0) rfl rfl rfl (LOp.load1 agg2 rfl rfl) ?_
          refine zL (r := ptr [i64 a1, sl a2.length (a2.map f32)]) rfl rfl rfl (LOp.fap und26 rfl siz2 rfl rfl rfl) ?_
          refine zL (r := i64 a1) rfl rfl rfl (LOp.load1 agg2 rfl rfl) ?_
          refine zL (r := i64 x37) rfl rfl rfl (LOp.eqr (LOp.mul rfl rfl rfl) (congrArg (ik .i64) hx22)) ?_
          refine zL (r := b true) rfl rfl rfl (LOp.eqb (LOp.lss rfl rfl rfl) hc23) ?_
          refine zM (r := b true) rfl rfl rfl rfl rfl ?_
          refine zM (r := oref 6 1 0 a1.toNat) rfl rfl rfl rfl rfl ?_
          refine zM (r := i64 v33) rfl rfl rfl rfl rfl ?_
          refine ROps.d (r := optr 6 1 v33.toNat) (fs := []) (Γ' := [⟨1, some [i64 0, i64 0, nilsl]⟩, ⟨1, some (r8.map f32)⟩, ⟨1, some (r9.map f32)⟩, ⟨1, some [i64 r3, i64 r4, oref 1 1 0 r8.length]⟩, ⟨1, some [i64 r5, i64 r6, oref 2 1 0 r9.length]⟩, ⟨2, some (L34.map f32)⟩, ⟨1, some (L26.map b)⟩, ⟨1, some [i64 r28, i64 r29, oref 5 2 0 r30.length]⟩]) rfl rfl rfl (TOp.ixo und46 siz4 rfl rfl rfl (at_in he24 hl27) rfl) rfl ?_
          refine ROps.d (r := b false) (fs := []) (Γ' := [⟨1, some [i64 0, i64 0, nilsl]⟩, ⟨1, some (r8.map f32)⟩, ⟨1, some (r9.map f32)⟩, ⟨1, some [i64 r3, i64 r4, oref 1 1 0 r8.length]⟩, ⟨1, some [i64 r5, i64 r6, oref 2 1 0 r9.length]⟩, ⟨2, some (L34.map f32)⟩, ⟨1, some (L26.map b)⟩, ⟨1, some [i64 r28, i64 r29, oref 5 2 0 r30.length]⟩]) rfl rfl rfl (TOp.eqb (TOp.load1_o rfl (at_cell he24) agg4 rfl rfl) hc25) rfl ?_
          refine zL (r := b false) rfl rfl rfl (LOp.pick_true rfl rfl rfl) ?_
          refine zN ?_
          refine RunC.cond_false rfl rfl ?_
          refine RunC.exit ?_
          cases Option.some.inj h17_
          have hx := ho17 _ rfl
          exact ⟨L34, hl35, hl27, ⟨aR, aR, aR, aR, aR, aR, aR, trivial⟩, ⟨⟨rfl, .inr rfl⟩, ⟨rfl, .inr rfl⟩, ⟨rfl, .inr rfl⟩, ⟨rfl, .inr rfl⟩, ⟨rfl, .inr rfl⟩, ⟨rfl, .inr rfl⟩, ⟨rfl, .inr rfl⟩, ⟨rfl, .inr rfl⟩, trivial⟩, hx⟩
        ·refine RunC.regionW ?_
         refine zM (r := i64 v36) rfl rfl rfl rfl rfl ?_
         refine zL (r := ptr [i64 a0, i64 a1, sl a2.length (a2.map f32)]) rfl rfl rfl (LOp.fap und26 rfl siz2 rfl rfl rfl) ?_
         refine zL (r := i64 a0) rfl rfl rfl (LOp.load1 agg2 rfl rfl) ?_
         refine zL (r := ptr [i64 a1, sl a2.length (a2.map f32)]) rfl rfl rfl (LOp.fap und26 rfl siz2 rfl rfl rfl) ?_
         refine zL (r := i64 a1) rfl rfl rfl (LOp.load1 agg2 rfl rfl) ?_
         refine zL (r := i64 x37) rfl rfl rfl (LOp.eqr (LOp.mul rfl rfl rfl) (congrArg (ik .i64) hx22)) ?_
         refine zL (r := b false) rfl rfl rfl (LOp.eqb (LOp.lss rfl rfl rfl) hc23) ?_
         refine zM (r := b false) rfl rfl rfl rfl rfl ?_
         refine ROps.s rfl rfl rfl ?_
         refine ROps.s rfl rfl rfl ?_
         refine ROps.s rfl rfl rfl ?_
         refine ROps.s rfl rfl rfl ?_
         refine zL (r := b false) rfl rfl rfl (LOp.pick_false rfl rfl rfl) ?_
         refine zN ?_
         refine RunC.cond_false rfl rfl ?_
         refine RunC.exit ?_
         cases Option.some.inj h17_
         have hx := ho17 _ rfl
         exact ⟨L34, hl35, hl27, ⟨aR, aR, aR, aR, aR, aR, aR, trivial⟩, ⟨⟨rfl, .inr rfl⟩, ⟨rfl, .inr rfl⟩, ⟨rfl, .inr rfl⟩, ⟨rfl, .inr rfl⟩, ⟨rfl, .inr rfl⟩, ⟨rfl, .inr rfl⟩, ⟨rfl, .inr rfl⟩, ⟨rfl, .inr rfl⟩, trivial⟩, hx⟩
       ·rintro τ18 Γ18 ⟨L48, hl49, hl50, hw18, hd18, rfl⟩
        refine RunC.wl hw18 hd18 ?_
        replace h16_ : s_LowMatrix_k9 v33 L48 = some y16_ := h16_
        unfold s_LowMatrix_k9 at h16_
        obtain ⟨x51, hx37, h16_⟩ := olet_some h16_
        refine RunC.regionW ?_
        refine zM (r := i64 v33) rfl rfl rfl rfl rfl ?_
        refine zL (r := i64 x51) rfl rfl rfl (LOp.eqr (LOp.add rfl rfl rfl) (congrArg (ik .i64) hx37)) ?_
        refine zA (r := i64 x51) rfl rfl rfl rfl rfl ?_
        refine zN ?_
        cases Option.some.inj h16_
        exact ⟨_, rfl, hl49, ⟨aR, aR, aR, aR, aR, aR, aR, trivial⟩, ⟨⟨rfl, .inr rfl⟩, ⟨rfl, .inr rfl⟩, ⟨rfl, .inr rfl⟩, ⟨rfl, .inr rfl⟩, ⟨rfl, .inr rfl⟩, ⟨rfl, .inr rfl⟩, ⟨rfl, .inr rfl⟩, ⟨rfl, .inr rfl⟩, trivial⟩⟩
      ·refine RunC.regionW ?_
       refine zM (r := i64 v33) rfl rfl rfl rfl rfl ?_
       refine zL (r := ptr [i64 a1, sl a2.length (a2.map f32)]) rfl rfl rfl (LOp.fap und26 rfl siz2 rfl rfl rfl) ?_
       refine zL (r := i64 a1) rfl rfl rfl (LOp.load1 agg2 rfl rfl) ?_
       refine zL (r := b false) rfl rfl rfl (LOp.eqb (LOp.lss rfl rfl rfl) hc21) ?_
       refine zN ?_
       refine RunC.cond_false rfl rfl ?_
       refine RunC.exit ?_
       cases Option.some.inj h16_
       have hx := ho16 _ rfl
       exact ⟨L31, hl32, ⟨aR, aR, trivial⟩, ⟨⟨rfl, .inr rfl⟩, ⟨rfl, .inl rfl⟩, ⟨rfl, .inl rfl⟩, ⟨rfl, .inl rfl⟩, ⟨rfl, .inl rfl⟩, ⟨rfl, .inr rfl⟩, ⟨rfl, .inl rfl⟩, ⟨rfl, .inr rfl⟩, trivial⟩, hx⟩
     ·rintro τ19 Γ19 ⟨L52, hl53, hw19, hd19, rfl⟩
      refine RunC.wl hw19 hd19 ?_
      replace h : s_LowMatrix_k10 r28 r29 r30 L52 = some (q0, q1, q2, q3) := h
      unfold s_LowMatrix_k10 at h
      refine RunC.seq ?_
      obtain ⟨z20, hf38, h⟩ := obind_some h
      rcases z20 with z20 | z20
      ·replace h := (osum_inl _ _ _).symm.trans h
       obtain ⟨r54, r55, r56, r57, hz21, h⟩ := obind4_some h
       cases hz21
       obtain ⟨hn39, h⟩ := need_some h
       refine RunC.regionW ?_
       refine ROps.d (r := agg [i64 r28, i64 r29, oref 5 2 0 r30.length]) (fs := []) (Γ' := [⟨1, some [i64 0, i64 0, nilsl]⟩, ⟨1, none⟩, ⟨1, none⟩, ⟨1, none⟩, ⟨1, none⟩, ⟨2, some (L52.map f32)⟩, ⟨1, none⟩, ⟨1, some [i64 r28, i64 r29, oref 5 2 0 r30.length]⟩]) rfl rfl rfl (TOp.loadAgg_o rfl agg26 siz26 rfl rfl rfl rfl) rfl ?_
       refine ROps.callO (A := [agg [i64 r28, i64 r29, oref 5 2 0 r30.length]]) (args := [agg [i64 r28, i64 r29, oref 0 0 0 L52.length]]) (Γc := [⟨0, some (L52.map f32)⟩]) (Γc' := [⟨0, some (r57.map f32)⟩]) (r' := tup [agg [i64 r54, i64 r55, oref 5 2 0 r30.length], b r56]) (Γ' := [⟨1, some [i64 0, i64 0, nilsl]⟩, ⟨1, none⟩, ⟨1, none⟩, ⟨1, none⟩, ⟨1, none⟩, ⟨2, some (r57.map f32)⟩, ⟨1, none⟩, ⟨1, some [i64 r28, i64 r29, oref 5 2 0 r30.length]⟩]) [(5, 2)] [] rfl (CallAs.func ent22 rfl rfl) rfl rfl (SelOk.of (show List.Nodup [5] from by decide) (SelL.arr0 (f := f32) (fun _ => rfl) rfl trivial)) (live_of ⟨⟨_, _, rfl⟩, trivial⟩) (by simp [ren, rens, sigma, rens_f32, rens_f64, rens_i64, rens_ik, rens_str, rens_cp, hl53]) rfl (s_l02Give_02o_ok0 r28 r29 L52 r54 r55 r56 r57 hf38) rfl (news_of trivial) (show List.Nodup [5] from by decide) (by simp [ren, rens, sigma, of_decide_eq_true hn39]) (by simp [backOb, sigma, ren, rens, rens_f32, rens_f64, rens_i64, rens_ik, rens_str, rens_cp]) ?_
       refine zL (r := agg [i64 r54, i64 r55, oref 5 2 0 r30.length]) rfl rfl rfl (LOp.extract rfl rfl rfl) ?_
       refine zL (r := b r56) rfl rfl rfl (LOp.extract rfl rfl rfl) ?_
       refine ROps.store_le (r := agg [i64 r54, i64 r55, oref 5 2 0 r30.length]) (l' := [i64 r54, i64 r55, oref 5 2 0 r30.length]) (Γ' := [⟨1, some [i64 r54, i64 r55, oref 5 2 0 r30.length]⟩, ⟨1, none⟩, ⟨1, none⟩, ⟨1, none⟩, ⟨1, none⟩, ⟨2, some (r57.map f32)⟩, ⟨1, none⟩, ⟨1, some [i64 r28, i64 r29, oref 5 2 0 r30.length]⟩]) rfl siz26 rfl rfl rfl aR rfl rfl rfl rfl (Nat.le_of_ble_eq_true rfl) rfl rfl ?_
       refine zA (r := b r56) rfl rfl rfl rfl rfl ?_
       refine zN ?_
       refine RunC.ret ?_
       have hq := Option.some.inj h
       obtain ⟨hq0, hq⟩ := Prod.mk.inj hq
       obtain ⟨hq1, hq⟩ := Prod.mk.inj hq
       obtain ⟨hq2, hq⟩ := Prod.mk.inj hq
       subst q0
       subst q1
       subst q2
       subst q3
       exact bodyQ.mk (r' := tup [agg [i64 r54, i64 r55, oref 5 2 0 r57.length], b r56]) [(5, 2)] (.inr rfl) rfl (show List.Nodup [5] from by decide) rfl rfl (Res.eq (Res.two rfl (RV.cell agg26 siz26 rfl rfl rfl rfl) (RV.tmp rfl)) (by rw [(show r57.length = r30.length from (of_decide_eq_true hn39))] <;> rfl)) (SelL.arr0 (f := f32) (fun _ => rfl) rfl trivial)
      ·replace h := (osum_inr _ _ _).symm.trans h
       obtain ⟨r58, r59, r60, r61, r62, hz22, h⟩ := obind5_some h
       cases hz22
       obtain ⟨hn40, h⟩ := need_some h
       refine RunC.regionW ?_
       refine ROps.d (r := agg [i64 r28, i64 r29, oref 5 2 0 r30.length]) (fs := []) (Γ' := [⟨1, some [i64 0, i64 0, nilsl]⟩, ⟨1, none⟩, ⟨1, none⟩, ⟨1, none⟩, ⟨1, none⟩, ⟨2, some (L52.map f32)⟩, ⟨1, none⟩, ⟨1, some [i64 r28, i64 r29, oref 5 2 0 r30.length]⟩]) rfl rfl rfl (TOp.loadAgg_o rfl agg26 siz26 rfl rfl rfl rfl) rfl ?_
       refine ROps.callO (A := [agg [i64 r28, i64 r29, oref 5 2 0 r30.length]]) (args := [agg [i64 r28, i64 r29, oref 0 0 0 L52.length]]) (Γc := [⟨0, some (L52.map f32)⟩]) (Γc' := [⟨0, some (r61.map f32)⟩, ⟨0, some (r62.map f32)⟩]) (r' := tup [agg [i64 r58, i64 r59, oref 1 2 0 r62.length], b r60]) (Γ' := [⟨1, some [i64 0, i64 0, nilsl]⟩, ⟨2, some (r62.map f32)⟩, ⟨1, none⟩, ⟨1, none⟩, ⟨1, none⟩, ⟨2, some (r61.map f32)⟩, ⟨1, none⟩, ⟨1, some [i64 r28, i64 r29, oref 5 2 0 r30.length]⟩]) [(5, 2)] [(1, 2)] rfl (CallAs.func ent22 rfl rfl) rfl rfl (SelOk.of (show List.Nodup [5] from by decide) (SelL.arr0 (f := f32) (fun _ => rfl) rfl trivial)) (live_of ⟨⟨_, _, rfl⟩, trivial⟩) (by simp [ren, rens, sigma, rens_f32, rens_f64, rens_i64, rens_ik, rens_str, rens_cp, hl53]) rfl (s_l02Give_02o_ok1 r28 r29 L52 r58 r59 r60 r61 r62 hf38) rfl (news_of ⟨⟨_, rfl, rfl⟩, trivial⟩) (show List.Nodup [5, 1] from by decide) (by simp [ren, rens, sigma, of_decide_eq_true hn40]) (by simp [backOb, sigma, ren, rens, rens_f32, rens_f64, rens_i64, rens_ik, rens_str, rens_cp]) ?_
       refine zL (r := agg [i64 r58, i64 r59, oref 1 2 0 r62.length]) rfl rfl rfl (LOp.extract rfl rfl rfl) ?_
       refine zL (r := b r60) rfl rfl rfl (LOp.extract rfl rfl rfl) ?_
       refine ROps.store_le (r := agg [i64 r58, i64 r59, oref 1 2 0 r62.length]) (l' := [i64 r58, i64 r59, oref 1 2 0 r62.length]) (Γ' := [⟨1, some [i64 r58, i64 r59, oref 1 2 0 r62.length]⟩, ⟨2, some (r62.map f32)⟩, ⟨1, none⟩, ⟨1, none⟩, ⟨1, none⟩, ⟨2, some (r61.map f32)⟩, ⟨1, none⟩, ⟨1, some [i64 r28, i64 r29, oref 5 2 0 r30.length]⟩]) rfl siz26 rfl rfl rfl aR rfl rfl rfl rfl (Nat.le_of_ble_eq_true rfl) rfl rfl ?_
       refine zA (r := b r60) rfl rfl rfl rfl rfl ?_
       refine zN ?_
       refine RunC.ret ?_
       have hq := Option.some.inj h
       obtain ⟨hq0, hq⟩ := Prod.mk.inj hq
       obtain ⟨hq1, hq⟩ := Prod.mk.inj hq
       obtain ⟨hq2, hq⟩ := Prod.mk.inj hq
       subst q0
       subst q1
       subst q2
       subst q3
       exact bodyQ.mk (r' := tup [agg [i64 r58, i64 r59, oref 1 2 0 r62.length], b r60]) [(1, 2)] (.inr rfl) rfl (show List.Nodup [1] from by decide) rfl rfl (Res.two rfl (RV.cell agg26 siz26 rfl rfl rfl rfl) (RV.tmp rfl)) (SelL.arr0 (f := f32) (fun _ => rfl) rfl trivial)
   ·refine RunC.regionW ?_
    refine zM (r := i64 a4) rfl rfl rfl rfl rfl ?_
    refine ROps.d (r := tup [agg [i64 r3, i64 r4, oref 1 1 0 r8.length], agg [i64 r5, i64 r6, oref 2 1 0 r9.length], b r7]) (fs := [(1, (r8.map f32)), (2, (r9.map f32))]) (Γ' := [⟨1, some [i64 0, i64 0, nilsl]⟩, ⟨1, some (r8.map f32)⟩, ⟨1, some (r9.map f32)⟩, ⟨0, none⟩, ⟨0, none⟩, ⟨0, none⟩, ⟨0, none⟩, ⟨0, none⟩]) rfl rfl rfl (TOp.callBN (ls := [(r8.map f32), (r9.map f32)]) [1, 2] (CallAs.func ent18 rfl rfl) (Bors.cons (Bor.ptr (Bors.cons (Bor.pure rfl) (Bors.cons (Bor.pure rfl) (Bors.cons (Bor.sl (fun _ => rfl)) Bors.nil)))) (Bors.cons (Bor.pure rfl) Bors.nil)) rfl (s_l04Side_ok a0 a1 a2 a4 r3 r4 r5 r6 r7 r8 r9 hf5) (and_all (lts0_map (f := f32) (fun _ => rfl) _) (and_all (lts0_map (f := f32) (fun _ => rfl) _) rfl)) (and_all (noss_map (f := f32) (fun _ => rfl) _) (and_all (noss_map (f := f32) (fun _ => rfl) _) rfl)) rfl (by decide) (ns_of ⟨⟨_, rfl⟩, ⟨_, rfl⟩, trivial⟩)) rfl ?_
    refine zM (r := tup [agg [i64 r3, i64 r4, oref 1 1 0 r8.length], agg [i64 r5, i64 r6, oref 2 1 0 r9.length], b r7]) rfl rfl rfl rfl rfl ?_
    refine zL (r := agg [i64 r3, i64 r4, oref 1 1 0 r8.length]) rfl rfl rfl (LOp.extract rfl rfl rfl) ?_
    refine zL (r := agg [i64 r5, i64 r6, oref 2 1 0 r9.length]) rfl rfl rfl (LOp.extract rfl rfl rfl) ?_
    refine zL (r := b false) rfl rfl rfl (LOp.eqb (LOp.extract rfl rfl rfl) hc6) ?_
    refine ROps.d (r := optr 3 1 0) (fs := [(3, [i64 0, i64 0, nilsl])]) (Γ' := [⟨1, some [i64 0, i64 0, nilsl]⟩, ⟨1, some (r8.map f32)⟩, ⟨1, some (r9.map f32)⟩, ⟨1, some [i64 0, i64 0, nilsl]⟩, ⟨0, none⟩, ⟨0, none⟩, ⟨0, none⟩, ⟨0, none⟩]) rfl rfl rfl (TOp.alloc_o (g := ⟨0, none⟩) 3 rfl zer26 zok26 rfl) rfl ?_
    refine ROps.d (r := optr 4 1 0) (fs := [(4, [i64 0, i64 0, nilsl])]) (Γ' := [⟨1, some [i64 0, i64 0, nilsl]⟩, ⟨1, some (r8.map f32)⟩, ⟨1, some (r9.map f32)⟩, ⟨1, some [i64 0, i64 0, nilsl]⟩, ⟨1, some [i64 0, i64 0, nilsl]⟩, ⟨0, none⟩, ⟨0, none⟩, ⟨0, none⟩]) rfl rfl rfl (TOp.alloc_o (g := ⟨0, none⟩) 4 rfl zer26 zok26 rfl) rfl ?_
    refine ROps.store_le (r := agg [i64 r3, i64 r4, oref 1 1 0 r8.length]) (l' := [i64 r3, i64 r4, oref 1 1 0 r8.length]) (Γ' := [⟨1, some [i64 0, i64 0, nilsl]⟩, ⟨1, some (r8.map f32)⟩, ⟨1, some (r9.map f32)⟩, ⟨1, some [i64 r3, i64 r4, oref 1 1 0 r8.length]⟩, ⟨1, some [i64 0, i64 0, nilsl]⟩, ⟨0, none⟩, ⟨0, none⟩, ⟨0, none⟩]) rfl siz26 rfl rfl rfl aR rfl rfl rfl rfl (Nat.le_of_ble_eq_true rfl) rfl rfl ?_
    refine ROps.store_le (r := agg [i64 r5, i64 r6, oref 2 1 0 r9.length]) (l' := [i64 r5, i64 r6, oref 2 1 0 r9.length]) (Γ' := [⟨1, some [i64 0, i64 0, nilsl]⟩, ⟨1, some (r8.map f32)⟩, ⟨1, some (r9.map f32)⟩, ⟨1, some [i64 r3, i64 r4, oref 1 1 0 r8.length]⟩, ⟨1, some [i64 r5, i64 r6, oref 2 1 0 r9.length]⟩, ⟨0, none⟩, ⟨0, none⟩, ⟨0, none⟩]) rfl siz26 rfl rfl rfl aR rfl rfl rfl rfl (Nat.le_of_ble_eq_true rfl) rfl rfl ?_
    refine zA (r := b false) rfl rfl rfl rfl rfl ?_
    refine zN ?_
    refine RunC.seq ?_
    refine zQ ?_
    refine zM (r := b false) rfl rfl rfl rfl rfl ?_
    refine zL (r := b true) rfl rfl rfl (LOp.eqb (LOp.not rfl rfl) rfl) ?_
    refine zN ?_
    refine RunC.cond_true rfl rfl ?_
    refine zQ ?_
    refine zL (r := agg [i64 0, i64 0, nilsl]) rfl rfl rfl (LOp.build (qs := []) zer26 zok26 und26 plc26 rfl trivial rfl) ?_
    refine ROps.store_le (r := agg [i64 0, i64 0, nilsl]) (l' := [i64 0, i64 0, nilsl]) (Γ' := [⟨1, some [i64 0, i64 0, nilsl]⟩, ⟨1, some (r8.map f32)⟩, ⟨1, some (r9.map f32)⟩, ⟨1, some [i64 r3, i64 r4, oref 1 1 0 r8.length]⟩, ⟨1, some [i64 r5, i64 r6, oref 2 1 0 r9.length]⟩, ⟨0, none⟩, ⟨0, none⟩, ⟨0, none⟩]) rfl siz26 rfl rfl rfl aR rfl rfl rfl rfl (Nat.le_of_ble_eq_true rfl) rfl rfl ?_
    refine zA (r := b false) rfl rfl rfl rfl rfl ?_
    refine zN ?_
    refine RunC.nil_cell (l' := [i64 0, i64 0, oref 5 1 0 0]) (Γ' := [⟨1, some [i64 0, i64 0, oref 5 1 0 0]⟩, ⟨1, some (r8.map f32)⟩, ⟨1, some (r9.map f32)⟩, ⟨1, some [i64 r3, i64 r4, oref 1 1 0 r8.length]⟩, ⟨1, some [i64 r5, i64 r6, oref 2 1 0 r9.length]⟩, ⟨1, some (([] : List F).map f32)⟩, ⟨0, none⟩, ⟨0, none⟩]) 0 2 5 rfl rfl rfl rfl rfl ?_
    refine RunC.ret ?_
    have hq := Option.some.inj h
    obtain ⟨hq0, hq⟩ := Prod.mk.inj hq
    obtain ⟨hq1, hq⟩ := Prod.mk.inj hq
    obtain ⟨hq2, hq⟩ := Prod.mk.inj hq
    subst q0
    subst q1
    subst q2
    subst q3
    exact bodyQ.mk (r' := tup [agg [i64 0, i64 0, oref 5 1 0 (([] : List F).length)], b false]) [(5, 1)] (.inr rfl) rfl (show List.Nodup [5] from by decide) rfl rfl (Res.eq (Res.two rfl (RV.cell agg26 siz26 rfl rfl rfl rfl) (RV.tmp rfl)) (by rw [(show ([] : List F).length = 0 from rfl)] <;> rfl)) (SelL.arr0 (f := f32) (fun _ => rfl) rfl trivial)
  ·refine RunC.regionW ?_
   refine zM (r := i64 a4) rfl rfl rfl rfl rfl ?_
   refine ROps.d (r := b true) (fs := []) (Γ' := [⟨1, some [i64 0, i64 0, nilsl]⟩, ⟨0, none⟩, ⟨0, none⟩, ⟨0, none⟩, ⟨0, none⟩, ⟨0, none⟩, ⟨0, none⟩, ⟨0, none⟩]) rfl rfl rfl (TOp.eqb (TOp.callB (CallAs.func ent16 rfl rfl) (Bors.cons (Bor.ptr (Bors.cons (Bor.pure rfl) (Bors.cons (Bor.pure rfl) (Bors.cons (Bor.sl (fun _ => rfl)) Bors.nil)))) (Bors.cons (Bor.pure rfl) Bors.nil)) rfl rfl (s_l04Tall_ok a0 a1 a2 a4 r1 hf1)) hc2) rfl ?_
   refine zL (r := b false) rfl rfl rfl (LOp.eqb (LOp.not rfl rfl) rfl) ?_
   refine zM (r := b false) rfl rfl rfl rfl rfl ?_
   refine zM (r := i64 a3) rfl rfl rfl rfl rfl ?_
   refine zL (r := ptr [i64 a1, sl a2.length (a2.map f32)]) rfl rfl rfl (LOp.fap und26 rfl siz2 rfl rfl rfl) ?_
   refine zL (r := i64 a1) rfl rfl rfl (LOp.load1 agg2 rfl rfl) ?_
   refine ROps.d (r := b false) (fs := []) (Γ' := [⟨1, some [i64 0, i64 0, nilsl]⟩, ⟨0, none⟩, ⟨0, none⟩, ⟨0, none⟩, ⟨0, none⟩, ⟨0, none⟩, ⟨0, none⟩, ⟨0, none⟩]) rfl rfl rfl (TOp.eqb (TOp.callB (CallAs.func ent17 rfl rfl) (Bors.cons (Bor.pure rfl) (Bors.cons (Bor.pure rfl) (Bors.cons (Bor.pure rfl) Bors.nil))) rfl rfl (s_l00In_ok a3 0 a1 r2 hf3)) hc4) rfl ?_
   refine zL (r := b true) rfl rfl rfl (LOp.eqb (LOp.not rfl rfl) rfl) ?_
   refine zL (r := b true) rfl rfl rfl (LOp.pick_false rfl rfl rfl) ?_
   refine zN ?_
   refine RunC.cond_true rfl rfl ?_
   refine zQ ?_
   refine zL (r := agg [i64 0, i64 0, nilsl]) rfl rfl rfl (LOp.build (qs := []) zer26 zok26 und26 plc26 rfl trivial rfl) ?_
   refine ROps.store_le (r := agg [i64 0, i64 0, nilsl]) (l' := [i64 0, i64 0, nilsl]) (Γ' := [⟨1, some [i64 0, i64 0, nilsl]⟩, ⟨0, none⟩, ⟨0, none⟩, ⟨0, none⟩, ⟨0, none⟩, ⟨0, none⟩, ⟨0, none⟩, ⟨0, none⟩]) rfl siz26 rfl rfl rfl aR rfl rfl rfl rfl (Nat.le_of_ble_eq_true rfl) rfl rfl ?_
   refine zA (r := b false) rfl rfl rfl rfl rfl ?_
   refine zN ?_
   refine RunC.nil_cell (l' := [i64 0, i64 0, oref 1 1 0 0]) (Γ' := [⟨1, some [i64 0, i64 0, oref 1 1 0 0]⟩, ⟨1, some (([] : List F).map f32)⟩, ⟨0, none⟩, ⟨0, none⟩, ⟨0, none⟩, ⟨0, none⟩, ⟨0, none⟩, ⟨0, none⟩]) 0 2 1 rfl rfl rfl rfl rfl ?_
   refine RunC.ret ?_
   have hq := Option.some.inj h
   obtain ⟨hq0, hq⟩ := Prod.mk.inj hq
   obtain ⟨hq1, hq⟩ := Prod.mk.inj hq
   obtain ⟨hq2, hq⟩ := Prod.mk.inj hq
   subst q0
   subst q1
   subst q2
   subst q3
   exact bodyQ.mk (r' := tup [agg [i64 0, i64 0, oref 1 1 0 (([] : List F).length)], b false]) [(1, 1)] (.inr rfl) rfl (show List.Nodup [1] from by decide) rfl rfl (Res.eq (Res.two rfl (RV.cell agg26 siz26 rfl rfl rfl rfl) (RV.tmp rfl)) (by rw [(show ([] : List F).length = 0 from rfl)] <;> rfl)) (SelL.arr0 (f := f32) (fun _ => rfl) rfl trivial)
 ·refine RunC.regionW ?_
  refine zM (r := i64 a4) rfl rfl rfl rfl rfl ?_
  refine ROps.d (r := b false) (fs := []) (Γ' := [⟨1, some [i64 0, i64 0, nilsl]⟩, ⟨0, none⟩, ⟨0, none⟩, ⟨0, none⟩, ⟨0, none⟩, ⟨0, none⟩, ⟨0, none⟩, ⟨0, none⟩]) rfl rfl rfl (TOp.eqb (TOp.callB (CallAs.func ent16 rfl rfl) (Bors.cons (Bor.ptr (Bors.cons (Bor.pure rfl) (Bors.cons (Bor.pure rfl) (Bors.cons (Bor.sl (fun _ => rfl)) Bors.nil)))) (Bors.cons (Bor.pure rfl) Bors.nil)) rfl rfl (s_l04Tall_ok a0 a1 a2 a4 r1 hf1)) hc2) rfl ?_
  refine zL (r := b true) rfl rfl rfl (LOp.eqb (LOp.not rfl rfl) rfl) ?_
  refine zM (r := b true) rfl rfl rfl rfl rfl ?_
  refine ROps.s rfl rfl rfl ?_
  refine ROps.s rfl rfl rfl ?_
  refine ROps.s rfl rfl rfl ?_
  refine ROps.s rfl rfl rfl ?_
  refine ROps.s rfl rfl rfl ?_
  refine zL (r := b true) rfl rfl rfl (LOp.pick_true rfl rfl rfl) ?_
  refine zN ?_
  refine RunC.cond_true rfl rfl ?_
  refine zQ ?_
  refine zL (r := agg [i64 0, i64 0, nilsl]) rfl rfl rfl (LOp.build (qs := []) zer26 zok26 und26 plc26 rfl trivial rfl) ?_
  refine ROps.store_le (r := agg [i64 0, i64 0, nilsl]) (l' := [i64 0, i64 0, nilsl]) (Γ' := [⟨1, some [i64 0, i64 0, nilsl]⟩, ⟨0, none⟩, ⟨0, none⟩, ⟨0, none⟩, ⟨0, none⟩, ⟨0, none⟩, ⟨0, none⟩, ⟨0, none⟩]) rfl siz26 rfl rfl rfl aR rfl rfl rfl rfl (Nat.le_of_ble_eq_true rfl) rfl rfl ?_
  refine zA (r := b false) rfl rfl rfl rfl rfl ?_
  refine zN ?_
  refine RunC.nil_cell (l' := [i64 0, i64 0, oref 1 1 0 0]) (Γ' := [⟨1, some [i64 0, i64 0, oref 1 1 0 0]⟩, ⟨1, some (([] : List F).map f32)⟩, ⟨0, none⟩, ⟨0, none⟩, ⟨0, none⟩, ⟨0, none⟩, ⟨0, none⟩, ⟨0, none⟩]) 0 2 1 rfl rfl rfl rfl rfl ?_
  refine RunC.ret ?_
  have hq := Option.some.inj h
  obtain ⟨hq0, hq⟩ := Prod.mk.inj hq
  obtain ⟨hq1, hq⟩ := Prod.mk.inj hq
  obtain ⟨hq2, hq⟩ := Prod.mk.inj hq
  subst q0
  subst q1
  subst q2
  subst q3
  exact bodyQ.mk (r' := tup [agg [i64 0, i64 0, oref 1 1 0 (([] : List F).length)], b false]) [(1, 1)] (.inr rfl) rfl (show List.Nodup [1] from by decide) rfl rfl (Res.eq (Res.two rfl (RV.cell agg26 siz26 rfl rfl rfl rfl) (RV.tmp rfl)) (by rw [(show ([] : List F).length = 0 from rfl)] <;> rfl)) (SelL.arr0 (f := f32) (fun _ => rfl) rfl trivial)
noncomputable def i_inRange (a0 : Int) (a1 : Int) (a2 : Int) : Option (Bool) :=
 bsel (decide (a1 ≤ a0)) (
  some (decide (a0 ≤ a2))) (
  some false)
theorem i_inRange_ok (a0 : Int) (a1 : Int) (a2 : Int) (q0 : Bool) (h : i_inRange a0 a1 a2 = some q0) : Ev Tryz.prog 25 [i64 a0, i64 a1, i64 a2] [] (b q0) [] := by
 refine Ev.start Tryz.func25 rfl rfl 0 (τ := [(0, i64 a0), (1, i64 a1), (2, i64 a2)]) rfl (Γ' := []) rfl (n := 31) rfl (g := 0) rfl (fun _ => rfl) ?_
 unfold i_inRange at h
 refine zQ ?_
 refine zA (r := b false) rfl rfl rfl rfl rfl ?_
 refine zN ?_
 refine RunC.seq ?_
 rcases bsel_some h with ⟨hc1, h⟩ | ⟨hc1, h⟩
 ·refine RunC.regionW ?_
  refine zM (r := i64 a1) rfl rfl rfl rfl rfl ?_
  refine zM (r := i64 a0) rfl rfl rfl rfl rfl ?_
  refine zL (r := b true) rfl rfl rfl (LOp.eqb (LOp.leq rfl rfl rfl) hc1) ?_
  refine zM (r := b true) rfl rfl rfl rfl rfl ?_
  refine zM (r := i64 a0) rfl rfl rfl rfl rfl ?_
  refine zM (r := i64 a2) rfl rfl rfl rfl rfl ?_
  refine zL (r := b (decide (a0 ≤ a2))) rfl rfl rfl (LOp.leq rfl rfl rfl) ?_
  refine zL (r := b (decide (a0 ≤ a2))) rfl rfl rfl (LOp.pick_true rfl rfl rfl) ?_
  refine zA (r := b (decide (a0 ≤ a2))) rfl rfl rfl rfl rfl ?_
  refine zN ?_
  refine RunC.ret ?_
  have hq := Option.some.inj h
  subst q0
  exact bodyQ.pure (.inr rfl) rfl (Res.one rfl (RV.tmp rfl))
 ·refine RunC.regionW ?_
  refine zM (r := i64 a1) rfl rfl rfl rfl rfl ?_
  refine zM (r := i64 a0) rfl rfl rfl rfl rfl ?_
  refine zL (r := b false) rfl rfl rfl (LOp.eqb (LOp.leq rfl rfl rfl) hc1) ?_
  refine zM (r := b false) rfl rfl rfl rfl rfl ?_
  refine ROps.s rfl rfl rfl ?_
  refine ROps.s rfl rfl rfl ?_
  refine ROps.s rfl rfl rfl ?_
  refine zL (r := b false) rfl rfl rfl (LOp.pick_false rfl rfl rfl) ?_
  refine zA (r := b false) rfl rfl rfl rfl rfl ?_
  refine zN ?_
  refine RunC.ret ?_
  have hq := Option.some.inj h
  subst q0
  exact bodyQ.pure (.inr rfl) rfl (Res.one rfl (RV.tmp rfl))
noncomputable def i_isSide (a0 : Int) : Option (Bool) :=
 obind (i_inRange a0 1 12) fun (r1 : Bool) =>
 some r1
theorem i_isSide_ok (a0 : Int) (q0 : Bool) (h : i_isSide a0 = some q0) : Ev Tryz.prog 102 [i64 a0] [] (b q0) [] := by
 refine Ev.start Tryz.func102 rfl rfl 0 (τ := [(0, i64 a0)]) rfl (Γ' := []) rfl (n := 11) rfl (g := 0) rfl (fun _ => rfl) ?_
 unfold i_isSide at h
 refine zQ ?_
 refine zA (r := b false) rfl rfl rfl rfl rfl ?_
 refine zN ?_
 refine RunC.seq ?_
 obtain ⟨r1, hf1, h⟩ := obind_some h
 refine RunC.regionW ?_
 refine zM (r := i64 a0) rfl rfl rfl rfl rfl ?_
 refine ROps.d (r := b r1) (fs := []) (Γ' := []) rfl rfl rfl (TOp.callB (CallAs.func ent25 rfl rfl) (Bors.cons (Bor.pure rfl) (Bors.cons (Bor.pure rfl) (Bors.cons (Bor.pure rfl) Bors.nil))) rfl rfl (i_inRange_ok a0 1 12 r1 hf1)) rfl ?_
 refine zA (r := b r1) rfl rfl rfl rfl rfl ?_
 refine zN ?_
 refine RunC.ret ?_
 have hq := Option.some.inj h
 subst q0
 exact bodyQ.pure (.inr rfl) rfl (Res.one rfl (RV.tmp rfl))
noncomputable def i_length_float32 (a0 : List F) : Option (Int) :=
 some (a0.length : Int)
theorem i_length_float32_ok (a0 : List F) (q0 : Int) (h : i_length_float32 a0 = some q0) : Ev Tryz.prog 103 [sl a0.length (a0.map f32)] [] (i64 q0) [] := by
 refine Ev.start Tryz.func103 rfl rfl 0 (τ := [(0, sl a0.length (a0.map f32))]) rfl (Γ' := []) rfl (n := 11) rfl (g := 0) rfl (fun _ => rfl) ?_
 unfold i_length_float32 at h
 refine zQ ?_
 refine zA (r := i64 0) rfl rfl rfl rfl rfl ?_
 refine zN ?_
 refine zQ ?_
 refine zM (r := sl a0.length (a0.map f32)) rfl rfl rfl rfl rfl ?_
 refine zL (r := i64 (a0.length : Int)) rfl rfl rfl (LOp.len_sl und22 rfl rfl) ?_
 refine zA (r := i64 (a0.length : Int)) rfl rfl rfl rfl rfl ?_
 refine zN ?_
 refine RunC.ret ?_
 have hq := Option.some.inj h
 subst q0
 exact bodyQ.pure (.inr rfl) rfl (Res.one rfl (RV.tmp rfl))
noncomputable def x_math_IsNaN (a0 : F) : Option (Bool) :=
 some (!feq .f64 a0 a0)
theorem x_math_IsNaN_ok (a0 : F) (q0 : Bool) (h : x_math_IsNaN a0 = some q0) : Ev Tryz.prog 143 [f64 a0] [] (b q0) [] := by
 refine Ev.start Tryz.func143 rfl rfl 0 (τ := [(0, f64 a0)]) rfl (Γ' := []) rfl (n := 13) rfl (g := 0) rfl (fun _ => rfl) ?_
 unfold x_math_IsNaN at h
 refine zQ ?_
 refine zA (r := b false) rfl rfl rfl rfl rfl ?_
 refine zN ?_
 refine zQ ?_
 refine zM (r := f64 a0) rfl rfl rfl rfl rfl ?_
 refine zM (r := f64 a0) rfl rfl rfl rfl rfl ?_
 refine zL (r := b (!feq .f64 a0 a0)) rfl rfl rfl (LOp.fne rfl (OpF.tmp rfl) (OpF.tmp rfl)) ?_
 refine zA (r := b (!feq .f64 a0 a0)) rfl rfl rfl rfl rfl ?_
 refine zN ?_
 refine RunC.ret ?_
 have hq := Option.some.inj h
 subst q0
 exact bodyQ.pure (.inr rfl) rfl (Res.one rfl (RV.tmp rfl))
noncomputable def x_math_Abs (a0 : F) : Option (F) :=
 olet (fabs a0) fun (x1 : F) =>
 some x1
theorem x_math_Abs_ok (a0 : F) (q0 : F) (h : x_math_Abs a0 = some q0) : Ev Tryz.prog 120 [f64 a0] [] (f64 q0) [] := by
 refine Ev.start Tryz.func120 rfl rfl 0 (τ := [(0, f64 a0)]) rfl (Γ' := []) rfl (n := 15) rfl (g := 0) rfl (fun _ => rfl) ?_
 unfold x_math_Abs at h
 refine zQ ?_
 refine zL (r := f64 (some 0)) rfl rfl rfl (LOp.le (LOp.assign rfl rfl) (ALe.fl (by kernel_rfl) (by kernel_rfl))) ?_
 refine zN ?_
 refine RunC.seq ?_
 obtain ⟨x1, hx1, h⟩ := olet_some h
 refine RunC.regionW ?_
 refine zM (r := f64 a0) rfl rfl rfl rfl rfl ?_
 refine zL (r := bt .f64 .u64 a0) rfl rfl rfl (LOp.fbits ext140 rfl (OpF.tmp rfl)) ?_
 refine zL (r := bt .f64 .u64 x1) rfl rfl rfl (LOp.eqr (LOp.andNot_bt rfl rfl rfl) (congrArg (bt .f64 .u64) hx1)) ?_
 refine zL (r := f64 x1) rfl rfl rfl (LOp.ffrom ext139 rfl rfl) ?_
 refine zA (r := f64 x1) rfl rfl rfl rfl rfl ?_
 refine zN ?_
 refine RunC.ret ?_
 have hq := Option.some.inj h
 subst q0
 exact bodyQ.pure (.inr rfl) rfl (Res.one rfl (RV.tmp rfl))
noncomputable def x_math_IsInf_k1 (y3 : F) : Option (Bool) :=
 some (flt .f64 (some 9218868437227405311) y3)
noncomputable def x_math_IsInf (a0 : F) (a1 : Int) : Option (Bool) :=
 bsel (decide (a1 = 0)) (
  obind (x_math_Abs a0) fun (r1 : F) =>
  x_math_IsInf_k1 r1) (
  bsel (decide (a1 < 0)) (
   olet (fneg .f64 a0) fun (x2 : F) =>
   x_math_IsInf_k1 x2) (
   x_math_IsInf_k1 a0))
theorem x_math_IsInf_ok (a0 : F) (a1 : Int) (q0 : Bool) (h : x_math_IsInf a0 a1 = some q0) : Ev Tryz.prog 144 [f64 a0, i64 a1] [] (b q0) [] := by
 refine Ev.start Tryz.func144 rfl rfl 0 (τ := [(0, f64 a0), (1, i64 a1)]) rfl (Γ' := []) rfl (n := 31) rfl (g := 0) rfl (fun _ => rfl) ?_
 unfold x_math_IsInf at h
 refine zQ ?_
 refine zA (r := b false) rfl rfl rfl rfl rfl ?_
 refine zN ?_
 refine RunC.seq ?_
 refine RunC.cutN (fun τ Γ => ∃ (y3 : F), WeakLe τ [(0, f64 y3)] ∧ DeadLe Γ [] ∧ x_math_IsInf_k1 y3 = some q0) ?_ ?_
 ·refine RunC.seq ?_
  rcases bsel_some h with ⟨hc1, h⟩ | ⟨hc1, h⟩
  ·refine RunC.regionW ?_
   refine zM (r := i64 a1) rfl rfl rfl rfl rfl ?_
   refine zL (r := b true) rfl rfl rfl (LOp.eqb (LOp.eql rfl rfl rfl) hc1) ?_
   refine zN ?_
   refine RunC.cond_true rfl rfl ?_
   obtain ⟨r1, hf2, h⟩ := obind_some h
   refine RunC.regionW ?_
   refine zM (r := f64 a0) rfl rfl rfl rfl rfl ?_
   refine ROps.d (r := f64 r1) (fs := []) (Γ' := []) rfl rfl rfl (TOp.callB (CallAs.func ent120 rfl rfl) (Bors.cons (Bor.pure rfl) Bors.nil) rfl rfl (x_math_Abs_ok a0 r1 hf2)) rfl ?_
   refine zA (r := f64 r1) rfl rfl rfl rfl rfl ?_
   refine zN ?_
   exact ⟨r1, ⟨aR, trivial⟩, trivial, h⟩
  ·refine RunC.regionW ?_
   refine zM (r := i64 a1) rfl rfl rfl rfl rfl ?_
   refine zL (r := b false) rfl rfl rfl (LOp.eqb (LOp.eql rfl rfl rfl) hc1) ?_
   refine zN ?_
   refine RunC.cond_false rfl rfl ?_
   refine RunC.seq ?_
   rcases bsel_some h with ⟨hc3, h⟩ | ⟨hc3, h⟩
   ·refine RunC.regionW ?_
    refine zM (r := i64 a1) rfl rfl rfl rfl rfl ?_
    refine zL (r := b true) rfl rfl rfl (LOp.eqb (LOp.lss rfl rfl rfl) hc3) ?_
    refine zN ?_
    refine RunC.cond_true rfl rfl ?_
    obtain ⟨x2, hx4, h⟩ := olet_some h
    refine RunC.regionW ?_
    refine zM (r := f64 a0) rfl rfl rfl rfl rfl ?_
    refine zL (r := f64 x2) rfl rfl rfl (LOp.eqr (LOp.fneg rfl (OpF.tmp rfl)) (congrArg (f .f64) hx4)) ?_
    refine zA (r := f64 x2) rfl rfl rfl rfl rfl ?_
    refine zN ?_
    exact ⟨x2, ⟨aR, trivial⟩, trivial, h⟩
   ·refine RunC.regionW ?_
    refine zM (r := i64 a1) rfl rfl rfl rfl rfl ?_
    refine zL (r := b false) rfl rfl rfl (LOp.eqb (LOp.lss rfl rfl rfl) hc3) ?_
    refine zN ?_
    refine RunC.cond_false rfl rfl ?_
    refine RunC.skip ?_
    exact ⟨a0, ⟨aR, trivial⟩, trivial, h⟩
 ·rintro τ2 Γ2 ⟨y3, hw2, hd2, h⟩
  refine RunC.wl hw2 hd2 ?_
  unfold x_math_IsInf_k1 at h
  refine zQ ?_
  refine zM (r := f64 y3) rfl rfl rfl rfl rfl ?_
  refine zL (r := b (flt .f64 (some 9218868437227405311) y3)) rfl rfl rfl (LOp.fgt rfl (OpF.tmp rfl) (OpF.const rfl (by kernel_rfl) (by kernel_rfl))) ?_
  refine zA (r := b (flt .f64 (some 9218868437227405311) y3)) rfl rfl rfl rfl rfl ?_
  refine zN ?_
  refine RunC.ret ?_
  have hq := Option.some.inj h
  subst q0
  exact bodyQ.pure (.inr rfl) rfl (Res.one rfl (RV.tmp rfl))
noncomputable def i_isFinite64 (a0 : F) : Option (Bool) :=
 obind (x_math_IsNaN a0) fun (r1 : Bool) =>
 bsel r1 (
  some false) (
  obind (x_math_IsInf a0 0) fun (r2 : Bool) =>
  some (!r2))
theorem i_isFinite64_ok (a0 : F) (q0 : Bool) (h : i_isFinite64 a0 = some q0) : Ev Tryz.prog 128 [f64 a0] [] (b q0) [] := by
 refine Ev.start Tryz.func128 rfl rfl 0 (τ := [(0, f64 a0)]) rfl (Γ' := []) rfl (n := 23) rfl (g := 0) rfl (fun _ => rfl) ?_
 unfold i_isFinite64 at h
 refine zQ ?_
 refine zA (r := b false) rfl rfl rfl rfl rfl ?_
 refine zN ?_
 refine RunC.seq ?_
 obtain ⟨r1, hf1, h⟩ := obind_some h
 rcases bsel_some h with ⟨hc2, h⟩ | ⟨hc2, h⟩
 ·refine RunC.regionW ?_
  refine zM (r := f64 a0) rfl rfl rfl rfl rfl ?_
  refine ROps.d (r := b true) (fs := []) (Γ' := []) rfl rfl rfl (TOp.eqb (TOp.callB (CallAs.func ent143 rfl rfl) (Bors.cons (Bor.pure rfl) Bors.nil) rfl rfl (x_math_IsNaN_ok a0 r1 hf1)) hc2) rfl ?_
  refine zL (r := b false) rfl rfl rfl (LOp.eqb (LOp.not rfl rfl) rfl) ?_
  refine zM (r := b false) rfl rfl rfl rfl rfl ?_
  refine ROps.s rfl rfl rfl ?_
  refine ROps.s rfl rfl rfl ?_
  refine ROps.s rfl rfl rfl ?_
  refine zL (r := b false) rfl rfl rfl (LOp.pick_false rfl rfl rfl) ?_
  refine zA (r := b false) rfl rfl rfl rfl rfl ?_
  refine zN ?_
  refine RunC.ret ?_
  have hq := Option.some.inj h
  subst q0
  exact bodyQ.pure (.inr rfl) rfl (Res.one rfl (RV.tmp rfl))
 ·obtain ⟨r2, hf3, h⟩ := obind_some h
  refine RunC.regionW ?_
  refine zM (r := f64 a0) rfl rfl rfl rfl rfl ?_
  refine ROps.d (r := b false) (fs := []) (Γ' := []) rfl rfl rfl (TOp.eqb (TOp.callB (CallAs.func ent143 rfl rfl) (Bors.cons (Bor.pure rfl) Bors.nil) rfl rfl (x_math_IsNaN_ok a0 r1 hf1)) hc2) rfl ?_
  refine zL (r := b true) rfl rfl rfl (LOp.eqb (LOp.not rfl rfl) rfl) ?_
  refine zM (r := b true) rfl rfl rfl rfl rfl ?_
  refine zM (r := f64 a0) rfl rfl rfl rfl rfl ?_
  refine ROps.d (r := b r2) (fs := []) (Γ' := []) rfl rfl rfl (TOp.callB (CallAs.func ent144 rfl rfl) (Bors.cons (Bor.pure rfl) (Bors.cons (Bor.pure rfl) Bors.nil)) rfl rfl (x_math_IsInf_ok a0 0 r2 hf3)) rfl ?_
  refine zL (r := b (!r2)) rfl rfl rfl (LOp.not rfl rfl) ?_
  refine zL (r := b (!r2)) rfl rfl rfl (LOp.pick_true rfl rfl rfl) ?_
  refine zA (r := b (!r2)) rfl rfl rfl rfl rfl ?_
  refine zN ?_
  refine RunC.ret ?_
  have hq := Option.some.inj h
  subst q0
  exact bodyQ.pure (.inr rfl) rfl (Res.one rfl (RV.tmp rfl))
noncomputable def i_IsFinite (a0 : F) : Option (Bool) :=
 olet (fwiden a0) fun (x1 : F) =>
 obind (i_isFinite64 x1) fun (r2 : Bool) =>
 some r2
theorem i_IsFinite_ok (a0 : F) (q0 : Bool) (h : i_IsFinite a0 = some q0) : Ev Tryz.prog 92 [f32 a0] [] (b q0) [] := by
 refine Ev.start Tryz.func92 rfl rfl 0 (τ := [(0, f32 a0)]) rfl (Γ' := []) rfl (n := 13) rfl (g := 0) rfl (fun _ => rfl) ?_
 unfold i_IsFinite at h
 refine zQ ?_
 refine zA (r := b false) rfl rfl rfl rfl rfl ?_
 refine zN ?_
 refine RunC.seq ?_
 obtain ⟨x1, hx1, h⟩ := olet_some h
 obtain ⟨r2, hf2, h⟩ := obind_some h
 refine RunC.regionW ?_
 refine zM (r := f32 a0) rfl rfl rfl rfl rfl ?_
 refine ROps.d (r := f64 x1) (fs := []) (Γ' := []) rfl rfl rfl (TOp.eqr (TOp.widen (src := 33) (dst := 37) ⟨_, pun33⟩ pun37 rfl (OpF.tmp rfl)) (congrArg (f .f64) hx1)) rfl ?_
 refine ROps.d (r := b r2) (fs := []) (Γ' := []) rfl rfl rfl (TOp.callB (CallAs.func ent128 rfl rfl) (Bors.cons (Bor.pure rfl) Bors.nil) rfl rfl (i_isFinite64_ok x1 r2 hf2)) rfl ?_
 refine zA (r := b r2) rfl rfl rfl rfl rfl ?_
 refine zN ?_
 refine RunC.ret ?_
 have hq := Option.some.inj h
 subst q0
 exact bodyQ.pure (.inr rfl) rfl (Res.one rfl (RV.tmp rfl))
noncomputable def i_areFinite_1 (a0 : F) : Option (Bool) :=
 obind (i_IsFinite a0) fun (r1 : Bool) =>
 some (!r1)
theorem i_areFinite_1_ok (a0 : F) (q0 : Bool) (h : i_areFinite_1 a0 = some q0) : Ev Tryz.prog 100 [f32 a0] [] (b q0) [] := by
 refine Ev.start Tryz.func100 rfl rfl 0 (τ := [(0, f32 a0)]) rfl (Γ' := []) rfl (n := 13) rfl (g := 0) rfl (fun _ => rfl) ?_
 unfold i_areFinite_1 at h
 refine zQ ?_
 refine zA (r := b false) rfl rfl rfl rfl rfl ?_
 refine zN ?_
 refine RunC.seq ?_
 obtain ⟨r1, hf1, h⟩ := obind_some h
 refine RunC.regionW ?_
 refine zM (r := f32 a0) rfl rfl rfl rfl rfl ?_
 refine ROps.d (r := b r1) (fs := []) (Γ' := []) rfl rfl rfl (TOp.callB (CallAs.func ent92 rfl rfl) (Bors.cons (Bor.pure rfl) Bors.nil) rfl rfl (i_IsFinite_ok a0 r1 hf1)) rfl ?_
 refine zL (r := b (!r1)) rfl rfl rfl (LOp.not rfl rfl) ?_
 refine zA (r := b (!r1)) rfl rfl rfl rfl rfl ?_
 refine zN ?_
 refine RunC.ret ?_
 have hq := Option.some.inj h
 subst q0
 exact bodyQ.pure (.inr rfl) rfl (Res.one rfl (RV.tmp rfl))
noncomputable def x_slices_IndexFunc_float32_float32_1Fi_areFinite_1_b1 (a0 : List F) (v1 : Int) : Option (LR (Int) (Unit) (Int)) :=
 bsel (decide (v1 < (a0.length : Int))) (
  obind (at? a0 v1) fun (e2 : F) =>
  obind (i_areFinite_1 e2) fun (r3 : Bool) =>
  bsel r3 (
   some (LR.ret v1)) (
   olet (IntKind.i64.wrap (v1 + 1)) fun (x4 : Int) =>
   some (LR.next x4))) (
  some (LR.out ()))
noncomputable def x_slices_IndexFunc_float32_float32_1Fi_areFinite_1_s1 (a0 : List F) : (Int) → Option (LR (Int) (Unit) (Int)) := fun s => x_slices_IndexFunc_float32_float32_1Fi_areFinite_1_b1 a0 s
noncomputable def x_slices_IndexFunc_float32_float32_1Fi_areFinite_1_k1  : Option (Int) :=
 some (-1)
noncomputable def x_slices_IndexFunc_float32_float32_1Fi_areFinite_1 (a0 : List F) : Option (Int) :=
 obind (loopM (x_slices_IndexFunc_float32_float32_1Fi_areFinite_1_s1 a0) 0) fun z => osum z (fun _ => x_slices_IndexFunc_float32_float32_1Fi_areFinite_1_k1) (fun r => some r)
theorem x_slices_IndexFunc_float32_float32_1Fi_areFinite_1_ok (a0 : List F) (q0 : Int) (h : x_slices_IndexFunc_float32_float32_1Fi_areFinite_1 a0 = some q0) : Ev Tryz.prog 131 [sl a0.length (a0.map f32), fn (.func 100) [] []] [] (i64 q0) [] := by
 refine Ev.start Tryz.func131 rfl rfl 0 (τ := [(0, sl a0.length (a0.map f32)), (1, fn (.func 100) [] [])]) rfl (Γ' := []) rfl (n := 39) rfl (g := 0) rfl (fun _ => rfl) ?_
 unfold x_slices_IndexFunc_float32_float32_1Fi_areFinite_1 at h
 refine zQ ?_
 refine zA (r := i64 0) rfl rfl rfl rfl rfl ?_
 refine zN ?_
 refine RunC.seq ?_
 refine zQ ?_
 refine zM (r := sl a0.length (a0.map f32)) rfl rfl rfl rfl rfl ?_
 refine zL (r := i64 (a0.length : Int)) rfl rfl rfl (LOp.len_sl und22 rfl rfl) ?_
 refine zM (r := i64 0) rfl rfl rfl rfl rfl ?_
 refine zN ?_
 obtain ⟨z2, hz_2, h⟩ := obind_some h
 refine RunC.cutN (fun τ Γ => WeakLe τ [] ∧ DeadLe Γ [] ∧ z2 = .inl ()) ?_ ?_
 ·refine RunC.block (RunC.loop (RunL.loopM (x := z2) (x_slices_IndexFunc_float32_float32_1Fi_areFinite_1_s1 a0) (fun (s : Int) τ Γ => WeakLe τ [(0, sl a0.length (a0.map f32)), (1, fn (.func 100) [] []), (7, i64 (a0.length : Int)), (8, i64 s)] ∧ DeadLe Γ []) ?_ _ _ _ hz_2 ⟨⟨aR, aR, aR, aR, trivial⟩, trivial⟩))
  rintro v1 τ2 Γ2 y2_ ⟨hw2, hd2⟩ h2_ ho2 hr2
  refine RunC.wl (τ' := [(0, sl a0.length (a0.map f32)), (1, fn (.func 100) [] []), (7, i64 (a0.length : Int)), (8, i64 v1)]) (Γ' := []) hw2 hd2 ?_
  replace h2_ : x_slices_IndexFunc_float32_float32_1Fi_areFinite_1_b1 a0 v1 = some y2_ := h2_
  unfold x_slices_IndexFunc_float32_float32_1Fi_areFinite_1_b1 at h2_
  refine RunC.seq ?_
  rcases bsel_some h2_ with ⟨hc1, h2_⟩ | ⟨hc1, h2_⟩
  ·refine RunC.regionW ?_
   refine zL (r := b true) rfl rfl rfl (LOp.eqb (LOp.lss rfl rfl rfl) hc1) ?_
   refine zN ?_
   refine RunC.seq ?_
   refine RunC.cond_true rfl rfl ?_
   refine RunC.skip ?_
   refine RunC.seq ?_
   refine RunC.block ?_
   refine zQ ?_
   refine zM (r := i64 v1) rfl rfl rfl rfl rfl ?_
   refine zA (r := i64 v1) rfl rfl rfl rfl rfl ?_
   refine zN ?_
   refine RunC.seq ?_
   obtain ⟨e2, he2, h2_⟩ := obind_some h2_
   obtain ⟨r3, hf3, h2_⟩ := obind_some h2_
   rcases bsel_some h2_ with ⟨hc4, h2_⟩ | ⟨hc4, h2_⟩
   ·refine RunC.regionW ?_
    refine zM (r := fn (.func 100) [] []) rfl rfl rfl rfl rfl ?_
    refine zM (r := sl a0.length (a0.map f32)) rfl rfl rfl rfl rfl ?_
    refine zM (r := i64 v1) rfl rfl rfl rfl rfl ?_
    refine zL (r := ptr [f32 e2]) rfl rfl rfl (LOp.le (LOp.ix (f := f32) und22 siz33 rfl rfl rfl rfl he2) ALe.ptr) ?_
    refine zL (r := f32 e2) rfl rfl rfl (LOp.load1 agg33 rfl rfl) ?_
    refine ROps.d (r := b true) (fs := []) (Γ' := []) rfl rfl rfl (TOp.eqb (TOp.callB (CallAs.fn ent100 rfl rfl rfl rfl) (Bors.cons (Bor.pure rfl) Bors.nil) rfl rfl (i_areFinite_1_ok e2 r3 hf3)) hc4) rfl ?_
    refine zN ?_
    refine RunC.cond_true rfl rfl ?_
    refine zQ ?_
    refine zM (r := i64 v1) rfl rfl rfl rfl rfl ?_
    refine zA (r := i64 v1) rfl rfl rfl rfl rfl ?_
    refine zN ?_
    refine RunC.ret ?_
    cases Option.some.inj h2_
    have hx3_ := hr2 _ rfl
    subst hx3_
    have hq := Option.some.inj h
    subst q0
    exact bodyQ.pure (.inr rfl) rfl (Res.one rfl (RV.tmp rfl))
   ·refine RunC.regionW ?_
    refine zM (r := fn (.func 100) [] []) rfl rfl rfl rfl rfl ?_
    refine zM (r := sl a0.length (a0.map f32)) rfl rfl rfl rfl rfl ?_
    refine zM (r := i64 v1) rfl rfl rfl rfl rfl ?_
    refine zL (r := ptr [f32 e2]) rfl rfl rfl (LOp.le (LOp.ix (f := f32) und22 siz33 rfl rfl rfl rfl he2) ALe.ptr) ?_
    refine zL (r := f32 e2) rfl rfl rfl (LOp.load1 agg33 rfl rfl) ?_
    refine ROps.d (r := b false) (fs := []) (Γ' := []) rfl rfl rfl (TOp.eqb (TOp.callB (CallAs.fn ent100 rfl rfl rfl rfl) (Bors.cons (Bor.pure rfl) Bors.nil) rfl rfl (i_areFinite_1_ok e2 r3 hf3)) hc4) rfl ?_
    refine zN ?_
    refine RunC.cond_false rfl rfl ?_
    refine RunC.skip ?_
    obtain ⟨x4, hx5, h2_⟩ := olet_some h2_
    refine RunC.regionW ?_
    refine zL (r := i64 x4) rfl rfl rfl (LOp.eqr (LOp.add rfl rfl rfl) (congrArg (ik .i64) hx5)) ?_
    refine zM (r := i64 x4) rfl rfl rfl rfl rfl ?_
    refine zN ?_
    cases Option.some.inj h2_
    exact ⟨_, rfl, ⟨aR, aR, aR, aR, trivial⟩, trivial⟩
  ·refine RunC.regionW ?_
   refine zL (r := b false) rfl rfl rfl (LOp.eqb (LOp.lss rfl rfl rfl) hc1) ?_
   refine zN ?_
   refine RunC.seq ?_
   refine RunC.cond_false rfl rfl ?_
   refine RunC.exit ?_
   cases Option.some.inj h2_
   have hx := ho2 _ rfl
   exact ⟨trivial, trivial, hx⟩
 ·rintro τ4 Γ4 ⟨hw4, hd4, rfl⟩
  refine RunC.wl hw4 hd4 ?_
  replace h : x_slices_IndexFunc_float32_float32_1Fi_areFinite_1_k1 = some q0 := h
  unfold x_slices_IndexFunc_float32_float32_1Fi_areFinite_1_k1 at h
  refine zQ ?_
  refine zA (r := i64 (-1)) rfl rfl rfl rfl rfl ?_
  refine zN ?_
  refine RunC.ret ?_
  have hq := Option.some.inj h
  subst q0
  exact bodyQ.pure (.inr rfl) rfl (Res.one rfl (RV.tmp rfl))
noncomputable def x_slices_ContainsFunc_float32_float32_1Fi_areFinite_1 (a0 : List F) : Option (Bool) :=
 obind (x_slices_IndexFunc_float32_float32_1Fi_areFinite_1 a0) fun (r1 : Int) =>
 some (decide (0 ≤ r1))
theorem x_slices_ContainsFunc_float32_float32_1Fi_areFinite_1_ok (a0 : List F) (q0 : Bool) (h : x_slices_ContainsFunc_float32_float32_1Fi_areFinite_1 a0 = some q0) : Ev Tryz.prog 99 [sl a0.length (a0.map f32), fn (.func 100) [] []] [] (b q0) [] := by
 refine Ev.start Tryz.func99 rfl rfl 0 (τ := [(0, sl a0.length (a0.map f32)), (1, fn (.func 100) [] [])]) rfl (Γ' := []) rfl (n := 19) rfl (g := 0) rfl (fun _ => rfl) ?_
 unfold x_slices_ContainsFunc_float32_float32_1Fi_areFinite_1 at h
 refine zQ ?_
 refine zA (r := b false) rfl rfl rfl rfl rfl ?_
 refine zN ?_
 refine RunC.seq ?_
 obtain ⟨r1, hf1, h⟩ := obind_some h
 refine RunC.regionW ?_
 refine zM (r := sl a0.length (a0.map f32)) rfl rfl rfl rfl rfl ?_
 refine zM (r := fn (.func 100) [] []) rfl rfl rfl rfl rfl ?_
 refine ROps.d (r := i64 r1) (fs := []) (Γ' := []) rfl rfl rfl (TOp.callB (CallAs.func ent131 rfl rfl) (Bors.cons (Bor.sl (fun _ => rfl)) (Bors.cons (Bor.fn Bors.nil Bors.nil) Bors.nil)) rfl rfl (x_slices_IndexFunc_float32_float32_1Fi_areFinite_1_ok a0 r1 hf1)) rfl ?_
 refine zL (r := b (decide (0 ≤ r1))) rfl rfl rfl (LOp.geq rfl rfl rfl) ?_
 refine zA (r := b (decide (0 ≤ r1))) rfl rfl rfl rfl rfl ?_
 refine zN ?_
 refine RunC.ret ?_
 have hq := Option.some.inj h
 subst q0
 exact bodyQ.pure (.inr rfl) rfl (Res.one rfl (RV.tmp rfl))
noncomputable def i_areFinite (a0 : List F) : Option (Bool) :=
 obind (x_slices_ContainsFunc_float32_float32_1Fi_areFinite_1 a0) fun (r1 : Bool) =>
 some (!r1)
theorem i_areFinite_ok (a0 : List F) (q0 : Bool) (h : i_areFinite a0 = some q0) : Ev Tryz.prog 62 [sl a0.length (a0.map f32)] [] (b q0) [] := by
 refine Ev.start Tryz.func62 rfl rfl 0 (τ := [(0, sl a0.length (a0.map f32))]) rfl (Γ' := []) rfl (n := 13) rfl (g := 0) rfl (fun _ => rfl) ?_
 unfold i_areFinite at h
 refine zQ ?_
 refine zA (r := b false) rfl rfl rfl rfl rfl ?_
 refine zN ?_
 refine RunC.seq ?_
 obtain ⟨r1, hf1, h⟩ := obind_some h
 refine RunC.regionW ?_
 refine zM (r := sl a0.length (a0.map f32)) rfl rfl rfl rfl rfl ?_
 refine ROps.d (r := b r1) (fs := []) (Γ' := []) rfl rfl rfl (TOp.callB (CallAs.func ent99 rfl rfl) (Bors.cons (Bor.sl (fun _ => rfl)) (Bors.cons (Bor.fn Bors.nil Bors.nil) Bors.nil)) rfl rfl (x_slices_ContainsFunc_float32_float32_1Fi_areFinite_1_ok a0 r1 hf1)) rfl ?_
 refine zL (r := b (!r1)) rfl rfl rfl (LOp.not rfl rfl) ?_
 refine zA (r := b (!r1)) rfl rfl rfl rfl rfl ?_
 refine zN ?_
 refine RunC.ret ?_
 have hq := Option.some.inj h
 subst q0
 exact bodyQ.pure (.inr rfl) rfl (Res.one rfl (RV.tmp rfl))
noncomputable def i_ValidMatrix (a0 : Int) (a1 : Int) (a2 : List F) : Option (Bool) :=
 obind (i_isSide a0) fun (r1 : Bool) =>
 bsel r1 (
  obind (i_isSide a1) fun (r2 : Bool) =>
  bsel r2 (
   obind (i_length_float32 a2) fun (r3 : Int) =>
   olet (IntKind.i64.wrap (a0 * a1)) fun (x4 : Int) =>
   bsel (decide (r3 = x4)) (
    obind (i_areFinite a2) fun (r5 : Bool) =>
    some r5) (
    some false)) (
   some false)) (
  some false)
theorem i_ValidMatrix_ok (a0 : Int) (a1 : Int) (a2 : List F) (q0 : Bool) (h : i_ValidMatrix a0 a1 a2 = some q0) : Ev Tryz.prog 65 [agg [i64 a0, i64 a1, sl a2.length (a2.map f32)]] [] (b q0) [] := by
 refine Ev.start Tryz.func65 rfl rfl 0 (τ := [(0, agg [i64 a0, i64 a1, sl a2.length (a2.map f32)])]) rfl (Γ' := []) rfl (n := 55) rfl (g := 0) rfl (fun _ => rfl) ?_
 unfold i_ValidMatrix at h
 refine zQ ?_
 refine ROps.d (r := ptr [i64 a0, i64 a1, sl a2.length (a2.map f32)]) (fs := []) (Γ' := []) rfl rfl rfl (TOp.box_s rfl rfl rfl) rfl ?_
 refine zA (r := b false) rfl rfl rfl rfl rfl ?_
 refine zN ?_
 refine RunC.seq ?_
 obtain ⟨r1, hf1, h⟩ := obind_some h
 rcases bsel_some h with ⟨hc2, h⟩ | ⟨hc2, h⟩
 ·obtain ⟨r2, hf3, h⟩ := obind_some h
  rcases bsel_some h with ⟨hc4, h⟩ | ⟨hc4, h⟩
  ·obtain ⟨r3, hf5, h⟩ := obind_some h
   obtain ⟨x4, hx6, h⟩ := olet_some h
   rcases bsel_some h with ⟨hc7, h⟩ | ⟨hc7, h⟩
   ·obtain ⟨r5, hf8, h⟩ := obind_some h
    refine RunC.region_draw (Γ' := []) 25 mixed 
     (TR.l (r := ptr [i64 a0, i64 a1, sl a2.length (a2.map f32)]) rfl rfl (LOp.fap und26 rfl siz2 rfl rfl rfl) <|
     (TR.l (r := i64 a0) rfl rfl (LOp.load1 agg2 rfl rfl) <|
     (TR.d (r := b true) (fs := []) rfl rfl (TOp.eqb (TOp.callB (CallAs.func ent102 rfl rfl) (Bors.cons (Bor.pure rfl) Bors.nil) rfl rfl (i_isSide_ok a0 r1 hf1)) hc2) <|
     (TR.l (r := b true) rfl rfl (LOp.move rfl rfl) <|
     (TR.l (r := ptr [i64 a1, sl a2.length (a2.map f32)]) rfl rfl (LOp.fap und26 rfl siz2 rfl rfl rfl) <|
     (TR.l (r := i64 a1) rfl rfl (LOp.load1 agg2 rfl rfl) <|
     (TR.d (r := b true) (fs := []) rfl rfl (TOp.eqb (TOp.callB (CallAs.func ent102 rfl rfl) (Bors.cons (Bor.pure rfl) Bors.nil) rfl rfl (i_isSide_ok a1 r2 hf3)) hc4) <|
     (TR.l (r := b true) rfl rfl (LOp.pick_true rfl rfl rfl) <|
     (TR.l (r := b true) rfl rfl (LOp.move rfl rfl) <|
     (TR.l (r := ptr [sl a2.length (a2.map f32)]) rfl rfl (LOp.fap und26 rfl siz22 rfl rfl rfl) <|
     (TR.l (r := sl a2.length (a2.map f32)) rfl rfl (LOp.load1 agg22 rfl rfl) <|
     (TR.d (r := i64 r3) (fs := []) rfl rfl (TOp.callB (CallAs.func ent103 rfl rfl) (Bors.cons (Bor.sl (fun _ => rfl)) Bors.nil) rfl rfl (i_length_float32_ok a2 r3 hf5)) <|
     (TR.l (r := ptr [i64 a0, i64 a1, sl a2.length (a2.map f32)]) rfl rfl (LOp.fap und26 rfl siz2 rfl rfl rfl) <|
     (TR.l (r := i64 a0) rfl rfl (LOp.load1 agg2 rfl rfl) <|
     (TR.l (r := ptr [i64 a1, sl a2.length (a2.map f32)]) rfl rfl (LOp.fap und26 rfl siz2 rfl rfl rfl) <|
     (TR.l (r := i64 a1) rfl rfl (LOp.load1 agg2 rfl rfl) <|
     (TR.l (r := i64 x4) rfl rfl (LOp.eqr (LOp.mul rfl rfl rfl) (congrArg (ik .i64) hx6)) <|
     (TR.l (r := b true) rfl rfl (LOp.eqb (LOp.eql rfl rfl rfl) hc7) <|
     (TR.l (r := b true) rfl rfl (LOp.pick_true rfl rfl rfl) <|
     (TR.l (r := b true) rfl rfl (LOp.move rfl rfl) <|
     (TR.l (r := ptr [sl a2.length (a2.map f32)]) rfl rfl (LOp.fap und26 rfl siz22 rfl rfl rfl) <|
     (TR.l (r := sl a2.length (a2.map f32)) rfl rfl (LOp.load1 agg22 rfl rfl) <|
     (TR.d (r := b r5) (fs := []) rfl rfl (TOp.callB (CallAs.func ent62 rfl rfl) (Bors.cons (Bor.sl (fun _ => rfl)) Bors.nil) rfl rfl (i_areFinite_ok a2 r5 hf8)) <|
     (TR.l (r := b r5) rfl rfl (LOp.pick_true rfl rfl rfl) <|
     (TR.l (r := b r5) rfl rfl (LOp.assign rfl rfl) <|
     TR.nil))))))))))))))))))))))))) rfl (by kernel_rfl) rfl fills_nil rfl ?_
    iterate 25 refine ROps.dropS ?_
    refine ROps.drop0 ?_
    refine zN ?_
    refine RunC.ret ?_
    have hq := Option.some.inj h
    subst q0
    exact bodyQ.pure (.inr rfl) rfl (Res.one rfl (RV.tmp rfl))
   ·refine RunC.region_draw (Γ' := []) 25 mixed 
     (TR.l (r := ptr [i64 a0, i64 a1, sl a2.length (a2.map f32)]) rfl rfl (LOp.fap und26 rfl siz2 rfl rfl rfl) <|
     (TR.l (r := i64 a0) rfl rfl (LOp.load1 agg2 rfl rfl) <|
     (TR.d (r := b true) (fs := []) rfl rfl (TOp.eqb (TOp.callB (CallAs.func ent102 rfl rfl) (Bors.cons (Bor.pure rfl) Bors.nil) rfl rfl (i_isSide_ok a0 r1 hf1)) hc2) <|
     (TR.l (r := b true) rfl rfl (LOp.move rfl rfl) <|
     (TR.l (r := ptr [i64 a1, sl a2.length (a2.map f32)]) rfl rfl (LOp.fap und26 rfl siz2 rfl rfl rfl) <|
     (TR.l (r := i64 a1) rfl rfl (LOp.load1 agg2 rfl rfl) <|
     (TR.d (r := b true) (fs := []) rfl rfl (TOp.eqb (TOp.callB (CallAs.func ent102 rfl rfl) (Bors.cons (Bor.pure rfl) Bors.nil) rfl rfl (i_isSide_ok a1 r2 hf3)) hc4) <|
     (TR.l (r := b true) rfl rfl (LOp.pick_true rfl rfl rfl) <|
     (TR.l (r := b true) rfl rfl (LOp.move rfl rfl) <|
     (TR.l (r := ptr [sl a2.length (a2.map f32)]) rfl rfl (LOp.fap und26 rfl siz22 rfl rfl rfl) <|
     (TR.l (r := sl a2.length (a2.map f32)) rfl rfl (LOp.load1 agg22 rfl rfl) <|
     (TR.d (r := i64 r3) (fs := []) rfl rfl (TOp.callB (CallAs.func ent103 rfl rfl) (Bors.cons (Bor.sl (fun _ => rfl)) Bors.nil) rfl rfl (i_length_float32_ok a2 r3 hf5)) <|
     (TR.l (r := ptr [i64 a0, i64 a1, sl a2.length (a2.map f32)]) rfl rfl (LOp.fap und26 rfl siz2 rfl rfl rfl) <|
     (TR.l (r := i64 a0) rfl rfl (LOp.load1 agg2 rfl rfl) <|
     (TR.l (r := ptr [i64 a1, sl a2.length (a2.map f32)]) rfl rfl (LOp.fap und26 rfl siz2 rfl rfl rfl) <|
     (TR.l (r := i64 a1) rfl rfl (LOp.load1 agg2 rfl rfl) <|
     (TR.l (r := i64 x4) rfl rfl (LOp.eqr (LOp.mul rfl rfl rfl) (congrArg (ik .i64) hx6)) <|
     (TR.l (r := b false) rfl rfl (LOp.eqb (LOp.eql rfl rfl rfl) hc7) <|
     (TR.l (r := b false) rfl rfl (LOp.pick_true rfl rfl rfl) <|
     (TR.l (r := b false) rfl rfl (LOp.move rfl rfl) <|
     (TR.s rfl rfl <|
     (TR.s rfl rfl <|
     (TR.s rfl rfl <|
     (TR.l (r := b false) rfl rfl (LOp.pick_false rfl rfl rfl) <|
     (TR.l (r := b false) rfl rfl (LOp.assign rfl rfl) <|
     TR.nil))))))))))))))))))))))))) rfl (by kernel_rfl) rfl fills_nil rfl ?_
    iterate 25 refine ROps.dropS ?_
    refine ROps.drop0 ?_
    refine zN ?_
    refine RunC.ret ?_
    have hq := Option.some.inj h
    subst q0
    exact bodyQ.pure (.inr rfl) rfl (Res.one rfl (RV.tmp rfl))
  ·refine RunC.region_draw (Γ' := []) 25 mixed 
    (TR.l (r := ptr [i64 a0, i64 a1, sl a2.length (a2.map f32)]) rfl rfl (LOp.fap und26 rfl siz2 rfl rfl rfl) <|
    (TR.l (r := i64 a0) rfl rfl (LOp.load1 agg2 rfl rfl) <|
    (TR.d (r := b true) (fs := []) rfl rfl (TOp.eqb (TOp.callB (CallAs.func ent102 rfl rfl) (Bors.cons (Bor.pure rfl) Bors.nil) rfl rfl (i_isSide_ok a0 r1 hf1)) hc2) <|
    (TR.l (r := b true) rfl rfl (LOp.move rfl rfl) <|
    (TR.l (r := ptr [i64 a1, sl a2.length (a2.map f32)]) rfl rfl (LOp.fap und26 rfl siz2 rfl rfl rfl) <|
    (TR.l (r := i64 a1) rfl rfl (LOp.load1 agg2 rfl rfl) <|
    (TR.d (r := b false) (fs := []) rfl rfl (TOp.eqb (TOp.callB (CallAs.func ent102 rfl rfl) (Bors.cons (Bor.pure rfl) Bors.nil) rfl rfl (i_isSide_ok a1 r2 hf3)) hc4) <|
    (TR.l (r := b false) rfl rfl (LOp.pick_true rfl rfl rfl) <|
    (TR.l (r := b false) rfl rfl (LOp.move rfl rfl) <|
    (TR.s rfl rfl <|
    (TR.s rfl rfl <|
    (TR.s rfl rfl <|
    (TR.s rfl rfl <|
    (TR.s rfl rfl <|
    (TR.s rfl rfl <|
    (TR.s rfl rfl <|
    (TR.s rfl rfl <|
    (TR.s rfl rfl <|
    (TR.l (r := b false) rfl rfl (LOp.pick_false rfl rfl rfl) <|
    (TR.l (r := b false) rfl rfl (LOp.move rfl rfl) <|
    (TR.s rfl rfl <|
    (TR.s rfl rfl <|
    (TR.s rfl rfl <|
    (TR.l (r := b false) rfl rfl (LOp.pick_false rfl rfl rfl) <|
    (TR.l (r := b false) rfl rfl (LOp.assign rfl rfl) <|
    TR.nil))))))))))))))))))))))))) rfl (by kernel_rfl) rfl fills_nil rfl ?_
   iterate 25 refine ROps.dropS ?_
   refine ROps.drop0 ?_
   refine zN ?_
   refine RunC.ret ?_
   have hq := Option.some.inj h
   subst q0
   exact bodyQ.pure (.inr rfl) rfl (Res.one rfl (RV.tmp rfl))
 ·refine RunC.region_draw (Γ' := []) 25 mixed 
   (TR.l (r := ptr [i64 a0, i64 a1, sl a2.length (a2.map f32)]) rfl rfl (LOp.fap und26 rfl siz2 rfl rfl rfl) <|
   (TR.l (r := i64 a0) rfl rfl (LOp.load1 agg2 rfl rfl) <|
   (TR.d (r := b false) (fs := []) rfl rfl (TOp.eqb (TOp.callB (CallAs.func ent102 rfl rfl) (Bors.cons (Bor.pure rfl) Bors.nil) rfl rfl (i_isSide_ok a0 r1 hf1)) hc2) <|
   (TR.l (r := b false) rfl rfl (LOp.move rfl rfl) <|
   (TR.s rfl rfl <|
   (TR.s rfl rfl <|
   (TR.s rfl rfl <|
   (TR.l (r := b false) rfl rfl (LOp.pick_false rfl rfl rfl) <|
   (TR.l (r := b false) rfl rfl (LOp.move rfl rfl) <|
   (TR.s rfl rfl <|
   (TR.s rfl rfl <|
   (TR.s rfl rfl <|
   (TR.s rfl rfl <|
   (TR.s rfl rfl <|
   (TR.s rfl rfl <|
   (TR.s rfl rfl <|
   (TR.s rfl rfl <|
   (TR.s rfl rfl <|
   (TR.l (r := b false) rfl rfl (LOp.pick_false rfl rfl rfl) <|
   (TR.l (r := b false) rfl rfl (LOp.move rfl rfl) <|
   (TR.s rfl rfl <|
   (TR.s rfl rfl <|
   (TR.s rfl rfl <|
   (TR.l (r := b false) rfl rfl (LOp.pick_false rfl rfl rfl) <|
   (TR.l (r := b false) rfl rfl (LOp.assign rfl rfl) <|
   TR.nil))))))))))))))))))))))))) rfl (by kernel_rfl) rfl fills_nil rfl ?_
  iterate 25 refine ROps.dropS ?_
  refine ROps.drop0 ?_
  refine zN ?_
  refine RunC.ret ?_
  have hq := Option.some.inj h
  subst q0
  exact bodyQ.pure (.inr rfl) rfl (Res.one rfl (RV.tmp rfl))
noncomputable def i_isTall (a0 : Int) (a1 : Int) (a2 : List F) : Option (Bool) :=
 obind (i_ValidMatrix a0 a1 a2) fun (r1 : Bool) =>
 bsel r1 (
  some (decide (a1 ≤ a0))) (
  some false)
theorem i_isTall_ok (a0 : Int) (a1 : Int) (a2 : List F) (q0 : Bool) (h : i_isTall a0 a1 a2 = some q0) : Ev Tryz.prog 56 [agg [i64 a0, i64 a1, sl a2.length (a2.map f32)]] [] (b q0) [] := by
 refine Ev.start Tryz.func56 rfl rfl 0 (τ := [(0, agg [i64 a0, i64 a1, sl a2.length (a2.map f32)])]) rfl (Γ' := []) rfl (n := 25) rfl (g := 0) rfl (fun _ => rfl) ?_
 unfold i_isTall at h
 refine zQ ?_
 refine ROps.d (r := ptr [i64 a0, i64 a1, sl a2.length (a2.map f32)]) (fs := []) (Γ' := []) rfl rfl rfl (TOp.box_s rfl rfl rfl) rfl ?_
 refine zA (r := b false) rfl rfl rfl rfl rfl ?_
 refine zN ?_
 refine RunC.seq ?_
 obtain ⟨r1, hf1, h⟩ := obind_some h
 rcases bsel_some h with ⟨hc2, h⟩ | ⟨hc2, h⟩
 ·refine RunC.regionW ?_
  refine zL (r := agg [i64 a0, i64 a1, sl a2.length (a2.map f32)]) rfl rfl rfl (LOp.loadAgg agg26 siz26 rfl rfl rfl rfl) ?_
  refine ROps.d (r := b true) (fs := []) (Γ' := []) rfl rfl rfl (TOp.eqb (TOp.callB (CallAs.func ent65 rfl rfl) (Bors.cons (Bor.agg (Bors.cons (Bor.pure rfl) (Bors.cons (Bor.pure rfl) (Bors.cons (Bor.sl (fun _ => rfl)) Bors.nil)))) Bors.nil) rfl rfl (i_ValidMatrix_ok a0 a1 a2 r1 hf1)) hc2) rfl ?_
  refine zM (r := b true) rfl rfl rfl rfl rfl ?_
  refine zL (r := ptr [i64 a0, i64 a1, sl a2.length (a2.map f32)]) rfl rfl rfl (LOp.fap und26 rfl siz2 rfl rfl rfl) ?_
  refine zL (r := i64 a0) rfl rfl rfl (LOp.load1 agg2 rfl rfl) ?_
  refine zL (r := ptr [i64 a1, sl a2.length (a2.map f32)]) rfl rfl rfl (LOp.fap und26 rfl siz2 rfl rfl rfl) ?_
  refine zL (r := i64 a1) rfl rfl rfl (LOp.load1 agg2 rfl rfl) ?_
  refine zL (r := b (decide (a1 ≤ a0))) rfl rfl rfl (LOp.geq rfl rfl rfl) ?_
  refine zL (r := b (decide (a1 ≤ a0))) rfl rfl rfl (LOp.pick_true rfl rfl rfl) ?_
  refine zA (r := b (decide (a1 ≤ a0))) rfl rfl rfl rfl rfl ?_
  refine zN ?_
  refine RunC.ret ?_
  have hq := Option.some.inj h
  subst q0
  exact bodyQ.pure (.inr rfl) rfl (Res.one rfl (RV.tmp rfl))
 ·refine RunC.regionW ?_
  refine zL (r := agg [i64 a0, i64 a1, sl a2.length (a2.map f32)]) rfl rfl rfl (LOp.loadAgg agg26 siz26 rfl rfl rfl rfl) ?_
  refine ROps.d (r := b false) (fs := []) (Γ' := []) rfl rfl rfl (TOp.eqb (TOp.callB (CallAs.func ent65 rfl rfl) (Bors.cons (Bor.agg (Bors.cons (Bor.pure rfl) (Bors.cons (Bor.pure rfl) (Bors.cons (Bor.sl (fun _ => rfl)) Bors.nil)))) Bors.nil) rfl rfl (i_ValidMatrix_ok a0 a1 a2 r1 hf1)) hc2) rfl ?_
  refine zM (r := b false) rfl rfl rfl rfl rfl ?_
  refine ROps.s rfl rfl rfl ?_
  refine ROps.s rfl rfl rfl ?_
  refine ROps.s rfl rfl rfl ?_
  refine ROps.s rfl rfl rfl ?_
  refine ROps.s rfl rfl rfl ?_
  refine zL (r := b false) rfl rfl rfl (LOp.pick_false rfl rfl rfl) ?_
  refine zA (r := b false) rfl rfl rfl rfl rfl ?_
  refine zN ?_
  refine RunC.ret ?_
  have hq := Option.some.inj h
  subst q0
  exact bodyQ.pure (.inr rfl) rfl (Res.one rfl (RV.tmp rfl))
noncomputable def i_isRounds (a0 : Int) : Option (Bool) :=
 obind (i_inRange a0 0 64) fun (r1 : Bool) =>
 some r1
theorem i_isRounds_ok (a0 : Int) (q0 : Bool) (h : i_isRounds a0 = some q0) : Ev Tryz.prog 57 [i64 a0] [] (b q0) [] := by
 refine Ev.start Tryz.func57 rfl rfl 0 (τ := [(0, i64 a0)]) rfl (Γ' := []) rfl (n := 11) rfl (g := 0) rfl (fun _ => rfl) ?_
 unfold i_isRounds at h
 refine zQ ?_
 refine zA (r := b false) rfl rfl rfl rfl rfl ?_
 refine zN ?_
 refine RunC.seq ?_
 obtain ⟨r1, hf1, h⟩ := obind_some h
 refine RunC.regionW ?_
 refine zM (r := i64 a0) rfl rfl rfl rfl rfl ?_
 refine ROps.d (r := b r1) (fs := []) (Γ' := []) rfl rfl rfl (TOp.callB (CallAs.func ent25 rfl rfl) (Bors.cons (Bor.pure rfl) (Bors.cons (Bor.pure rfl) (Bors.cons (Bor.pure rfl) Bors.nil))) rfl rfl (i_inRange_ok a0 0 64 r1 hf1)) rfl ?_
 refine zA (r := b r1) rfl rfl rfl rfl rfl ?_
 refine zN ?_
 refine RunC.ret ?_
 have hq := Option.some.inj h
 subst q0
 exact bodyQ.pure (.inr rfl) rfl (Res.one rfl (RV.tmp rfl))
noncomputable def x_slices_Clone_float32_float32 (a0 : List F) : Option ((List F)) :=
 need (apok 4 0 a0.length) <|
 some (([] : List F) ++ a0)
theorem x_slices_Clone_float32_float32_ok (a0 : List F) (q0 : List F) (h : x_slices_Clone_float32_float32 a0 = some q0) : Ev Tryz.prog 97 [sl a0.length (a0.map f32)] [] (oref 0 0 0 q0.length) [⟨0, some (q0.map f32)⟩] := by
 refine Ev.start Tryz.func97 rfl rfl 1 (τ := [(0, sl a0.length (a0.map f32))]) rfl (Γ' := [⟨0, none⟩]) rfl (n := 17) rfl (g := 0) rfl (fun _ => rfl) ?_
 unfold x_slices_Clone_float32_float32 at h
 refine zQ ?_
 refine zA (r := nilsl) rfl rfl rfl rfl rfl ?_
 refine zN ?_
 refine RunC.seq ?_
 refine zQ ?_
 refine zM (r := sl a0.length (a0.map f32)) rfl rfl rfl rfl rfl ?_
 refine ROps.eqnil rfl pun22 rfl rfl rfl rfl rfl ?_ ?_
 ·intro hnil1
  refine zN ?_
  refine RunC.cond_true rfl rfl ?_
  refine zQ ?_
  refine zA (r := nilsl) rfl rfl rfl rfl rfl ?_
  refine zN ?_
  refine RunC.nil_slot (Γ' := [⟨1, some (([] : List F).map f32)⟩]) 2 0 rfl rfl rfl ?_
  refine RunC.ret ?_
  have hnl := List.map_eq_nil_iff.1 hnil1
  have hq : some ([] : List F) = some q0 := by
   rw [← h]; subst hnl; simp [need, apok]
  have hq := Option.some.inj hq
  subst q0
  exact bodyQ.mk (r' := oref 0 1 0 (([] : List F).length)) [(0, 1)] (.inr rfl) rfl (show List.Nodup [0] from by decide) rfl rfl (Res.eq (Res.one rfl (RV.tmp rfl)) (by rw [(show ([] : List F).length = 0 from rfl)] <;> rfl)) (SelL.arr0 (f := f32) (fun _ => rfl) rfl trivial)
 ·refine zN ?_
  refine RunC.cond_false rfl rfl ?_
  refine RunC.skip ?_
  refine RunC.seq ?_
  obtain ⟨hm2, h⟩ := need_some h
  refine RunC.regionW ?_
  refine ROps.d (r := oref 0 1 0 0) (fs := [(0, (([] : List F).map f32))]) (Γ' := [⟨1, some (([] : List F).map f32)⟩]) rfl rfl rfl (TOp.buildSlice_o (g := ⟨0, none⟩) (za := f32 (some 0)) (qs := []) 0 rfl und22 siz33 zer33 rfl zel33 rfl rfl trivial rfl) rfl ?_
  refine zM (r := sl a0.length (a0.map f32)) rfl rfl rfl rfl rfl ?_
  refine ROps.app (f := f32) (xs := ([] : List F)) (ys := a0) (Γ' := [⟨2, some ((([] : List F) ++ a0).map f32)⟩]) rfl pun22 inf33 rfl rfl rfl rfl rfl rfl rfl rfl rfl (by simp) (ReadAs.sl (by simp)) (ones_map (fun _ => rfl)) (ap_by hm2) (ap_mx hm2) rfl ?_
  refine zA (r := oref 0 2 0 (0 + a0.length)) rfl rfl rfl rfl rfl ?_
  refine zN ?_
  refine RunC.ret ?_
  have hq := Option.some.inj h
  subst q0
  exact bodyQ.mk (r' := oref 0 2 0 ((([] : List F) ++ a0).length)) [(0, 2)] (.inr rfl) rfl (show List.Nodup [0] from by decide) rfl rfl (Res.eq (Res.one rfl (RV.tmp rfl)) (by rw [(show (([] : List F) ++ a0).length = (0 + a0.length) from (app_len rfl rfl))] <;> rfl)) (SelL.arr0 (f := f32) (fun _ => rfl) rfl trivial)
noncomputable def i_Matrix_clone (a0 : Int) (a1 : Int) (a2 : List F) : Option (Int × Int × (List F)) :=
 obind (x_slices_Clone_float32_float32 a2) fun (r1 : List F) =>
 some (a0, a1, r1)
theorem i_Matrix_clone_ok (a0 : Int) (a1 : Int) (a2 : List F) (q0 : Int) (q1 : Int) (q2 : List F) (h : i_Matrix_clone a0 a1 a2 = some (q0, q1, q2)) : Ev Tryz.prog 58 [agg [i64 a0, i64 a1, sl a2.length (a2.map f32)]] [] (agg [i64 q0, i64 q1, oref 0 0 0 q2.length]) [⟨0, some (q2.map f32)⟩] := by
 refine Ev.start Tryz.func58 rfl rfl 2 (τ := [(0, agg [i64 a0, i64 a1, sl a2.length (a2.map f32)])]) rfl (Γ' := [⟨0, none⟩, ⟨0, none⟩]) rfl (n := 23) rfl (g := 0) rfl (fun _ => rfl) ?_
 unfold i_Matrix_clone at h
 refine zQ ?_
 refine ROps.d (r := ptr [i64 a0, i64 a1, sl a2.length (a2.map f32)]) (fs := []) (Γ' := [⟨0, none⟩, ⟨0, none⟩]) rfl rfl rfl (TOp.box_s rfl rfl rfl) rfl ?_
 refine ROps.d (r := optr 0 1 0) (fs := [(0, [i64 0, i64 0, nilsl])]) (Γ' := [⟨1, some [i64 0, i64 0, nilsl]⟩, ⟨0, none⟩]) rfl rfl rfl (TOp.alloc_o (g := ⟨0, none⟩) 0 rfl zer26 zok26 rfl) rfl ?_
 refine zN ?_
 refine RunC.seq ?_
 obtain ⟨r1, hf1, h⟩ := obind_some h
 refine RunC.region_draw (Γ' := [⟨1, some [i64 0, i64 0, nilsl]⟩, ⟨1, some (r1.map f32)⟩]) 8 mixed 
  (TR.l (r := ptr [i64 a0, i64 a1, sl a2.length (a2.map f32)]) rfl rfl (LOp.fap und26 rfl siz2 rfl rfl rfl) <|
  (TR.l (r := i64 a0) rfl rfl (LOp.load1 agg2 rfl rfl) <|
  (TR.l (r := ptr [i64 a1, sl a2.length (a2.map f32)]) rfl rfl (LOp.fap und26 rfl siz2 rfl rfl rfl) <|
  (TR.l (r := i64 a1) rfl rfl (LOp.load1 agg2 rfl rfl) <|
  (TR.l (r := ptr [sl a2.length (a2.map f32)]) rfl rfl (LOp.fap und26 rfl siz22 rfl rfl rfl) <|
  (TR.l (r := sl a2.length (a2.map f32)) rfl rfl (LOp.load1 agg22 rfl rfl) <|
  (TR.d (r := oref 1 1 0 r1.length) (fs := [(1, (r1.map f32))]) rfl rfl (TOp.callBN (ls := [(r1.map f32)]) [1] (CallAs.func ent97 rfl rfl) (Bors.cons (Bor.sl (fun _ => rfl)) Bors.nil) rfl (x_slices_Clone_float32_float32_ok a2 r1 hf1) (and_all (lts0_map (f := f32) (fun _ => rfl) _) rfl) (and_all (noss_map (f := f32) (fun _ => rfl) _) rfl) rfl (by decide) (ns_of ⟨⟨_, rfl⟩, trivial⟩)) <|
  (TR.l (r := agg [i64 a0, i64 a1, oref 1 1 0 r1.length]) rfl rfl (LOp.build (qs := [(0, [i64 a0]), (1, [i64 a1]), (2, [oref 1 1 0 r1.length])]) zer26 zok26 und26 plc26 rfl ⟨rfl, ⟨_, ALe.refl _, rfl⟩, ⟨rfl, ⟨_, ALe.refl _, rfl⟩, ⟨rfl, ⟨_, ALe.refl _, rfl⟩, trivial⟩⟩⟩ rfl) <|
  TR.nil)))))))) rfl (by kernel_rfl) rfl (fills_of (by show List.Nodup [1]; decide) ⟨⟨_, rfl⟩, trivial⟩) rfl ?_
 iterate 8 refine ROps.dropS ?_
 refine ROps.drop0 ?_
 refine ROps.store_le (r := agg [i64 a0, i64 a1, oref 1 1 0 r1.length]) (l' := [i64 a0, i64 a1, oref 1 1 0 r1.length]) (Γ' := [⟨1, some [i64 a0, i64 a1, oref 1 1 0 r1.length]⟩, ⟨1, some (r1.map f32)⟩]) rfl siz26 rfl rfl rfl aR rfl rfl rfl rfl (Nat.le_of_ble_eq_true rfl) rfl rfl ?_
 refine zN ?_
 refine RunC.ret ?_
 have hq := Option.some.inj h
 obtain ⟨hq0, hq⟩ := Prod.mk.inj hq
 obtain ⟨hq1, hq⟩ := Prod.mk.inj hq
 subst q0
 subst q1
 subst q2
 exact bodyQ.mk (r' := agg [i64 a0, i64 a1, oref 1 1 0 r1.length]) [(1, 1)] (.inr rfl) rfl (show List.Nodup [1] from by decide) rfl rfl (Res.one rfl (RV.cell agg26 siz26 rfl rfl rfl rfl)) (SelL.arr0 (f := f32) (fun _ => rfl) rfl trivial)
noncomputable def i_newMatrix (a0 : Int) (a1 : Int) : Option (Int × Int × (List F)) :=
 olet (IntKind.i64.wrap (a0 * a1)) fun (x1 : Int) =>
 need (mkok 4 x1) <|
 some (a0, a1, (List.replicate x1.toNat (some 0)))
theorem i_newMatrix_ok (a0 : Int) (a1 : Int) (q0 : Int) (q1 : Int) (q2 : List F) (h : i_newMatrix a0 a1 = some (q0, q1, q2)) : Ev Tryz.prog 70 [i64 a0, i64 a1] [] (agg [i64 q0, i64 q1, oref 0 0 0 q2.length]) [⟨0, some (q2.map f32)⟩] := by
 refine Ev.start Tryz.func70 rfl rfl 2 (τ := [(0, i64 a0), (1, i64 a1)]) rfl (Γ' := [⟨0, none⟩, ⟨0, none⟩]) rfl (n := 25) rfl (g := 0) rfl (fun _ => rfl) ?_
 unfold i_newMatrix at h
 refine zQ ?_
 refine ROps.d (r := optr 0 1 0) (fs := [(0, [i64 0, i64 0, nilsl])]) (Γ' := [⟨1, some [i64 0, i64 0, nilsl]⟩, ⟨0, none⟩]) rfl rfl rfl (TOp.alloc_o (g := ⟨0, none⟩) 0 rfl zer26 zok26 rfl) rfl ?_
 refine zN ?_
 refine RunC.seq ?_
 obtain ⟨x1, hx1, h⟩ := olet_some h
 obtain ⟨hm2, h⟩ := need_some h
 refine RunC.regionW ?_
 refine zM (r := i64 a0) rfl rfl rfl rfl rfl ?_
 refine zM (r := i64 a1) rfl rfl rfl rfl rfl ?_
 refine zM (r := i64 a0) rfl rfl rfl rfl rfl ?_
 refine zM (r := i64 a1) rfl rfl rfl rfl rfl ?_
 refine zL (r := i64 x1) rfl rfl rfl (LOp.eqr (LOp.mul rfl rfl rfl) (congrArg (ik .i64) hx1)) ?_
 refine ROps.d (r := oref 1 1 0 x1.toNat) (fs := [(1, ((List.replicate x1.toNat (some 0)).map f32))]) (Γ' := [⟨1, some [i64 0, i64 0, nilsl]⟩, ⟨1, some ((List.replicate x1.toNat (some 0)).map f32)⟩]) rfl rfl rfl (TOp.mkS (g := ⟨0, none⟩) (t := 22) (e := 33) (by_ := 4) (f := f32) (zv := some 0) 1 rfl und22 tin33 rfl siz33 zer33 rfl zel33 rfl rfl rfl hm2) rfl ?_
 refine zL (r := agg [i64 a0, i64 a1, oref 1 1 0 x1.toNat]) rfl rfl rfl (LOp.build (qs := [(0, [i64 a0]), (1, [i64 a1]), (2, [oref 1 1 0 x1.toNat])]) zer26 zok26 und26 plc26 rfl ⟨rfl, ⟨_, ALe.refl _, rfl⟩, ⟨rfl, ⟨_, ALe.refl _, rfl⟩, ⟨rfl, ⟨_, ALe.refl _, rfl⟩, trivial⟩⟩⟩ rfl) ?_
 refine ROps.store_le (r := agg [i64 a0, i64 a1, oref 1 1 0 x1.toNat]) (l' := [i64 a0, i64 a1, oref 1 1 0 x1.toNat]) (Γ' := [⟨1, some [i64 a0, i64 a1, oref 1 1 0 x1.toNat]⟩, ⟨1, some ((List.replicate x1.toNat (some 0)).map f32)⟩]) rfl siz26 rfl rfl rfl aR rfl rfl rfl rfl (Nat.le_of_ble_eq_true rfl) rfl rfl ?_
 refine zN ?_
 refine RunC.ret ?_
 have hq := Option.some.inj h
 obtain ⟨hq0, hq⟩ := Prod.mk.inj hq
 obtain ⟨hq1, hq⟩ := Prod.mk.inj hq
 subst q0
 subst q1
 subst q2
 exact bodyQ.mk (r' := agg [i64 a0, i64 a1, oref 1 1 0 ((List.replicate x1.toNat (some 0)).length)]) [(1, 1)] (.inr rfl) rfl (show List.Nodup [1] from by decide) rfl rfl (Res.eq (Res.one rfl (RV.cell agg26 siz26 rfl rfl rfl rfl)) (by rw [(show (List.replicate x1.toNat (some 0)).length = x1.toNat from by simp)] <;> rfl)) (SelL.arr0 (f := f32) (fun _ => rfl) rfl trivial)
noncomputable def i_unit_1 (a0 : Int) (a1 : Int) : Option (F) :=
 bsel (decide (a0 = a1)) (
  some (some 1065353216)) (
  some (some 0))
theorem i_unit_1_ok (a0 : Int) (a1 : Int) (q0 : F) (h : i_unit_1 a0 a1 = some q0) : Ev Tryz.prog 98 [i64 a0, i64 a1] [] (f32 q0) [] := by
 refine Ev.start Tryz.func98 rfl rfl 0 (τ := [(0, i64 a0), (1, i64 a1)]) rfl (Γ' := []) rfl (n := 17) rfl (g := 0) rfl (fun _ => rfl) ?_
 unfold i_unit_1 at h
 refine zQ ?_
 refine zL (r := f32 (some 0)) rfl rfl rfl (LOp.le (LOp.assign rfl rfl) (ALe.fl (by kernel_rfl) (by kernel_rfl))) ?_
 refine zN ?_
 refine RunC.seq ?_
 refine RunC.seq ?_
 rcases bsel_some h with ⟨hc1, h⟩ | ⟨hc1, h⟩
 ·refine RunC.regionW ?_
  refine zM (r := i64 a0) rfl rfl rfl rfl rfl ?_
  refine zM (r := i64 a1) rfl rfl rfl rfl rfl ?_
  refine zL (r := b true) rfl rfl rfl (LOp.eqb (LOp.eql rfl rfl rfl) hc1) ?_
  refine zN ?_
  refine RunC.cond_true rfl rfl ?_
  refine zQ ?_
  refine zL (r := f32 (some 1065353216)) rfl rfl rfl (LOp.le (LOp.assign rfl rfl) (ALe.fl (by kernel_rfl) (by kernel_rfl))) ?_
  refine zN ?_
  refine RunC.ret ?_
  have hq := Option.some.inj h
  subst q0
  exact bodyQ.pure (.inr rfl) rfl (Res.one rfl (RV.tmp rfl))
 ·refine RunC.regionW ?_
  refine zM (r := i64 a0) rfl rfl rfl rfl rfl ?_
  refine zM (r := i64 a1) rfl rfl rfl rfl rfl ?_
  refine zL (r := b false) rfl rfl rfl (LOp.eqb (LOp.eql rfl rfl rfl) hc1) ?_
  refine zN ?_
  refine RunC.cond_false rfl rfl ?_
  refine RunC.skip ?_
  refine zQ ?_
  refine zL (r := f32 (some 0)) rfl rfl rfl (LOp.le (LOp.assign rfl rfl) (ALe.fl (by kernel_rfl) (by kernel_rfl))) ?_
  refine zN ?_
  refine RunC.ret ?_
  have hq := Option.some.inj h
  subst q0
  exact bodyQ.pure (.inr rfl) rfl (Res.one rfl (RV.tmp rfl))
noncomputable def i_Matrix_set_02o (a0 : Int) (a1 : Int) (a2 : Int) (a3 : Int) (a4 : F) (a5 : List F) : Option ((List F)) :=
 olet (IntKind.i64.wrap (a2 * a1)) fun (x1 : Int) =>
 olet (IntKind.i64.wrap (x1 + a3)) fun (x2 : Int) =>
 obind (setAt? a5 x2 a4) fun (L3 : List F) =>
 some L3
theorem i_Matrix_set_02o_ok (a0 : Int) (a1 : Int) (a2 : Int) (a3 : Int) (a4 : F) (a5 : List F) (q0 : List F) (h : i_Matrix_set_02o a0 a1 a2 a3 a4 a5 = some q0) : Ev Tryz.prog 71 [agg [i64 a0, i64 a1, oref 0 0 0 a5.length], i64 a2, i64 a3, f32 a4] [⟨0, some (a5.map f32)⟩] (tup []) [⟨0, some (q0.map f32)⟩] := by
 refine Ev.start Tryz.func71 rfl rfl 0 (τ := [(0, agg [i64 a0, i64 a1, oref 0 0 0 a5.length]), (1, i64 a2), (2, i64 a3), (3, f32 a4)]) rfl (Γ' := [⟨0, some (a5.map f32)⟩]) rfl (n := 36) rfl (g := 1) rfl (by decide) ?_
 unfold i_Matrix_set_02o at h
 refine zQ ?_
 refine ROps.d (r := ptr [i64 a0, i64 a1, oref 0 0 0 a5.length]) (fs := []) (Γ' := [⟨0, some (a5.map f32)⟩]) rfl rfl rfl (TOp.box_s rfl rfl rfl) rfl ?_
 refine zN ?_
 obtain ⟨x1, hx1, h⟩ := olet_some h
 obtain ⟨x2, hx2, h⟩ := olet_some h
 obtain ⟨L3, he3, h⟩ := obind_some h
 refine RunC.regionW ?_
 refine zL (r := ptr [oref 0 0 0 a5.length]) rfl rfl rfl (LOp.fap und26 rfl siz22 rfl rfl rfl) ?_
 refine zL (r := oref 0 0 0 a5.length) rfl rfl rfl (LOp.load1 agg22 rfl rfl) ?_
 refine zM (r := i64 a2) rfl rfl rfl rfl rfl ?_
 refine zL (r := ptr [i64 a1, oref 0 0 0 a5.length]) rfl rfl rfl (LOp.fap und26 rfl siz2 rfl rfl rfl) ?_
 refine zL (r := i64 a1) rfl rfl rfl (LOp.load1 agg2 rfl rfl) ?_
 refine zL (r := i64 x1) rfl rfl rfl (LOp.eqr (LOp.mul rfl rfl rfl) (congrArg (ik .i64) hx1)) ?_
 refine zM (r := i64 a3) rfl rfl rfl rfl rfl ?_
 refine zL (r := i64 x2) rfl rfl rfl (LOp.eqr (LOp.add rfl rfl rfl) (congrArg (ik .i64) hx2)) ?_
 refine zM (r := f32 a4) rfl rfl rfl rfl rfl ?_
 refine ROps.d (r := optr 0 0 x2.toNat) (fs := []) (Γ' := [⟨0, some (a5.map f32)⟩]) rfl rfl rfl (TOp.ixo und22 siz33 rfl rfl rfl (set_in he3 rfl) rfl) rfl ?_
 refine ROps.st (f := f32) (i := x2) (Γ' := [⟨0, some (L3.map f32)⟩]) rfl siz33 rfl rfl rfl aR rfl rfl rfl he3 rfl ?_
 refine zN ?_
 have hq := Option.some.inj h
 subst q0
 exact bodyQ.mk (r' := tup []) [(0, 0)] (.inl rfl) rfl (show List.Nodup [0] from by decide) rfl rfl (Res.zero rfl) (SelL.arr (f := f32) (fun _ => rfl) rfl trivial)
noncomputable def i_made_2Fi_unit_1_b2 (a1 : Int) (r1 : Int) (r2 : Int) (r3 : List F) (v6 : Int) (L7 : List F) (v9 : Int) : Option (LR ((List F) × Int) ((List F)) (Int × Int × (List F))) :=
 bsel (decide (v9 < a1)) (
  obind (i_unit_1 v6 v9) fun (r11 : F) =>
  obind (i_Matrix_set_02o r1 r2 v6 v9 r11 L7) fun (r12 : List F) =>
  need (decide (r12.length = r3.length)) <|
  olet (IntKind.i64.wrap (v9 + 1)) fun (x13 : Int) =>
  some (LR.next (r12, x13))) (
  some (LR.out L7))
noncomputable def i_made_2Fi_unit_1_s2 (a1 : Int) (r1 : Int) (r2 : Int) (r3 : List F) (v6 : Int) : ((List F) × Int) → Option (LR ((List F) × Int) ((List F)) (Int × Int × (List F))) := fun s => i_made_2Fi_unit_1_b2 a1 r1 r2 r3 v6 s.1 s.2
noncomputable def i_made_2Fi_unit_1_k2 (v6 : Int) (L14 : List F) : Option (LR ((List F) × Int) ((List F)) (Int × Int × (List F))) :=
 olet (IntKind.i64.wrap (v6 + 1)) fun (x16 : Int) =>
 some (LR.next (L14, x16))
noncomputable def i_made_2Fi_unit_1_b3 (a0 : Int) (a1 : Int) (r1 : Int) (r2 : Int) (r3 : List F) (L4 : List F) (v6 : Int) : Option (LR ((List F) × Int) ((List F)) (Int × Int × (List F))) :=
 bsel (decide (v6 < a0)) (
  obind (loopM (i_made_2Fi_unit_1_s2 a1 r1 r2 r3 v6) (L4, 0)) fun z => osum z (fun e => i_made_2Fi_unit_1_k2 v6 e) (fun r => some (LR.ret r))) (
  some (LR.out L4))
noncomputable def i_made_2Fi_unit_1_s3 (a0 : Int) (a1 : Int) (r1 : Int) (r2 : Int) (r3 : List F) : ((List F) × Int) → Option (LR ((List F) × Int) ((List F)) (Int × Int × (List F))) := fun s => i_made_2Fi_unit_1_b3 a0 a1 r1 r2 r3 s.1 s.2
noncomputable def i_made_2Fi_unit_1_k3 (r1 : Int) (r2 : Int) (L17 : List F) : Option (Int × Int × (List F)) :=
 some (r1, r2, L17)
noncomputable def i_made_2Fi_unit_1 (a0 : Int) (a1 : Int) : Option (Int × Int × (List F)) :=
 obind3 (i_newMatrix a0 a1) fun (r1 : Int) (r2 : Int) (r3 : List F) =>
 obind (loopM (i_made_2Fi_unit_1_s3 a0 a1 r1 r2 r3) (r3, 0)) fun z => osum z (fun e => i_made_2Fi_unit_1_k3 r1 r2 e) (fun r => some r)
theorem i_made_2Fi_unit_1_ok (a0 : Int) (a1 : Int) (q0 : Int) (q1 : Int) (q2 : List F) (h : i_made_2Fi_unit_1 a0 a1 = some (q0, q1, q2)) : Ev Tryz.prog 32 [i64 a0, i64 a1, fn (.func 98) [] []] [] (agg [i64 q0, i64 q1, oref 0 0 0 q2.length]) [⟨0, some (q2.map f32)⟩] := by
 refine Ev.start Tryz.func32 rfl rfl 3 (τ := [(0, i64 a0), (1, i64 a1), (2, fn (.func 98) [] [])]) rfl (Γ' := [⟨0, none⟩, ⟨0, none⟩, ⟨0, none⟩]) rfl (n := 65) rfl (g := 0) rfl (fun _ => rfl) ?_
 unfold i_made_2Fi_unit_1 at h
 refine zQ ?_
 refine ROps.d (r := optr 0 1 0) (fs := [(0, [i64 0, i64 0, nilsl])]) (Γ' := [⟨1, some [i64 0, i64 0, nilsl]⟩, ⟨0, none⟩, ⟨0, none⟩]) rfl rfl rfl (TOp.alloc_o (g := ⟨0, none⟩) 0 rfl zer26 zok26 rfl) rfl ?_
 refine zN ?_
 refine RunC.seq ?_
 obtain ⟨r1, r2, r3, hf1, h⟩ := obind3_some h
 refine RunC.regionW ?_
 refine zM (r := i64 a0) rfl rfl rfl rfl rfl ?_
 refine zM (r := i64 a1) rfl rfl rfl rfl rfl ?_
 refine ROps.d (r := agg [i64 r1, i64 r2, oref 1 1 0 r3.length]) (fs := [(1, (r3.map f32))]) (Γ' := [⟨1, some [i64 0, i64 0, nilsl]⟩, ⟨1, some (r3.map f32)⟩, ⟨0, none⟩]) rfl rfl rfl (TOp.callBN (ls := [(r3.map f32)]) [1] (CallAs.func ent70 rfl rfl) (Bors.cons (Bor.pure rfl) (Bors.cons (Bor.pure rfl) Bors.nil)) rfl (i_newMatrix_ok a0 a1 r1 r2 r3 hf1) (and_all (lts0_map (f := f32) (fun _ => rfl) _) rfl) (and_all (noss_map (f := f32) (fun _ => rfl) _) rfl) rfl (by decide) (ns_of ⟨⟨_, rfl⟩, trivial⟩)) rfl ?_
 refine ROps.d (r := optr 2 1 0) (fs := [(2, [i64 0, i64 0, nilsl])]) (Γ' := [⟨1, some [i64 0, i64 0, nilsl]⟩, ⟨1, some (r3.map f32)⟩, ⟨1, some [i64 0, i64 0, nilsl]⟩]) rfl rfl rfl (TOp.alloc_o (g := ⟨0, none⟩) 2 rfl zer26 zok26 rfl) rfl ?_
 refine ROps.store_le (r := agg [i64 r1, i64 r2, oref 1 1 0 r3.length]) (l' := [i64 r1, i64 r2, oref 1 1 0 r3.length]) (Γ' := [⟨1, some [i64 0, i64 0, nilsl]⟩, ⟨1, some (r3.map f32)⟩, ⟨1, some [i64 r1, i64 r2, oref 1 1 0 r3.length]⟩]) rfl siz26 rfl rfl rfl aR rfl rfl rfl rfl (Nat.le_of_ble_eq_true rfl) rfl rfl ?_
 refine zN ?_
 refine RunC.seq ?_
 refine zQ ?_
 refine zM (r := i64 a0) rfl rfl rfl rfl rfl ?_
 refine zM (r := i64 0) rfl rfl rfl rfl rfl ?_
 refine zN ?_
 obtain ⟨z4, hz_4, h⟩ := obind_some h
 refine RunC.cutN (fun τ Γ => ∃ (L17 : List F), L17.length = r3.length ∧ WeakLe τ [(6, optr 0 1 0), (7, optr 2 1 0)] ∧ DeadLe Γ [⟨1, some [i64 0, i64 0, nilsl]⟩, ⟨1, some (L17.map f32)⟩, ⟨1, some [i64 r1, i64 r2, oref 1 1 0 r3.length]⟩] ∧ z4 = .inl L17) ?_ ?_
 ·refine RunC.block (RunC.loop (RunL.loopM (x := z4) (i_made_2Fi_unit_1_s3 a0 a1 r1 r2 r3) (fun (s : (List F) × Int) τ Γ => s.1.length = r3.length ∧ WeakLe τ [(1, i64 a1), (2, fn (.func 98) [] []), (6, optr 0 1 0), (7, optr 2 1 0), (13, i64 a0), (14, i64 s.2)] ∧ DeadLe Γ [⟨1, some [i64 0, i64 0, nilsl]⟩, ⟨1, some (s.1.map f32)⟩, ⟨1, some [i64 r1, i64 r2, oref 1 1 0 r3.length]⟩]) ?_ _ _ _ hz_4 ⟨rfl, ⟨aR, aR, aR, aR, aR, aR, trivial⟩, ⟨⟨rfl, .inr rfl⟩, ⟨rfl, .inr rfl⟩, ⟨rfl, .inr rfl⟩, trivial⟩⟩))
  rintro ⟨L4, v6⟩ τ4 Γ4 y4_ ⟨hl5, hw4, hd4⟩ h4_ ho4 hr4
  refine RunC.wl (τ' := [(1, i64 a1), (2, fn (.func 98) [] []), (6, optr 0 1 0), (7, optr 2 1 0), (13, i64 a0), (14, i64 v6)]) (Γ' := [⟨1, some [i64 0, i64 0, nilsl]⟩, ⟨1, some (L4.map f32)⟩, ⟨1, some [i64 r1, i64 r2, oref 1 1 0 r3.length]⟩]) hw4 hd4 ?_
  replace hl5 : L4.length = r3.length := hl5
  replace h4_ : i_made_2Fi_unit_1_b3 a0 a1 r1 r2 r3 L4 v6 = some y4_ := h4_
  unfold i_made_2Fi_unit_1_b3 at h4_
  refine RunC.seq ?_
  rcases bsel_some h4_ with ⟨hc2, h4_⟩ | ⟨hc2, h4_⟩
  ·refine RunC.regionW ?_
   refine zL (r := b true) rfl rfl rfl (LOp.eqb (LOp.lss rfl rfl rfl) hc2) ?_
   refine zN ?_
   refine RunC.seq ?_
   refine RunC.cond_true rfl rfl ?_
   refine RunC.skip ?_
   refine RunC.seq ?_
   refine RunC.block ?_
   refine zQ ?_
   refine zM (r := i64 v6) rfl rfl rfl rfl rfl ?_
   refine zA (r := i64 v6) rfl rfl rfl rfl rfl ?_
   refine zN ?_
   refine zQ ?_
   refine zM (r := i64 a1) rfl rfl rfl rfl rfl ?_
   refine zM (r := i64 0) rfl rfl rfl rfl rfl ?_
   refine zN ?_
   obtain ⟨z5, hz_5, h4_⟩ := obind_some h4_
   refine RunC.cutN (fun τ Γ => ∃ (L14 : List F), L14.length = r3.length ∧ WeakLe τ [(1, i64 a1), (2, fn (.func 98) [] []), (6, optr 0 1 0), (7, optr 2 1 0), (13, i64 a0), (14, i64 v6)] ∧ DeadLe Γ [⟨1, some [i64 0, i64 0, nilsl]⟩, ⟨1, some (L14.map f32)⟩, ⟨1, some [i64 r1, i64 r2, oref 1 1 0 r3.length]⟩] ∧ z5 = .inl L14) ?_ ?_
   ·refine RunC.block (RunC.loop (RunL.loopM (x := z5) (i_made_2Fi_unit_1_s2 a1 r1 r2 r3 v6) (fun (s : (List F) × Int) τ Γ => s.1.length = r3.length ∧ WeakLe τ [(1, i64 a1), (2, fn (.func 98) [] []), (6, optr 0 1 0), (7, optr 2 1 0), (8, i64 v6), (13, i64 a0), (14, i64 v6), (17, i64 a1), (18, i64 s.2)] ∧ DeadLe Γ [⟨1, some [i64 0, i64 0, nilsl]⟩, ⟨1, some (s.1.map f32)⟩, ⟨1, some [i64 r1, i64 r2, oref 1 1 0 r3.length]⟩]) ?_ _ _ _ hz_5 ⟨hl5, ⟨aR, aR, aR, aR, aR, aR, aR, aR, aR, trivial⟩, ⟨⟨rfl, .inr rfl⟩, ⟨rfl, .inr rfl⟩, ⟨rfl, .inr rfl⟩, trivial⟩⟩))
    rintro ⟨L7, v9⟩ τ5 Γ5 y5_ ⟨hl8, hw5, hd5⟩ h5_ ho5 hr5
    refine RunC.wl (τ' := [(1, i64 a1), (2, fn (.func 98) [] []), (6, optr 0 1 0), (7, optr 2 1 0), (8, i64 v6), (13, i64 a0), (14, i64 v6), (17, i64 a1), (18, i64 v9)]) (Γ' := [⟨1, some [i64 0, i64 0, nilsl]⟩, ⟨1, some (L7.map f32)⟩, ⟨1, some [i64 r1, i64 r2, oref 1 1 0 r3.length]⟩]) hw5 hd5 ?_
    replace hl8 : L7.length = r3.length := hl8
    replace h5_ : i_made_2Fi_unit_1_b2 a1 r1 r2 r3 v6 L7 v9 = some y5_ := h5_
    unfold i_made_2Fi_unit_1_b2 at h5_
    refine RunC.seq ?_
    rcases bsel_some h5_ with ⟨hc3, h5_⟩ | ⟨hc3, h5_⟩
    ·refine RunC.regionW ?_
     refine zL (r := b true) rfl rfl rfl (LOp.eqb (LOp.lss rfl rfl rfl) hc3) ?_
     refine zN ?_
     refine RunC.seq ?_
     refine RunC.cond_true rfl rfl ?_
     refine RunC.skip ?_
     refine RunC.seq ?_
     refine RunC.block ?_
     refine zQ ?_
     refine zM (r := i64 v9) rfl rfl rfl rfl rfl ?_
     refine zA (r := i64 v9) rfl rfl rfl rfl rfl ?_
     refine zN ?_
     obtain ⟨r11, hf5, h5_⟩ := obind_some h5_
     obtain ⟨r12, hf6, h5_⟩ := obind_some h5_
     obtain ⟨hn7, h5_⟩ := need_some h5_
     refine RunC.region_draw (Γ' := [⟨1, some [i64 0, i64 0, nilsl]⟩, ⟨1, some (L7.map f32)⟩, ⟨1, some [i64 r1, i64 r2, oref 1 1 0 r3.length]⟩]) 7 mixed 
      (TR.d (r := agg [i64 r1, i64 r2, oref 1 1 0 r3.length]) (fs := []) rfl rfl (TOp.loadAgg_o rfl agg26 siz26 rfl rfl rfl rfl) <|
      (TR.l (r := i64 v6) rfl rfl (LOp.move rfl rfl) <|
      (TR.l (r := i64 v9) rfl rfl (LOp.move rfl rfl) <|
      (TR.l (r := fn (.func 98) [] []) rfl rfl (LOp.move rfl rfl) <|
      (TR.l (r := i64 v6) rfl rfl (LOp.move rfl rfl) <|
      (TR.l (r := i64 v9) rfl rfl (LOp.move rfl rfl) <|
      (TR.d (r := f32 r11) (fs := []) rfl rfl (TOp.callB (CallAs.fn ent98 rfl rfl rfl rfl) (Bors.cons (Bor.pure rfl) (Bors.cons (Bor.pure rfl) Bors.nil)) rfl rfl (i_unit_1_ok v6 v9 r11 hf5)) <|
      TR.nil))))))) rfl (by kernel_rfl) rfl fills_nil rfl ?_
     iterate 7 refine ROps.dropS ?_
     refine ROps.drop0 ?_
     refine ROps.callO (A := [agg [i64 r1, i64 r2, oref 1 1 0 r3.length], i64 v6, i64 v9, f32 r11]) (args := [agg [i64 r1, i64 r2, oref 0 0 0 L7.length], i64 v6, i64 v9, f32 r11]) (Γc := [⟨0, some (L7.map f32)⟩]) (Γc' := [⟨0, some (r12.map f32)⟩]) (r' := tup []) (Γ' := [⟨1, some [i64 0, i64 0, nilsl]⟩, ⟨1, some (r12.map f32)⟩, ⟨1, some [i64 r1, i64 r2, oref 1 1 0 r3.length]⟩]) [(1, 1)] [] rfl (CallAs.func ent71 rfl rfl) rfl rfl (SelOk.of (show List.Nodup [1] from by decide) (SelL.arr0 (f := f32) (fun _ => rfl) rfl trivial)) (live_of ⟨⟨_, _, rfl⟩, trivial⟩) (by simp [ren, rens, sigma, rens_f32, rens_f64, rens_i64, rens_ik, rens_str, rens_cp, hl8]) rfl (i_Matrix_set_02o_ok r1 r2 v6 v9 r11 L7 r12 hf6) rfl (news_of trivial) (show List.Nodup [1] from by decide) (by simp [ren, rens, sigma, of_decide_eq_true hn7]) (by simp [backOb, sigma, ren, rens, rens_f32, rens_f64, rens_i64, rens_ik, rens_str, rens_cp]) ?_
     refine zN ?_
     obtain ⟨x13, hx8, h5_⟩ := olet_some h5_
     refine RunC.regionW ?_
     refine zL (r := i64 x13) rfl rfl rfl (LOp.eqr (LOp.add rfl rfl rfl) (congrArg (ik .i64) hx8)) ?_
     refine zM (r := i64 x13) rfl rfl rfl rfl rfl ?_
     refine zN ?_
     cases Option.some.inj h5_
     exact ⟨_, rfl, (of_decide_eq_true hn7), ⟨aR, aR, aR, aR, aR, aR, aR, aR, aR, trivial⟩, ⟨⟨rfl, .inr rfl⟩, ⟨rfl, .inr rfl⟩, ⟨rfl, .inr rfl⟩, trivial⟩⟩
    ·refine RunC.regionW ?_
     refine zL (r := b false) rfl rfl rfl (LOp.eqb (LOp.lss rfl rfl rfl) hc3) ?_
     refine zN ?_
     refine RunC.seq ?_
     refine RunC.cond_false rfl rfl ?_
     refine RunC.exit ?_
     cases Option.some.inj h5_
     have hx := ho5 _ rfl
     exact ⟨L7, hl8, ⟨aR, aR, aR, aR, aR, aR, trivial⟩, ⟨⟨rfl, .inr rfl⟩, ⟨rfl, .inr rfl⟩, ⟨rfl, .inr rfl⟩, trivial⟩, hx⟩
   ·rintro τ6 Γ6 ⟨L14, hl15, hw6, hd6, rfl⟩
    refine RunC.wl hw6 hd6 ?_
    replace h4_ : i_made_2Fi_unit_1_k2 v6 L14 = some y4_ := h4_
    unfold i_made_2Fi_unit_1_k2 at h4_
    obtain ⟨x16, hx9, h4_⟩ := olet_some h4_
    refine RunC.regionW ?_
    refine zL (r := i64 x16) rfl rfl rfl (LOp.eqr (LOp.add rfl rfl rfl) (congrArg (ik .i64) hx9)) ?_
    refine zM (r := i64 x16) rfl rfl rfl rfl rfl ?_
    refine zN ?_
    cases Option.some.inj h4_
    exact ⟨_, rfl, hl15, ⟨aR, aR, aR, aR, aR, aR, trivial⟩, ⟨⟨rfl, .inr rfl⟩, ⟨rfl, .inr rfl⟩, ⟨rfl, .inr rfl⟩, trivial⟩⟩
  ·refine RunC.regionW ?_
   refine zL (r := b false) rfl rfl rfl (LOp.eqb (LOp.lss rfl rfl rfl) hc2) ?_
   refine zN ?_
   refine RunC.seq ?_
   refine RunC.cond_false rfl rfl ?_
   refine RunC.exit ?_
   cases Option.some.inj h4_
   have hx := ho4 _ rfl
   exact ⟨L4, hl5, ⟨aR, aR, trivial⟩, ⟨⟨rfl, .inr rfl⟩, ⟨rfl, .inr rfl⟩, ⟨rfl, .inr rfl⟩, trivial⟩, hx⟩
 ·rintro τ7 Γ7 ⟨L17, hl18, hw7, hd7, rfl⟩
  refine RunC.wl hw7 hd7 ?_
  replace h : i_made_2Fi_unit_1_k3 r1 r2 L17 = some (q0, q1, q2) := h
  unfold i_made_2Fi_unit_1_k3 at h
  refine zQ ?_
  refine ROps.d (r := agg [i64 r1, i64 r2, oref 1 1 0 r3.length]) (fs := []) (Γ' := [⟨1, some [i64 0, i64 0, nilsl]⟩, ⟨1, some (L17.map f32)⟩, ⟨1, some [i64 r1, i64 r2, oref 1 1 0 r3.length]⟩]) rfl rfl rfl (TOp.loadAgg_o rfl agg26 siz26 rfl rfl rfl rfl) rfl ?_
  refine ROps.store_le (r := agg [i64 r1, i64 r2, oref 1 1 0 r3.length]) (l' := [i64 r1, i64 r2, oref 1 1 0 r3.length]) (Γ' := [⟨1, some [i64 r1, i64 r2, oref 1 1 0 r3.length]⟩, ⟨1, some (L17.map f32)⟩, ⟨1, some [i64 r1, i64 r2, oref 1 1 0 r3.length]⟩]) rfl siz26 rfl rfl rfl aR rfl rfl rfl rfl (Nat.le_of_ble_eq_true rfl) rfl rfl ?_
  refine zN ?_
  refine RunC.ret ?_
  have hq := Option.some.inj h
  obtain ⟨hq0, hq⟩ := Prod.mk.inj hq
  obtain ⟨hq1, hq⟩ := Prod.mk.inj hq
  subst q0
  subst q1
  subst q2
  exact bodyQ.mk (r' := agg [i64 r1, i64 r2, oref 1 1 0 L17.length]) [(1, 1)] (.inr rfl) rfl (show List.Nodup [1] from by decide) rfl rfl (Res.eq (Res.one rfl (RV.cell agg26 siz26 rfl rfl rfl rfl)) (by rw [(show L17.length = r3.length from hl18)] <;> rfl)) (SelL.arr0 (f := f32) (fun _ => rfl) rfl trivial)
noncomputable def i_unit (a0 : Int) : Option (Int × Int × (List F)) :=
 obind3 (i_made_2Fi_unit_1 a0 a0) fun (r1 : Int) (r2 : Int) (r3 : List F) =>
 some (r1, r2, r3)
theorem i_unit_ok (a0 : Int) (q0 : Int) (q1 : Int) (q2 : List F) (h : i_unit a0 = some (q0, q1, q2)) : Ev Tryz.prog 59 [i64 a0] [] (agg [i64 q0, i64 q1, oref 0 0 0 q2.length]) [⟨0, some (q2.map f32)⟩] := by
 refine Ev.start Tryz.func59 rfl rfl 2 (τ := [(0, i64 a0)]) rfl (Γ' := [⟨0, none⟩, ⟨0, none⟩]) rfl (n := 13) rfl (g := 0) rfl (fun _ => rfl) ?_
 unfold i_unit at h
 refine zQ ?_
 refine ROps.d (r := optr 0 1 0) (fs := [(0, [i64 0, i64 0, nilsl])]) (Γ' := [⟨1, some [i64 0, i64 0, nilsl]⟩, ⟨0, none⟩]) rfl rfl rfl (TOp.alloc_o (g := ⟨0, none⟩) 0 rfl zer26 zok26 rfl) rfl ?_
 refine zN ?_
 refine RunC.seq ?_
 obtain ⟨r1, r2, r3, hf1, h⟩ := obind3_some h
 refine RunC.regionW ?_
 refine zM (r := i64 a0) rfl rfl rfl rfl rfl ?_
 refine zM (r := i64 a0) rfl rfl rfl rfl rfl ?_
 refine ROps.d (r := agg [i64 r1, i64 r2, oref 1 1 0 r3.length]) (fs := [(1, (r3.map f32))]) (Γ' := [⟨1, some [i64 0, i64 0, nilsl]⟩, ⟨1, some (r3.map f32)⟩]) rfl rfl rfl (TOp.callBN (ls := [(r3.map f32)]) [1] (CallAs.func ent32 rfl rfl) (Bors.cons (Bor.pure rfl) (Bors.cons (Bor.pure rfl) (Bors.cons (Bor.fn Bors.nil Bors.nil) Bors.nil))) rfl (i_made_2Fi_unit_1_ok a0 a0 r1 r2 r3 hf1) (and_all (lts0_map (f := f32) (fun _ => rfl) _) rfl) (and_all (noss_map (f := f32) (fun _ => rfl) _) rfl) rfl (by decide) (ns_of ⟨⟨_, rfl⟩, trivial⟩)) rfl ?_
 refine ROps.store_le (r := agg [i64 r1, i64 r2, oref 1 1 0 r3.length]) (l' := [i64 r1, i64 r2, oref 1 1 0 r3.length]) (Γ' := [⟨1, some [i64 r1, i64 r2, oref 1 1 0 r3.length]⟩, ⟨1, some (r3.map f32)⟩]) rfl siz26 rfl rfl rfl aR rfl rfl rfl rfl (Nat.le_of_ble_eq_true rfl) rfl rfl ?_
 refine zN ?_
 refine RunC.ret ?_
 have hq := Option.some.inj h
 obtain ⟨hq0, hq⟩ := Prod.mk.inj hq
 obtain ⟨hq1, hq⟩ := Prod.mk.inj hq
 subst q0
 subst q1
 subst q2
 exact bodyQ.mk (r' := agg [i64 r1, i64 r2, oref 1 1 0 r3.length]) [(1, 1)] (.inr rfl) rfl (show List.Nodup [1] from by decide) rfl rfl (Res.one rfl (RV.cell agg26 siz26 rfl rfl rfl rfl)) (SelL.arr0 (f := f32) (fun _ => rfl) rfl trivial)
noncomputable def i_Matrix_at (a0 : Int) (a1 : Int) (a2 : List F) (a3 : Int) (a4 : Int) : Option (F) :=
 olet (IntKind.i64.wrap (a3 * a1)) fun (x1 : Int) =>
 olet (IntKind.i64.wrap (x1 + a4)) fun (x2 : Int) =>
 obind (at? a2 x2) fun (e3 : F) =>
 some e3
theorem i_Matrix_at_ok (a0 : Int) (a1 : Int) (a2 : List F) (a3 : Int) (a4 : Int) (q0 : F) (h : i_Matrix_at a0 a1 a2 a3 a4 = some q0) : Ev Tryz.prog 35 [agg [i64 a0, i64 a1, sl a2.length (a2.map f32)], i64 a3, i64 a4] [] (f32 q0) [] := by
 refine Ev.start Tryz.func35 rfl rfl 0 (τ := [(0, agg [i64 a0, i64 a1, sl a2.length (a2.map f32)]), (1, i64 a3), (2, i64 a4)]) rfl (Γ' := []) rfl (n := 35) rfl (g := 0) rfl (fun _ => rfl) ?_
 unfold i_Matrix_at at h
 refine zQ ?_
 refine ROps.d (r := ptr [i64 a0, i64 a1, sl a2.length (a2.map f32)]) (fs := []) (Γ' := []) rfl rfl rfl (TOp.box_s rfl rfl rfl) rfl ?_
 refine zL (r := f32 (some 0)) rfl rfl rfl (LOp.le (LOp.assign rfl rfl) (ALe.fl (by kernel_rfl) (by kernel_rfl))) ?_
 refine zN ?_
 refine RunC.seq ?_
 obtain ⟨x1, hx1, h⟩ := olet_some h
 obtain ⟨x2, hx2, h⟩ := olet_some h
 obtain ⟨e3, he3, h⟩ := obind_some h
 refine RunC.regionW ?_
 refine zL (r := ptr [sl a2.length (a2.map f32)]) rfl rfl rfl (LOp.fap und26 rfl siz22 rfl rfl rfl) ?_
 refine zL (r := sl a2.length (a2.map f32)) rfl rfl rfl (LOp.load1 agg22 rfl rfl) ?_
 refine zM (r := i64 a3) rfl rfl rfl rfl rfl ?_
 refine zL (r := ptr [i64 a1, sl a2.length (a2.map f32)]) rfl rfl rfl (LOp.fap und26 rfl siz2 rfl rfl rfl) ?_
 refine zL (r := i64 a1) rfl rfl rfl (LOp.load1 agg2 rfl rfl) ?_
 refine zL (r := i64 x1) rfl rfl rfl (LOp.eqr (LOp.mul rfl rfl rfl) (congrArg (ik .i64) hx1)) ?_
 refine zM (r := i64 a4) rfl rfl rfl rfl rfl ?_
 refine zL (r := i64 x2) rfl rfl rfl (LOp.eqr (LOp.add rfl rfl rfl) (congrArg (ik .i64) hx2)) ?_
 refine zL (r := ptr [f32 e3]) rfl rfl rfl (LOp.le (LOp.ix (f := f32) und22 siz33 rfl rfl rfl rfl he3) ALe.ptr) ?_
 refine zL (r := f32 e3) rfl rfl rfl (LOp.load1 agg33 rfl rfl) ?_
 refine zA (r := f32 e3) rfl rfl rfl rfl rfl ?_
 refine zN ?_
 refine RunC.ret ?_
 have hq := Option.some.inj h
 subst q0
 exact bodyQ.pure (.inr rfl) rfl (Res.one rfl (RV.tmp rfl))
noncomputable def i_Matrix_column_b1 (a0 : Int) (a1 : Int) (a2 : List F) (a3 : Int) (L3 : List F) (v4 : Int) : Option (LR ((List F) × Int) ((List F)) ((List F))) :=
 bsel (decide (v4 < a0)) (
  obind (i_Matrix_at a0 a1 a2 v4 a3) fun (r5 : F) =>
  need (apok 4 L3.length 1) <|
  olet (IntKind.i64.wrap (v4 + 1)) fun (x6 : Int) =>
  some (LR.next ((L3 ++ ([r5] : List F)), x6))) (
  some (LR.out L3))
noncomputable def i_Matrix_column_s1 (a0 : Int) (a1 : Int) (a2 : List F) (a3 : Int) : ((List F) × Int) → Option (LR ((List F) × Int) ((List F)) ((List F))) := fun s => i_Matrix_column_b1 a0 a1 a2 a3 s.1 s.2
noncomputable def i_Matrix_column_k1 (L9 : List F) : Option ((List F)) :=
 some L9
noncomputable def i_Matrix_column (a0 : Int) (a1 : Int) (a2 : List F) (a3 : Int) : Option ((List F)) :=
 obind (loopM (i_Matrix_column_s1 a0 a1 a2 a3) (([] : List F), 0)) fun z => osum z (fun e => i_Matrix_column_k1 e) (fun r => some r)
theorem i_Matrix_column_ok (a0 : Int) (a1 : Int) (a2 : List F) (a3 : Int) (q0 : List F) (h : i_Matrix_column a0 a1 a2 a3 = some q0) : Ev Tryz.prog 60 [agg [i64 a0, i64 a1, sl a2.length (a2.map f32)], i64 a3] [] (oref 0 0 0 q0.length) [⟨0, some (q0.map f32)⟩] := by
 refine Ev.start Tryz.func60 rfl rfl 2 (τ := [(0, agg [i64 a0, i64 a1, sl a2.length (a2.map f32)]), (1, i64 a3)]) rfl (Γ' := [⟨0, none⟩, ⟨0, none⟩]) rfl (n := 45) rfl (g := 0) rfl (fun _ => rfl) ?_
 unfold i_Matrix_column at h
 refine zQ ?_
 refine ROps.d (r := ptr [i64 a0, i64 a1, sl a2.length (a2.map f32)]) (fs := []) (Γ' := [⟨0, none⟩, ⟨0, none⟩]) rfl rfl rfl (TOp.box_s rfl rfl rfl) rfl ?_
 refine zA (r := nilsl) rfl rfl rfl rfl rfl ?_
 refine zN ?_
 refine zQ ?_
 refine ROps.d (r := oref 0 1 0 0) (fs := [(0, (([] : List F).map f32))]) (Γ' := [⟨1, some (([] : List F).map f32)⟩, ⟨0, none⟩]) rfl rfl rfl (TOp.buildSlice_o (g := ⟨0, none⟩) (za := f32 (some 0)) (qs := []) 0 rfl und22 siz33 zer33 rfl zel33 rfl rfl trivial rfl) rfl ?_
 refine zA (r := oref 0 1 0 0) rfl rfl rfl rfl rfl ?_
 refine zN ?_
 refine RunC.seq ?_
 refine zQ ?_
 refine zL (r := ptr [i64 a0, i64 a1, sl a2.length (a2.map f32)]) rfl rfl rfl (LOp.fap und26 rfl siz2 rfl rfl rfl) ?_
 refine zL (r := i64 a0) rfl rfl rfl (LOp.load1 agg2 rfl rfl) ?_
 refine zM (r := i64 0) rfl rfl rfl rfl rfl ?_
 refine zN ?_
 obtain ⟨z2, hz_2, h⟩ := obind_some h
 refine RunC.cutN (fun τ Γ => ∃ (L9 : List F) (u7 : Nat) (u8 : Nat), WeakLe τ [(5, oref 0 u7 0 L9.length)] ∧ DeadLe Γ [⟨u7, some (L9.map f32)⟩, ⟨u8, none⟩] ∧ z2 = .inl L9) ?_ ?_
 ·refine RunC.block (RunC.loop (RunL.loopM (x := z2) (i_Matrix_column_s1 a0 a1 a2 a3) (fun (s : (List F) × Int) τ Γ => ∃ (u1 : Nat) (u2 : Nat), WeakLe τ [(1, i64 a3), (2, ptr [i64 a0, i64 a1, sl a2.length (a2.map f32)]), (5, oref 0 u1 0 s.1.length), (9, i64 a0), (10, i64 s.2)] ∧ DeadLe Γ [⟨u1, some (s.1.map f32)⟩, ⟨u2, none⟩]) ?_ _ _ _ hz_2 ⟨1, 0, ⟨aR, aR, aR, aR, aR, trivial⟩, ⟨⟨rfl, .inr rfl⟩, ⟨rfl, .inl rfl⟩, trivial⟩⟩))
  rintro ⟨L3, v4⟩ τ2 Γ2 y2_ ⟨u1, u2, hw2, hd2⟩ h2_ ho2 hr2
  refine RunC.wl (τ' := [(1, i64 a3), (2, ptr [i64 a0, i64 a1, sl a2.length (a2.map f32)]), (5, oref 0 u1 0 L3.length), (9, i64 a0), (10, i64 v4)]) (Γ' := [⟨u1, some (L3.map f32)⟩, ⟨u2, none⟩]) hw2 hd2 ?_
  replace h2_ : i_Matrix_column_b1 a0 a1 a2 a3 L3 v4 = some y2_ := h2_
  unfold i_Matrix_column_b1 at h2_
  refine RunC.seq ?_
  rcases bsel_some h2_ with ⟨hc1, h2_⟩ | ⟨hc1, h2_⟩
  ·refine RunC.regionW ?_
   refine zL (r := b true) rfl rfl rfl (LOp.eqb (LOp.lss rfl rfl rfl) hc1) ?_
   refine zN ?_
   refine RunC.seq ?_
   refine RunC.cond_true rfl rfl ?_
   refine RunC.skip ?_
   refine RunC.seq ?_
   refine RunC.block ?_
   refine zQ ?_
   refine zM (r := i64 v4) rfl rfl rfl rfl rfl ?_
   refine zA (r := i64 v4) rfl rfl rfl rfl rfl ?_
   refine zN ?_
   obtain ⟨r5, hf2, h2_⟩ := obind_some h2_
   obtain ⟨hm3, h2_⟩ := need_some h2_
   refine RunC.regionW ?_
   refine zM (r := oref 0 u1 0 L3.length) rfl rfl rfl rfl rfl ?_
   refine zL (r := agg [i64 a0, i64 a1, sl a2.length (a2.map f32)]) rfl rfl rfl (LOp.loadAgg agg26 siz26 rfl rfl rfl rfl) ?_
   refine zM (r := i64 v4) rfl rfl rfl rfl rfl ?_
   refine zM (r := i64 a3) rfl rfl rfl rfl rfl ?_
   refine ROps.d (r := f32 r5) (fs := []) (Γ' := [⟨u1, some (L3.map f32)⟩, ⟨u2, none⟩]) rfl rfl rfl (TOp.callB (CallAs.func ent35 rfl rfl) (Bors.cons (Bor.agg (Bors.cons (Bor.pure rfl) (Bors.cons (Bor.pure rfl) (Bors.cons (Bor.sl (fun _ => rfl)) Bors.nil)))) (Bors.cons (Bor.pure rfl) (Bors.cons (Bor.pure rfl) Bors.nil))) rfl rfl (i_Matrix_at_ok a0 a1 a2 v4 a3 r5 hf2)) rfl ?_
   refine ROps.d (r := oref 1 (u2 + 1) 0 1) (fs := [(1, (([r5] : List F).map f32))]) (Γ' := [⟨u1, some (L3.map f32)⟩, ⟨(u2 + 1), some (([r5] : List F).map f32)⟩]) rfl rfl rfl (TOp.buildSlice_o (g := ⟨u2, none⟩) (za := f32 (some 0)) (qs := [(0, [f32 r5])]) 1 rfl und22 siz33 zer33 rfl zel33 rfl rfl ⟨rfl, ⟨_, ALe.refl _, rfl⟩, trivial⟩ rfl) rfl ?_
   refine ROps.app (f := f32) (xs := L3) (ys := ([r5] : List F)) (Γ' := [⟨(u1 + 1), some ((L3 ++ ([r5] : List F)).map f32)⟩, ⟨(u2 + 1), some (([r5] : List F).map f32)⟩]) rfl pun22 inf33 rfl rfl rfl rfl rfl rfl rfl rfl rfl (by simp) (ReadAs.own rfl (by simp)) (ones_map (fun _ => rfl)) (ap_by hm3) (ap_mx hm3) rfl ?_
   refine zA (r := oref 0 (u1 + 1) 0 (L3.length + 1)) rfl rfl rfl rfl rfl ?_
   refine zN ?_
   refine RunC.wl (τ' := [(1, i64 a3), (2, ptr [i64 a0, i64 a1, sl a2.length (a2.map f32)]), (5, oref 0 (u1 + 1) 0 (L3.length + 1)), (9, i64 a0), (10, i64 v4)]) (Γ' := [⟨(u1 + 1), some ((L3 ++ ([r5] : List F)).map f32)⟩, ⟨(u2 + 1), none⟩]) ⟨aR, aR, aR, aR, aR, trivial⟩ ⟨⟨rfl, .inr rfl⟩, ⟨rfl, .inl rfl⟩, trivial⟩ ?_
   obtain ⟨x6, hx4, h2_⟩ := olet_some h2_
   refine RunC.regionW ?_
   refine zL (r := i64 x6) rfl rfl rfl (LOp.eqr (LOp.add rfl rfl rfl) (congrArg (ik .i64) hx4)) ?_
   refine zM (r := i64 x6) rfl rfl rfl rfl rfl ?_
   refine zN ?_
   cases Option.some.inj h2_
   exact ⟨_, rfl, (u1 + 1), (u2 + 1), ⟨aR, aR, (ALe.eq (by rw [(app_len rfl rfl)] <;> rfl)), aR, aR, trivial⟩, ⟨⟨rfl, .inr rfl⟩, ⟨rfl, .inl rfl⟩, trivial⟩⟩
  ·refine RunC.regionW ?_
   refine zL (r := b false) rfl rfl rfl (LOp.eqb (LOp.lss rfl rfl rfl) hc1) ?_
   refine zN ?_
   refine RunC.seq ?_
   refine RunC.cond_false rfl rfl ?_
   refine RunC.exit ?_
   cases Option.some.inj h2_
   have hx := ho2 _ rfl
   exact ⟨L3, u1, u2, ⟨aR, trivial⟩, ⟨⟨rfl, .inr rfl⟩, ⟨rfl, .inl rfl⟩, trivial⟩, hx⟩
 ·rintro τ3 Γ3 ⟨L9, u7, u8, hw3, hd3, rfl⟩
  refine RunC.wl hw3 hd3 ?_
  replace h : i_Matrix_column_k1 L9 = some q0 := h
  unfold i_Matrix_column_k1 at h
  refine zQ ?_
  refine zM (r := oref 0 u7 0 L9.length) rfl rfl rfl rfl rfl ?_
  refine zA (r := oref 0 u7 0 L9.length) rfl rfl rfl rfl rfl ?_
  refine zN ?_
  refine RunC.ret ?_
  have hq := Option.some.inj h
  subst q0
  exact bodyQ.mk (r' := oref 0 u7 0 L9.length) [(0, u7)] (.inr rfl) rfl (show List.Nodup [0] from by decide) (by simp [ren, rens, sigma]) rfl (Res.one rfl (RV.tmp rfl)) (SelL.arr0 (f := f32) (fun _ => rfl) rfl trivial)
noncomputable def i_mul (a0 : F) (a1 : F) : Option (F) :=
 olet (fop .mul .f32 a0 a1) fun (x1 : F) =>
 some x1
theorem i_mul_ok (a0 : F) (a1 : F) (q0 : F) (h : i_mul a0 a1 = some q0) : Ev Tryz.prog 34 [f32 a0, f32 a1] [] (f32 q0) [] := by
 refine Ev.start Tryz.func34 rfl rfl 0 (τ := [(0, f32 a0), (1, f32 a1)]) rfl (Γ' := []) rfl (n := 17) rfl (g := 0) rfl (fun _ => rfl) ?_
 unfold i_mul at h
 refine zQ ?_
 refine zL (r := f32 (some 0)) rfl rfl rfl (LOp.le (LOp.assign rfl rfl) (ALe.fl (by kernel_rfl) (by kernel_rfl))) ?_
 refine zN ?_
 refine RunC.seq ?_
 obtain ⟨x1, hx1, h⟩ := olet_some h
 refine RunC.regionW ?_
 refine zM (r := f32 a0) rfl rfl rfl rfl rfl ?_
 refine zM (r := f32 a1) rfl rfl rfl rfl rfl ?_
 refine ROps.d (r := f32 x1) (fs := []) (Γ' := []) rfl rfl rfl (TOp.eqr (TOp.fop (.inr (.inr (.inl rfl))) rfl (OpF.tmp rfl) (OpF.tmp rfl)) (congrArg (f .f32) hx1)) rfl ?_
 refine zA (r := f32 x1) rfl rfl rfl rfl rfl ?_
 refine zN ?_
 refine RunC.ret ?_
 have hq := Option.some.inj h
 subst q0
 exact bodyQ.pure (.inr rfl) rfl (Res.one rfl (RV.tmp rfl))
noncomputable def i_dot_b1 (a0 : List F) (a1 : List F) (y1 : F) (v2 : Int) : Option (LR (F × Int) (F) (F)) :=
 bsel (decide (v2 < (a0.length : Int))) (
  obind (at? a0 v2) fun (e3 : F) =>
  obind (at? a1 v2) fun (e4 : F) =>
  obind (i_mul e3 e4) fun (r5 : F) =>
  olet (fop .add .f32 y1 r5) fun (x6 : F) =>
  olet (IntKind.i64.wrap (v2 + 1)) fun (x7 : Int) =>
  some (LR.next (x6, x7))) (
  some (LR.out y1))
noncomputable def i_dot_s1 (a0 : List F) (a1 : List F) : (F × Int) → Option (LR (F × Int) (F) (F)) := fun s => i_dot_b1 a0 a1 s.1 s.2
noncomputable def i_dot_k1 (y8 : F) : Option (F) :=
 some y8
noncomputable def i_dot (a0 : List F) (a1 : List F) : Option (F) :=
 obind (loopM (i_dot_s1 a0 a1) (some 0, 0)) fun z => osum z (fun e => i_dot_k1 e) (fun r => some r)
theorem i_dot_ok (a0 : List F) (a1 : List F) (q0 : F) (h : i_dot a0 a1 = some q0) : Ev Tryz.prog 61 [sl a0.length (a0.map f32), sl a1.length (a1.map f32)] [] (f32 q0) [] := by
 refine Ev.start Tryz.func61 rfl rfl 0 (τ := [(0, sl a0.length (a0.map f32)), (1, sl a1.length (a1.map f32))]) rfl (Γ' := []) rfl (n := 51) rfl (g := 0) rfl (fun _ => rfl) ?_
 unfold i_dot at h
 refine zQ ?_
 refine zL (r := f32 (some 0)) rfl rfl rfl (LOp.le (LOp.assign rfl rfl) (ALe.fl (by kernel_rfl) (by kernel_rfl))) ?_
 refine zN ?_
 refine zQ ?_
 refine zL (r := f32 (some 0)) rfl rfl rfl (LOp.le (LOp.assign rfl rfl) (ALe.fl (by kernel_rfl) (by kernel_rfl))) ?_
 refine zN ?_
 refine RunC.seq ?_
 refine zQ ?_
 refine zM (r := sl a0.length (a0.map f32)) rfl rfl rfl rfl rfl ?_
 refine zL (r := i64 (a0.length : Int)) rfl rfl rfl (LOp.len_sl und22 rfl rfl) ?_
 refine zM (r := i64 0) rfl rfl rfl rfl rfl ?_
 refine zN ?_
 obtain ⟨z2, hz_2, h⟩ := obind_some h
 refine RunC.cutN (fun τ Γ => ∃ (y8 : F), WeakLe τ [(5, f32 y8)] ∧ DeadLe Γ [] ∧ z2 = .inl y8) ?_ ?_
 ·refine RunC.block (RunC.loop (RunL.loopM (x := z2) (i_dot_s1 a0 a1) (fun (s : F × Int) τ Γ => WeakLe τ [(1, sl a1.length (a1.map f32)), (5, f32 s.1), (8, sl a0.length (a0.map f32)), (9, i64 (a0.length : Int)), (10, i64 s.2)] ∧ DeadLe Γ []) ?_ _ _ _ hz_2 ⟨⟨aR, aR, aR, aR, aR, trivial⟩, trivial⟩))
  rintro ⟨y1, v2⟩ τ2 Γ2 y2_ ⟨hw2, hd2⟩ h2_ ho2 hr2
  refine RunC.wl (τ' := [(1, sl a1.length (a1.map f32)), (5, f32 y1), (8, sl a0.length (a0.map f32)), (9, i64 (a0.length : Int)), (10, i64 v2)]) (Γ' := []) hw2 hd2 ?_
  replace h2_ : i_dot_b1 a0 a1 y1 v2 = some y2_ := h2_
  unfold i_dot_b1 at h2_
  refine RunC.seq ?_
  rcases bsel_some h2_ with ⟨hc1, h2_⟩ | ⟨hc1, h2_⟩
  ·refine RunC.regionW ?_
   refine zL (r := b true) rfl rfl rfl (LOp.eqb (LOp.lss rfl rfl rfl) hc1) ?_
   refine zN ?_
   refine RunC.seq ?_
   refine RunC.cond_true rfl rfl ?_
   refine RunC.skip ?_
   refine RunC.seq ?_
   refine RunC.block ?_
   refine RunC.seq ?_
   obtain ⟨e3, he2, h2_⟩ := obind_some h2_
   refine RunC.regionW ?_
   refine zM (r := i64 v2) rfl rfl rfl rfl rfl ?_
   refine zL (r := ptr [f32 e3]) rfl rfl rfl (LOp.le (LOp.ix (f := f32) und22 siz33 rfl rfl rfl rfl he2) ALe.ptr) ?_
   refine zL (r := f32 e3) rfl rfl rfl (LOp.load1 agg33 rfl rfl) ?_
   refine zA (r := i64 v2) rfl rfl rfl rfl rfl ?_
   refine zA (r := f32 e3) rfl rfl rfl rfl rfl ?_
   refine zN ?_
   obtain ⟨e4, he3, h2_⟩ := obind_some h2_
   obtain ⟨r5, hf4, h2_⟩ := obind_some h2_
   obtain ⟨x6, hx5, h2_⟩ := olet_some h2_
   refine RunC.regionW ?_
   refine zM (r := f32 y1) rfl rfl rfl rfl rfl ?_
   refine zM (r := f32 e3) rfl rfl rfl rfl rfl ?_
   refine zM (r := sl a1.length (a1.map f32)) rfl rfl rfl rfl rfl ?_
   refine zM (r := i64 v2) rfl rfl rfl rfl rfl ?_
   refine zL (r := ptr [f32 e4]) rfl rfl rfl (LOp.le (LOp.ix (f := f32) und22 siz33 rfl rfl rfl rfl he3) ALe.ptr) ?_
   refine zL (r := f32 e4) rfl rfl rfl (LOp.load1 agg33 rfl rfl) ?_
   refine ROps.d (r := f32 r5) (fs := []) (Γ' := []) rfl rfl rfl (TOp.callB (CallAs.func ent34 rfl rfl) (Bors.cons (Bor.pure rfl) (Bors.cons (Bor.pure rfl) Bors.nil)) rfl rfl (i_mul_ok e3 e4 r5 hf4)) rfl ?_
   refine ROps.d (r := f32 x6) (fs := []) (Γ' := []) rfl rfl rfl (TOp.eqr (TOp.fop (.inl rfl) rfl (OpF.tmp rfl) (OpF.tmp rfl)) (congrArg (f .f32) hx5)) rfl ?_
   refine zA (r := f32 x6) rfl rfl rfl rfl rfl ?_
   refine zN ?_
   refine RunC.wl (τ' := [(1, sl a1.length (a1.map f32)), (5, f32 x6), (8, sl a0.length (a0.map f32)), (9, i64 (a0.length : Int)), (10, i64 v2)]) (Γ' := []) ⟨aR, aR, aR, aR, aR, trivial⟩ trivial ?_
   obtain ⟨x7, hx6, h2_⟩ := olet_some h2_
   refine RunC.regionW ?_
   refine zL (r := i64 x7) rfl rfl rfl (LOp.eqr (LOp.add rfl rfl rfl) (congrArg (ik .i64) hx6)) ?_
   refine zM (r := i64 x7) rfl rfl rfl rfl rfl ?_
   refine zN ?_
   cases Option.some.inj h2_
   exact ⟨_, rfl, ⟨aR, aR, aR, aR, aR, trivial⟩, trivial⟩
  ·refine RunC.regionW ?_
   refine zL (r := b false) rfl rfl rfl (LOp.eqb (LOp.lss rfl rfl rfl) hc1) ?_
   refine zN ?_
   refine RunC.seq ?_
   refine RunC.cond_false rfl rfl ?_
   refine RunC.exit ?_
   cases Option.some.inj h2_
   have hx := ho2 _ rfl
   exact ⟨y1, ⟨aR, trivial⟩, trivial, hx⟩
 ·rintro τ3 Γ3 ⟨y8, hw3, hd3, rfl⟩
  refine RunC.wl hw3 hd3 ?_
  replace h : i_dot_k1 y8 = some q0 := h
  unfold i_dot_k1 at h
  refine zQ ?_
  refine zM (r := f32 y8) rfl rfl rfl rfl rfl ?_
  refine zA (r := f32 y8) rfl rfl rfl rfl rfl ?_
  refine zN ?_
  refine RunC.ret ?_
  have hq := Option.some.inj h
  subst q0
  exact bodyQ.pure (.inr rfl) rfl (Res.one rfl (RV.tmp rfl))
noncomputable def i_absolute (a0 : F) : Option (F) :=
 olet (fwiden a0) fun (x1 : F) =>
 obind (x_math_Abs x1) fun (r2 : F) =>
 obind (fnarrow r2) fun (y3 : F) =>
 some y3
theorem i_absolute_ok (a0 : F) (q0 : F) (h : i_absolute a0 = some q0) : Ev Tryz.prog 83 [f32 a0] [] (f32 q0) [] := by
 refine Ev.start Tryz.func83 rfl rfl 0 (τ := [(0, f32 a0)]) rfl (Γ' := []) rfl (n := 15) rfl (g := 0) rfl (fun _ => rfl) ?_
 unfold i_absolute at h
 refine zQ ?_
 refine zL (r := f32 (some 0)) rfl rfl rfl (LOp.le (LOp.assign rfl rfl) (ALe.fl (by kernel_rfl) (by kernel_rfl))) ?_
 refine zN ?_
 refine RunC.seq ?_
 obtain ⟨x1, hx1, h⟩ := olet_some h
 obtain ⟨r2, hf2, h⟩ := obind_some h
 obtain ⟨y3, hy3, h⟩ := obind_some h
 refine RunC.regionW ?_
 refine zM (r := f32 a0) rfl rfl rfl rfl rfl ?_
 refine ROps.d (r := f64 x1) (fs := []) (Γ' := []) rfl rfl rfl (TOp.eqr (TOp.widen (src := 33) (dst := 37) ⟨_, pun33⟩ pun37 rfl (OpF.tmp rfl)) (congrArg (f .f64) hx1)) rfl ?_
 refine ROps.d (r := f64 r2) (fs := []) (Γ' := []) rfl rfl rfl (TOp.callB (CallAs.func ent120 rfl rfl) (Bors.cons (Bor.pure rfl) Bors.nil) rfl rfl (x_math_Abs_ok x1 r2 hf2)) rfl ?_
 refine ROps.d (r := f32 y3) (fs := []) (Γ' := []) rfl rfl rfl (TOp.narrow (src := 37) (dst := 33) ⟨_, pun37⟩ pun33 rfl (OpF.tmp rfl) hy3) rfl ?_
 refine zA (r := f32 y3) rfl rfl rfl rfl rfl ?_
 refine zN ?_
 refine RunC.ret ?_
 have hq := Option.some.inj h
 subst q0
 exact bodyQ.pure (.inr rfl) rfl (Res.one rfl (RV.tmp rfl))
noncomputable def i_RootNumber (a0 : F) : Option (F) :=
 olet (fwiden a0) fun (x1 : F) =>
 obind (x_math_Sqrt x1) fun (r2 : F) =>
 obind (fnarrow r2) fun (y3 : F) =>
 some y3
theorem i_RootNumber_ok (a0 : F) (q0 : F) (h : i_RootNumber a0 = some q0) : Ev Tryz.prog 101 [f32 a0] [] (f32 q0) [] := by
 refine Ev.start Tryz.func101 rfl rfl 0 (τ := [(0, f32 a0)]) rfl (Γ' := []) rfl (n := 15) rfl (g := 0) rfl (fun _ => rfl) ?_
 unfold i_RootNumber at h
 refine zQ ?_
 refine zL (r := f32 (some 0)) rfl rfl rfl (LOp.le (LOp.assign rfl rfl) (ALe.fl (by kernel_rfl) (by kernel_rfl))) ?_
 refine zN ?_
 refine RunC.seq ?_
 obtain ⟨x1, hx1, h⟩ := olet_some h
 obtain ⟨r2, hf2, h⟩ := obind_some h
 obtain ⟨y3, hy3, h⟩ := obind_some h
 refine RunC.regionW ?_
 refine zM (r := f32 a0) rfl rfl rfl rfl rfl ?_
 refine ROps.d (r := f64 x1) (fs := []) (Γ' := []) rfl rfl rfl (TOp.eqr (TOp.widen (src := 33) (dst := 37) ⟨_, pun33⟩ pun37 rfl (OpF.tmp rfl)) (congrArg (f .f64) hx1)) rfl ?_
 refine ROps.d (r := f64 r2) (fs := []) (Γ' := []) rfl rfl rfl (TOp.callB (CallAs.func ent130 rfl rfl) (Bors.cons (Bor.pure rfl) Bors.nil) rfl rfl (x_math_Sqrt_ok x1 r2 hf2)) rfl ?_
 refine ROps.d (r := f32 y3) (fs := []) (Γ' := []) rfl rfl rfl (TOp.narrow (src := 37) (dst := 33) ⟨_, pun37⟩ pun33 rfl (OpF.tmp rfl) hy3) rfl ?_
 refine zA (r := f32 y3) rfl rfl rfl rfl rfl ?_
 refine zN ?_
 refine RunC.ret ?_
 have hq := Option.some.inj h
 subst q0
 exact bodyQ.pure (.inr rfl) rfl (Res.one rfl (RV.tmp rfl))
noncomputable def i_turnFor_k1 (y8 : F) : Option (F × F) :=
 obind (i_mul y8 y8) fun (r9 : F) =>
 olet (fop .add .f32 r9 (some 1065353216)) fun (x10 : F) =>
 obind (i_RootNumber x10) fun (r11 : F) =>
 olet (fop .quo .f32 (some 1065353216) r11) fun (x12 : F) =>
 obind (i_mul y8 x12) fun (r13 : F) =>
 some (x12, r13)
noncomputable def i_turnFor (a0 : F) : Option (F × F) :=
 obind (i_absolute a0) fun (r1 : F) =>
 obind (i_mul a0 a0) fun (r2 : F) =>
 olet (fop .add .f32 r2 (some 1065353216)) fun (x3 : F) =>
 obind (i_RootNumber x3) fun (r4 : F) =>
 olet (fop .add .f32 r1 r4) fun (x5 : F) =>
 olet (fop .quo .f32 (some 1065353216) x5) fun (x6 : F) =>
 bsel (flt .f32 a0 (some 0)) (
  olet (fneg .f32 x6) fun (x7 : F) =>
  i_turnFor_k1 x7) (
  i_turnFor_k1 x6)
theorem i_turnFor_ok (a0 : F) (q0 : F) (q1 : F) (h : i_turnFor a0 = some (q0, q1)) : Ev Tryz.prog 63 [f32 a0] [] (tup [f32 q0, f32 q1]) [] := by
 refine Ev.start Tryz.func63 rfl rfl 0 (τ := [(0, f32 a0)]) rfl (Γ' := []) rfl (n := 59) rfl (g := 0) rfl (fun _ => rfl) ?_
 unfold i_turnFor at h
 refine zQ ?_
 refine zL (r := f32 (some 0)) rfl rfl rfl (LOp.le (LOp.assign rfl rfl) (ALe.fl (by kernel_rfl) (by kernel_rfl))) ?_
 refine zL (r := f32 (some 0)) rfl rfl rfl (LOp.le (LOp.assign rfl rfl) (ALe.fl (by kernel_rfl) (by kernel_rfl))) ?_
 refine zN ?_
 refine RunC.seq ?_
 obtain ⟨r1, hf1, h⟩ := obind_some h
 obtain ⟨r2, hf2, h⟩ := obind_some h
 obtain ⟨x3, hx3, h⟩ := olet_some h
 obtain ⟨r4, hf4, h⟩ := obind_some h
 obtain ⟨x5, hx5, h⟩ := olet_some h
 obtain ⟨x6, hx6, h⟩ := olet_some h
 refine RunC.regionW ?_
 refine zM (r := f32 a0) rfl rfl rfl rfl rfl ?_
 refine ROps.d (r := f32 r1) (fs := []) (Γ' := []) rfl rfl rfl (TOp.callB (CallAs.func ent83 rfl rfl) (Bors.cons (Bor.pure rfl) Bors.nil) rfl rfl (i_absolute_ok a0 r1 hf1)) rfl ?_
 refine zM (r := f32 a0) rfl rfl rfl rfl rfl ?_
 refine zM (r := f32 a0) rfl rfl rfl rfl rfl ?_
 refine ROps.d (r := f32 r2) (fs := []) (Γ' := []) rfl rfl rfl (TOp.callB (CallAs.func ent34 rfl rfl) (Bors.cons (Bor.pure rfl) (Bors.cons (Bor.pure rfl) Bors.nil)) rfl rfl (i_mul_ok a0 a0 r2 hf2)) rfl ?_
 refine ROps.d (r := f32 x3) (fs := []) (Γ' := []) rfl rfl rfl (TOp.eqr (TOp.fop (.inl rfl) rfl (OpF.tmp rfl) (OpF.const rfl (by kernel_rfl) (by kernel_rfl))) (congrArg (f .f32) hx3)) rfl ?_
 refine ROps.d (r := f32 r4) (fs := []) (Γ' := []) rfl rfl rfl (TOp.callB (CallAs.func ent101 rfl rfl) (Bors.cons (Bor.pure rfl) Bors.nil) rfl rfl (i_RootNumber_ok x3 r4 hf4)) rfl ?_
 refine ROps.d (r := f32 x5) (fs := []) (Γ' := []) rfl rfl rfl (TOp.eqr (TOp.fop (.inl rfl) rfl (OpF.tmp rfl) (OpF.tmp rfl)) (congrArg (f .f32) hx5)) rfl ?_
 refine ROps.d (r := f32 x6) (fs := []) (Γ' := []) rfl rfl rfl (TOp.eqr (TOp.fop (.inr (.inr (.inr rfl))) rfl (OpF.const rfl (by kernel_rfl) (by kernel_rfl)) (OpF.tmp rfl)) (congrArg (f .f32) hx6)) rfl ?_
 refine zA (r := f32 x6) rfl rfl rfl rfl rfl ?_
 refine zN ?_
 refine RunC.seq ?_
 refine RunC.cutN (fun τ Γ => ∃ (y8 : F), WeakLe τ [(4, f32 y8)] ∧ DeadLe Γ [] ∧ i_turnFor_k1 y8 = some (q0, q1)) ?_ ?_
 ·refine RunC.seq ?_
  rcases bsel_some h with ⟨hc7, h⟩ | ⟨hc7, h⟩
  ·refine RunC.regionW ?_
   refine zM (r := f32 a0) rfl rfl rfl rfl rfl ?_
   refine zL (r := b true) rfl rfl rfl (LOp.eqb (LOp.flt rfl (OpF.tmp rfl) (OpF.const rfl (by kernel_rfl) (by kernel_rfl))) hc7) ?_
   refine zN ?_
   refine RunC.wl (τ' := [(4, f32 x6), (16, b true)]) (Γ' := []) ⟨aR, aR, trivial⟩ trivial ?_
   refine RunC.cond_true rfl rfl ?_
   obtain ⟨x7, hx8, h⟩ := olet_some h
   refine RunC.regionW ?_
   refine zM (r := f32 x6) rfl rfl rfl rfl rfl ?_
   refine zL (r := f32 x7) rfl rfl rfl (LOp.eqr (LOp.fneg rfl (OpF.tmp rfl)) (congrArg (f .f32) hx8)) ?_
   refine zA (r := f32 x7) rfl rfl rfl rfl rfl ?_
   refine zN ?_
   exact ⟨x7, ⟨aR, trivial⟩, trivial, h⟩
  ·refine RunC.regionW ?_
   refine zM (r := f32 a0) rfl rfl rfl rfl rfl ?_
   refine zL (r := b false) rfl rfl rfl (LOp.eqb (LOp.flt rfl (OpF.tmp rfl) (OpF.const rfl (by kernel_rfl) (by kernel_rfl))) hc7) ?_
   refine zN ?_
   refine RunC.wl (τ' := [(4, f32 x6), (16, b false)]) (Γ' := []) ⟨aR, aR, trivial⟩ trivial ?_
   refine RunC.cond_false rfl rfl ?_
   refine RunC.skip ?_
   exact ⟨x6, ⟨aR, trivial⟩, trivial, h⟩
 ·rintro τ2 Γ2 ⟨y8, hw2, hd2, h⟩
  refine RunC.wl hw2 hd2 ?_
  unfold i_turnFor_k1 at h
  refine RunC.seq ?_
  obtain ⟨r9, hf9, h⟩ := obind_some h
  obtain ⟨x10, hx10, h⟩ := olet_some h
  obtain ⟨r11, hf11, h⟩ := obind_some h
  obtain ⟨x12, hx12, h⟩ := olet_some h
  refine RunC.regionW ?_
  refine zM (r := f32 y8) rfl rfl rfl rfl rfl ?_
  refine zM (r := f32 y8) rfl rfl rfl rfl rfl ?_
  refine ROps.d (r := f32 r9) (fs := []) (Γ' := []) rfl rfl rfl (TOp.callB (CallAs.func ent34 rfl rfl) (Bors.cons (Bor.pure rfl) (Bors.cons (Bor.pure rfl) Bors.nil)) rfl rfl (i_mul_ok y8 y8 r9 hf9)) rfl ?_
  refine ROps.d (r := f32 x10) (fs := []) (Γ' := []) rfl rfl rfl (TOp.eqr (TOp.fop (.inl rfl) rfl (OpF.tmp rfl) (OpF.const rfl (by kernel_rfl) (by kernel_rfl))) (congrArg (f .f32) hx10)) rfl ?_
  refine ROps.d (r := f32 r11) (fs := []) (Γ' := []) rfl rfl rfl (TOp.callB (CallAs.func ent101 rfl rfl) (Bors.cons (Bor.pure rfl) Bors.nil) rfl rfl (i_RootNumber_ok x10 r11 hf11)) rfl ?_
  refine ROps.d (r := f32 x12) (fs := []) (Γ' := []) rfl rfl rfl (TOp.eqr (TOp.fop (.inr (.inr (.inr rfl))) rfl (OpF.const rfl (by kernel_rfl) (by kernel_rfl)) (OpF.tmp rfl)) (congrArg (f .f32) hx12)) rfl ?_
  refine zA (r := f32 x12) rfl rfl rfl rfl rfl ?_
  refine zN ?_
  refine RunC.seq ?_
  obtain ⟨r13, hf13, h⟩ := obind_some h
  refine RunC.regionW ?_
  refine zM (r := f32 x12) rfl rfl rfl rfl rfl ?_
  refine zM (r := f32 y8) rfl rfl rfl rfl rfl ?_
  refine zM (r := f32 x12) rfl rfl rfl rfl rfl ?_
  refine ROps.d (r := f32 r13) (fs := []) (Γ' := []) rfl rfl rfl (TOp.callB (CallAs.func ent34 rfl rfl) (Bors.cons (Bor.pure rfl) (Bors.cons (Bor.pure rfl) Bors.nil)) rfl rfl (i_mul_ok y8 x12 r13 hf13)) rfl ?_
  refine zA (r := f32 x12) rfl rfl rfl rfl rfl ?_
  refine zA (r := f32 r13) rfl rfl rfl rfl rfl ?_
  refine zN ?_
  refine RunC.ret ?_
  have hq := Option.some.inj h
  obtain ⟨hq0, hq⟩ := Prod.mk.inj hq
  subst q0
  subst q1
  exact bodyQ.pure (.inr rfl) rfl (Res.two rfl (RV.tmp rfl) (RV.tmp rfl))
noncomputable def i_Matrix_turnColumns_02o_b1 (a0 : Int) (a1 : Int) (a2 : Int) (a3 : Int) (a4 : F) (a5 : F) (a6 : List F) (L1 : List F) (v3 : Int) : Option (LR ((List F) × Int) ((List F)) ((List F))) :=
 bsel (decide (v3 < a0)) (
  obind (i_Matrix_at a0 a1 L1 v3 a2) fun (r4 : F) =>
  obind (i_Matrix_at a0 a1 L1 v3 a3) fun (r5 : F) =>
  obind (i_mul a4 r4) fun (r9 : F) =>
  obind (i_mul a5 r5) fun (r10 : F) =>
  olet (fop .sub .f32 r9 r10) fun (x11 : F) =>
  obind (i_Matrix_set_02o a0 a1 v3 a2 x11 L1) fun (r12 : List F) =>
  need (decide (r12.length = a6.length)) <|
  obind (i_mul a5 r4) fun (r16 : F) =>
  obind (i_mul a4 r5) fun (r17 : F) =>
  olet (fop .add .f32 r16 r17) fun (x18 : F) =>
  obind (i_Matrix_set_02o a0 a1 v3 a3 x18 r12) fun (r19 : List F) =>
  need (decide (r19.length = a6.length)) <|
  olet (IntKind.i64.wrap (v3 + 1)) fun (x20 : Int) =>
  some (LR.next (r19, x20))) (
  some (LR.out L1))
noncomputable def i_Matrix_turnColumns_02o_s1 (a0 : Int) (a1 : Int) (a2 : Int) (a3 : Int) (a4 : F) (a5 : F) (a6 : List F) : ((List F) × Int) → Option (LR ((List F) × Int) ((List F)) ((List F))) := fun s => i_Matrix_turnColumns_02o_b1 a0 a1 a2 a3 a4 a5 a6 s.1 s.2
noncomputable def i_Matrix_turnColumns_02o_k1 (L21 : List F) : Option ((List F)) :=
 some L21
noncomputable def i_Matrix_turnColumns_02o (a0 : Int) (a1 : Int) (a2 : Int) (a3 : Int) (a4 : F) (a5 : F) (a6 : List F) : Option ((List F)) :=
 obind (loopM (i_Matrix_turnColumns_02o_s1 a0 a1 a2 a3 a4 a5 a6) (a6, 0)) fun z => osum z (fun e => i_Matrix_turnColumns_02o_k1 e) (fun r => some r)
theorem i_Matrix_turnColumns_02o_ok (a0 : Int) (a1 : Int) (a2 : Int) (a3 : Int) (a4 : F) (a5 : F) (a6 : List F) (q0 : List F) (h : i_Matrix_turnColumns_02o a0 a1 a2 a3 a4 a5 a6 = some q0) : Ev Tryz.prog 64 [agg [i64 a0, i64 a1, oref 0 0 0 a6.length], i64 a2, i64 a3, f32 a4, f32 a5] [⟨0, some (a6.map f32)⟩] (tup []) [⟨0, some (q0.map f32)⟩] := by
 refine Ev.start Tryz.func64 rfl rfl 0 (τ := [(0, agg [i64 a0, i64 a1, oref 0 0 0 a6.length]), (1, i64 a2), (2, i64 a3), (3, f32 a4), (4, f32 a5)]) rfl (Γ' := [⟨0, some (a6.map f32)⟩]) rfl (n := 98) rfl (g := 1) rfl (by decide) ?_
 unfold i_Matrix_turnColumns_02o at h
 refine zQ ?_
 refine ROps.d (r := ptr [i64 a0, i64 a1, oref 0 0 0 a6.length]) (fs := []) (Γ' := [⟨0, some (a6.map f32)⟩]) rfl rfl rfl (TOp.box_s rfl rfl rfl) rfl ?_
 refine zN ?_
 refine zQ ?_
 refine zL (r := ptr [i64 a0, i64 a1, oref 0 0 0 a6.length]) rfl rfl rfl (LOp.fap und26 rfl siz2 rfl rfl rfl) ?_
 refine zL (r := i64 a0) rfl rfl rfl (LOp.load1 agg2 rfl rfl) ?_
 refine zM (r := i64 0) rfl rfl rfl rfl rfl ?_
 refine zN ?_
 obtain ⟨z2, hz_2, h⟩ := obind_some h
 refine RunC.cutN (fun τ Γ => ∃ (L21 : List F), L21.length = a6.length ∧ WeakLe τ [] ∧ DeadLe Γ [⟨0, some (L21.map f32)⟩] ∧ z2 = .inl L21) ?_ ?_
 ·refine RunC.block (RunC.loop (RunL.loopM (x := z2) (i_Matrix_turnColumns_02o_s1 a0 a1 a2 a3 a4 a5 a6) (fun (s : (List F) × Int) τ Γ => s.1.length = a6.length ∧ WeakLe τ [(1, i64 a2), (2, i64 a3), (3, f32 a4), (4, f32 a5), (5, ptr [i64 a0, i64 a1, oref 0 0 0 a6.length]), (14, i64 a0), (15, i64 s.2)] ∧ DeadLe Γ [⟨0, some (s.1.map f32)⟩]) ?_ _ _ _ hz_2 ⟨rfl, ⟨aR, aR, aR, aR, aR, aR, aR, trivial⟩, ⟨⟨rfl, .inr rfl⟩, trivial⟩⟩))
  rintro ⟨L1, v3⟩ τ2 Γ2 y2_ ⟨hl2, hw2, hd2⟩ h2_ ho2 hr2
  refine RunC.wl (τ' := [(1, i64 a2), (2, i64 a3), (3, f32 a4), (4, f32 a5), (5, ptr [i64 a0, i64 a1, oref 0 0 0 a6.length]), (14, i64 a0), (15, i64 v3)]) (Γ' := [⟨0, some (L1.map f32)⟩]) hw2 hd2 ?_
  replace hl2 : L1.length = a6.length := hl2
  replace h2_ : i_Matrix_turnColumns_02o_b1 a0 a1 a2 a3 a4 a5 a6 L1 v3 = some y2_ := h2_
  unfold i_Matrix_turnColumns_02o_b1 at h2_
  refine RunC.seq ?_
  rcases bsel_some h2_ with ⟨hc1, h2_⟩ | ⟨hc1, h2_⟩
  ·refine RunC.regionW ?_
   refine zL (r := b true) rfl rfl rfl (LOp.eqb (LOp.lss rfl rfl rfl) hc1) ?_
   refine zN ?_
   refine RunC.seq ?_
   refine RunC.cond_true rfl rfl ?_
   refine RunC.skip ?_
   refine RunC.seq ?_
   refine RunC.block ?_
   refine zQ ?_
   refine zM (r := i64 v3) rfl rfl rfl rfl rfl ?_
   refine zA (r := i64 v3) rfl rfl rfl rfl rfl ?_
   refine zN ?_
   refine RunC.seq ?_
   obtain ⟨r4, hf2, h2_⟩ := obind_some h2_
   obtain ⟨r5, hf3, h2_⟩ := obind_some h2_
   refine RunC.region_draw (Γ' := [⟨0, some (L1.map f32)⟩]) 10 mixed 
    (TR.l (r := agg [i64 a0, i64 a1, oref 0 0 0 a6.length]) rfl rfl (LOp.loadAgg agg26 siz26 rfl rfl rfl rfl) <|
    (TR.l (r := i64 v3) rfl rfl (LOp.move rfl rfl) <|
    (TR.l (r := i64 a2) rfl rfl (LOp.move rfl rfl) <|
    (TR.d (r := f32 r4) (fs := []) rfl rfl (TOp.callB (CallAs.func ent35 rfl rfl) (Bors.cons (Bor.agg (Bors.cons (Bor.pure rfl) (Bors.cons (Bor.pure rfl) (Bors.cons (Bor.own (f := f32) (fun _ => rfl) rfl hl2) Bors.nil)))) (Bors.cons (Bor.pure rfl) (Bors.cons (Bor.pure rfl) Bors.nil))) rfl rfl (i_Matrix_at_ok a0 a1 L1 v3 a2 r4 hf2)) <|
    (TR.l (r := agg [i64 a0, i64 a1, oref 0 0 0 a6.length]) rfl rfl (LOp.loadAgg agg26 siz26 rfl rfl rfl rfl) <|
    (TR.l (r := i64 v3) rfl rfl (LOp.move rfl rfl) <|
    (TR.l (r := i64 a3) rfl rfl (LOp.move rfl rfl) <|
    (TR.d (r := f32 r5) (fs := []) rfl rfl (TOp.callB (CallAs.func ent35 rfl rfl) (Bors.cons (Bor.agg (Bors.cons (Bor.pure rfl) (Bors.cons (Bor.pure rfl) (Bors.cons (Bor.own (f := f32) (fun _ => rfl) rfl hl2) Bors.nil)))) (Bors.cons (Bor.pure rfl) (Bors.cons (Bor.pure rfl) Bors.nil))) rfl rfl (i_Matrix_at_ok a0 a1 L1 v3 a3 r5 hf3)) <|
    (TR.l (r := f32 r4) rfl rfl (LOp.assign rfl rfl) <|
    (TR.l (r := f32 r5) rfl rfl (LOp.assign rfl rfl) <|
    TR.nil)))))))))) rfl (by kernel_rfl) rfl fills_nil rfl ?_
   iterate 10 refine ROps.dropS ?_
   refine ROps.drop0 ?_
   refine zN ?_
   refine RunC.seq ?_
   obtain ⟨r9, hf7, h2_⟩ := obind_some h2_
   obtain ⟨r10, hf8, h2_⟩ := obind_some h2_
   obtain ⟨x11, hx9, h2_⟩ := olet_some h2_
   obtain ⟨r12, hf10, h2_⟩ := obind_some h2_
   obtain ⟨hn11, h2_⟩ := need_some h2_
   refine RunC.region_draw (Γ' := [⟨0, some (L1.map f32)⟩]) 10 mixed 
    (TR.l (r := agg [i64 a0, i64 a1, oref 0 0 0 a6.length]) rfl rfl (LOp.loadAgg agg26 siz26 rfl rfl rfl rfl) <|
    (TR.l (r := i64 v3) rfl rfl (LOp.move rfl rfl) <|
    (TR.l (r := i64 a2) rfl rfl (LOp.move rfl rfl) <|
    (TR.l (r := f32 a4) rfl rfl (LOp.move rfl rfl) <|
    (TR.l (r := f32 r4) rfl rfl (LOp.move rfl rfl) <|
    (TR.d (r := f32 r9) (fs := []) rfl rfl (TOp.callB (CallAs.func ent34 rfl rfl) (Bors.cons (Bor.pure rfl) (Bors.cons (Bor.pure rfl) Bors.nil)) rfl rfl (i_mul_ok a4 r4 r9 hf7)) <|
    (TR.l (r := f32 a5) rfl rfl (LOp.move rfl rfl) <|
    (TR.l (r := f32 r5) rfl rfl (LOp.move rfl rfl) <|
    (TR.d (r := f32 r10) (fs := []) rfl rfl (TOp.callB (CallAs.func ent34 rfl rfl) (Bors.cons (Bor.pure rfl) (Bors.cons (Bor.pure rfl) Bors.nil)) rfl rfl (i_mul_ok a5 r5 r10 hf8)) <|
    (TR.d (r := f32 x11) (fs := []) rfl rfl (TOp.eqr (TOp.fop (.inr (.inl rfl)) rfl (OpF.tmp rfl) (OpF.tmp rfl)) (congrArg (f .f32) hx9)) <|
    TR.nil)))))))))) rfl (by kernel_rfl) rfl fills_nil rfl ?_
   iterate 10 refine ROps.dropS ?_
   refine ROps.drop0 ?_
   refine ROps.callO (A := [agg [i64 a0, i64 a1, oref 0 0 0 a6.length], i64 v3, i64 a2, f32 x11]) (args := [agg [i64 a0, i64 a1, oref 0 0 0 L1.length], i64 v3, i64 a2, f32 x11]) (Γc := [⟨0, some (L1.map f32)⟩]) (Γc' := [⟨0, some (r12.map f32)⟩]) (r' := tup []) (Γ' := [⟨0, some (r12.map f32)⟩]) [(0, 0)] [] rfl (CallAs.func ent71 rfl rfl) rfl rfl (SelOk.of (show List.Nodup [0] from by decide) (SelL.arr0 (f := f32) (fun _ => rfl) rfl trivial)) (live_of ⟨⟨_, _, rfl⟩, trivial⟩) (by simp [ren, rens, sigma, rens_f32, rens_f64, rens_i64, rens_ik, rens_str, rens_cp, hl2]) rfl (i_Matrix_set_02o_ok a0 a1 v3 a2 x11 L1 r12 hf10) rfl (news_of trivial) (show List.Nodup [0] from by decide) (by simp [ren, rens, sigma, of_decide_eq_true hn11]) (by simp [backOb, sigma, ren, rens, rens_f32, rens_f64, rens_i64, rens_ik, rens_str, rens_cp]) ?_
   refine zN ?_
   refine RunC.wl (τ' := [(1, i64 a2), (2, i64 a3), (3, f32 a4), (4, f32 a5), (5, ptr [i64 a0, i64 a1, oref 0 0 0 a6.length]), (10, i64 v3), (11, f32 r4), (12, f32 r5), (14, i64 a0), (15, i64 v3)]) (Γ' := [⟨0, some (r12.map f32)⟩]) ⟨aR, aR, aR, aR, aR, aR, aR, aR, aR, aR, trivial⟩ ⟨⟨rfl, .inr rfl⟩, trivial⟩ ?_
   obtain ⟨r16, hf15, h2_⟩ := obind_some h2_
   obtain ⟨r17, hf16, h2_⟩ := obind_some h2_
   obtain ⟨x18, hx17, h2_⟩ := olet_some h2_
   obtain ⟨r19, hf18, h2_⟩ := obind_some h2_
   obtain ⟨hn19, h2_⟩ := need_some h2_
   refine RunC.region_draw (Γ' := [⟨0, some (r12.map f32)⟩]) 10 mixed 
    (TR.l (r := agg [i64 a0, i64 a1, oref 0 0 0 a6.length]) rfl rfl (LOp.loadAgg agg26 siz26 rfl rfl rfl rfl) <|
    (TR.l (r := i64 v3) rfl rfl (LOp.move rfl rfl) <|
    (TR.l (r := i64 a3) rfl rfl (LOp.move rfl rfl) <|
    (TR.l (r := f32 a5) rfl rfl (LOp.move rfl rfl) <|
    (TR.l (r := f32 r4) rfl rfl (LOp.move rfl rfl) <|
    (TR.d (r := f32 r16) (fs := []) rfl rfl (TOp.callB (CallAs.func ent34 rfl rfl) (Bors.cons (Bor.pure rfl) (Bors.cons (Bor.pure rfl) Bors.nil)) rfl rfl (i_mul_ok a5 r4 r16 hf15)) <|
    (TR.l (r := f32 a4) rfl rfl (LOp.move rfl rfl) <|
    (TR.l (r := f32 r5) rfl rfl (LOp.move rfl rfl) <|
    (TR.d (r := f32 r17) (fs := []) rfl rfl (TOp.callB (CallAs.func ent34 rfl rfl) (Bors.cons (Bor.pure rfl) (Bors.cons (Bor.pure rfl) Bors.nil)) rfl rfl (i_mul_ok a4 r5 r17 hf16)) <|
    (TR.d (r := f32 x18) (fs := []) rfl rfl (TOp.eqr (TOp.fop (.inl rfl) rfl (OpF.tmp rfl) (OpF.tmp rfl)) (congrArg (f .f32) hx17)) <|
    TR.nil)))))))))) rfl (by kernel_rfl) rfl fills_nil rfl ?_
   iterate 10 refine ROps.dropS ?_
   refine ROps.drop0 ?_
   refine ROps.callO (A := [agg [i64 a0, i64 a1, oref 0 0 0 a6.length], i64 v3, i64 a3, f32 x18]) (args := [agg [i64 a0, i64 a1, oref 0 0 0 r12.length], i64 v3, i64 a3, f32 x18]) (Γc := [⟨0, some (r12.map f32)⟩]) (Γc' := [⟨0, some (r19.map f32)⟩]) (r' := tup []) (Γ' := [⟨0, some (r19.map f32)⟩]) [(0, 0)] [] rfl (CallAs.func ent71 rfl rfl) rfl rfl (SelOk.of (show List.Nodup [0] from by decide) (SelL.arr0 (f := f32) (fun _ => rfl) rfl trivial)) (live_of ⟨⟨_, _, rfl⟩, trivial⟩) (by simp [ren, rens, sigma, rens_f32, rens_f64, rens_i64, rens_ik, rens_str, rens_cp, (of_decide_eq_true hn11)]) rfl (i_Matrix_set_02o_ok a0 a1 v3 a3 x18 r12 r19 hf18) rfl (news_of trivial) (show List.Nodup [0] from by decide) (by simp [ren, rens, sigma, of_decide_eq_true hn19]) (by simp [backOb, sigma, ren, rens, rens_f32, rens_f64, rens_i64, rens_ik, rens_str, rens_cp]) ?_
   refine zN ?_
   refine RunC.wl (τ' := [(1, i64 a2), (2, i64 a3), (3, f32 a4), (4, f32 a5), (5, ptr [i64 a0, i64 a1, oref 0 0 0 a6.length]), (14, i64 a0), (15, i64 v3)]) (Γ' := [⟨0, some (r19.map f32)⟩]) ⟨aR, aR, aR, aR, aR, aR, aR, trivial⟩ ⟨⟨rfl, .inr rfl⟩, trivial⟩ ?_
   obtain ⟨x20, hx20, h2_⟩ := olet_some h2_
   refine RunC.regionW ?_
   refine zL (r := i64 x20) rfl rfl rfl (LOp.eqr (LOp.add rfl rfl rfl) (congrArg (ik .i64) hx20)) ?_
   refine zM (r := i64 x20) rfl rfl rfl rfl rfl ?_
   refine zN ?_
   cases Option.some.inj h2_
   exact ⟨_, rfl, (of_decide_eq_true hn19), ⟨aR, aR, aR, aR, aR, aR, aR, trivial⟩, ⟨⟨rfl, .inr rfl⟩, trivial⟩⟩
  ·refine RunC.regionW ?_
   refine zL (r := b false) rfl rfl rfl (LOp.eqb (LOp.lss rfl rfl rfl) hc1) ?_
   refine zN ?_
   refine RunC.seq ?_
   refine RunC.cond_false rfl rfl ?_
   refine RunC.exit ?_
   cases Option.some.inj h2_
   have hx := ho2 _ rfl
   exact ⟨L1, hl2, trivial, ⟨⟨rfl, .inr rfl⟩, trivial⟩, hx⟩
 ·rintro τ3 Γ3 ⟨L21, hl22, hw3, hd3, rfl⟩
  replace h : i_Matrix_turnColumns_02o_k1 L21 = some q0 := h
  unfold i_Matrix_turnColumns_02o_k1 at h
  refine bodyQ.wl hw3 hd3 ?_
  have hq := Option.some.inj h
  subst q0
  exact bodyQ.mk (r' := tup []) [(0, 0)] (.inl rfl) rfl (show List.Nodup [0] from by decide) rfl rfl (Res.zero rfl) (SelL.arr (f := f32) (fun _ => rfl) rfl trivial)
end Go.Proofs.YtcoookgeialmnaaGreat
