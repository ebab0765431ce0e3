/- Generated. -/
import Derived.Test.YtcoookgeialmnaaG0
namespace Go.Proofs.Ytcoookgeialmnaa
open Go Go.AM Go.AM.AV
set_option maxRecDepth 20000
set_option maxHeartbeats 4000000
set_option linter.unusedVariables false
set_option linter.unusedSimpArgs false
noncomputable def s_l05Gradient_b8 (a0 : Int) (l13 : List F) (l14 : List F) (r18 : List F) (x22 : F) (L25 : List F) (L27 : List F) (v28 : Int) : Option (LR ((List F) × (List F) × Int) ((List F) × (List F)) (Int × Bool × (List F))) :=
 bsel (decide (v28 < ((a0.toNat : Nat) : Int))) (
  obind (at? L25 v28) fun (e29 : F) =>
  obind (at? l14 v28) fun (e30 : F) =>
  olet (fop .mul .f32 x22 e30) fun (x31 : F) =>
  olet (fop .add .f32 e29 x31) fun (x32 : F) =>
  obind (setAt? L25 v28 x32) fun (L33 : List F) =>
  obind (at? l13 v28) fun (e34 : F) =>
  obind (at? r18 v28) fun (e35 : F) =>
  olet (fop .mul .f32 x22 e35) fun (x36 : F) =>
  olet (fop .sub .f32 e34 x36) fun (x37 : F) =>
  need (apok 4 L27.length 1) <|
  olet (IntKind.i64.wrap (v28 + 1)) fun (x38 : Int) =>
  some (LR.next (L33, (L27 ++ ([x37] : List F)), x38))) (
  some (LR.out (L25, L27)))
noncomputable def s_l05Gradient_s8 (a0 : Int) (l13 : List F) (l14 : List F) (r18 : List F) (x22 : F) : ((List F) × (List F) × Int) → Option (LR ((List F) × (List F) × Int) ((List F) × (List F)) (Int × Bool × (List F))) := fun s => s_l05Gradient_b8 a0 l13 l14 r18 x22 s.1 s.2.1 s.2.2
noncomputable def s_l05Gradient_b10 (l14 : List F) (l47 : List F) (x50 : F) (L53 : List F) (v54 : Int) : Option (LR ((List F) × Int) ((List F)) (Int × Bool × (List F))) :=
 bsel (decide (v54 < (l14.length : Int))) (
  obind (at? l47 v54) fun (e55 : F) =>
  obind (at? l14 v54) fun (e56 : F) =>
  olet (fop .mul .f32 x50 e56) fun (x57 : F) =>
  olet (fop .add .f32 e55 x57) fun (x58 : F) =>
  need (apok 4 L53.length 1) <|
  olet (IntKind.i64.wrap (v54 + 1)) fun (x59 : Int) =>
  some (LR.next ((L53 ++ ([x58] : List F)), x59))) (
  some (LR.out L53))
noncomputable def s_l05Gradient_s10 (l14 : List F) (l47 : List F) (x50 : F) : ((List F) × Int) → Option (LR ((List F) × Int) ((List F)) (Int × Bool × (List F))) := fun s => s_l05Gradient_b10 l14 l47 x50 s.1 s.2
noncomputable def s_l05Gradient_k10 (v16 : Int) (L41 : List F) (L43 : List F) (r49 : F) (L63 : List F) : Option (LR ((List F) × (List F) × (List F) × F × Int) ((List F) × (List F) × Int) (Int × Bool × (List F))) :=
 olet (IntKind.i64.wrap (v16 + 1)) fun (x64 : Int) =>
 some (LR.next (L41, L43, L63, r49, x64))
noncomputable def s_l05Gradient_k9 (l14 : List F) (y15 : F) (v16 : Int) (L41 : List F) (L43 : List F) (l47 : List F) : Option (LR ((List F) × (List F) × (List F) × F × Int) ((List F) × (List F) × Int) (Int × Bool × (List F))) :=
 obind (s_l02Dot L43 l47) fun (r49 : F) =>
 olet (fop .quo .f32 r49 y15) fun (x50 : F) =>
 obind (loopM (s_l05Gradient_s10 l14 l47 x50) (([] : List F), 0)) fun z => osum z (fun e => s_l05Gradient_k10 v16 L41 L43 r49 e) (fun r => some (LR.ret r))
noncomputable def s_l05Gradient_k8 (a4 : Int) (a5 : List Int) (a6 : List Int) (a7 : List F) (a11 : Bool) (l14 : List F) (y15 : F) (v16 : Int) (L41 : List F) (L43 : List F) : Option (LR ((List F) × (List F) × (List F) × F × Int) ((List F) × (List F) × Int) (Int × Bool × (List F))) :=
 bsel a11 (
  obind (s_l05Solve a4 a5 a6 a7 L43) fun (r44 : List F) =>
  obind (s_l02Finite r44) fun (r45 : Bool) =>
  bsel r45 (
   s_l05Gradient_k9 l14 y15 v16 L41 L43 r44) (
   some (LR.ret (0, false, ([] : List F))))) (
  s_l05Gradient_k9 l14 y15 v16 L41 L43 L43)
noncomputable def s_l05Gradient_b11 (a0 : Int) (a1 : List Int) (a2 : List Int) (a3 : List F) (a4 : Int) (a5 : List Int) (a6 : List Int) (a7 : List F) (a9 : F) (a10 : Int) (a11 : Bool) (L11 : List F) (l13 : List F) (l14 : List F) (y15 : F) (v16 : Int) : Option (LR ((List F) × (List F) × (List F) × F × Int) ((List F) × (List F) × Int) (Int × Bool × (List F))) :=
 bsel (decide (v16 < a10)) (
  obind (s_l05Norm l13) fun (r17 : F) =>
  bsel (flt .f32 a9 r17) (
   obind (s_l05Times a0 a1 a2 a3 l14) fun (r18 : List F) =>
   obind (s_l02Dot l14 r18) fun (r19 : F) =>
   bsel (flt .f32 (some 0) r19) (
    obind (s_l01Finite r19) fun (r20 : Bool) =>
    bsel r20 (
     obind (s_l01Finite y15) fun (r21 : Bool) =>
     bsel r21 (
      olet (fop .quo .f32 y15 r19) fun (x22 : F) =>
      obind (loopM (s_l05Gradient_s8 a0 l13 l14 r18 x22) (L11, ([] : List F), 0)) fun z => osum z (fun e => s_l05Gradient_k8 a4 a5 a6 a7 a11 l14 y15 v16 e.1 e.2) (fun r => some (LR.ret r))) (
      some (LR.ret (0, false, ([] : List F))))) (
     some (LR.ret (0, false, ([] : List F))))) (
    some (LR.ret (0, false, ([] : List F))))) (
   some (LR.out (L11, l13, v16)))) (
  some (LR.out (L11, l13, v16)))
noncomputable def s_l05Gradient_s11 (a0 : Int) (a1 : List Int) (a2 : List Int) (a3 : List F) (a4 : Int) (a5 : List Int) (a6 : List Int) (a7 : List F) (a9 : F) (a10 : Int) (a11 : Bool) : ((List F) × (List F) × (List F) × F × Int) → Option (LR ((List F) × (List F) × (List F) × F × Int) ((List F) × (List F) × Int) (Int × Bool × (List F))) := fun s => s_l05Gradient_b11 a0 a1 a2 a3 a4 a5 a6 a7 a9 a10 a11 s.1 s.2.1 s.2.2.1 s.2.2.2.1 s.2.2.2.2
noncomputable def s_l05Gradient_k11 (a9 : F) (L69 : List F) (l71 : List F) (v72 : Int) : Option (Int × Bool × (List F)) :=
 obind (s_l05Norm l71) fun (r73 : F) =>
 bsel (fle .f32 r73 a9) (
  obind (s_l02Finite L69) fun (r74 : Bool) =>
  bsel r74 (
   some (v72, true, L69)) (
   some (0, false, ([] : List F)))) (
  some (0, false, ([] : List F)))
noncomputable def s_l05Gradient_k1 (a0 : Int) (a1 : List Int) (a2 : List Int) (a3 : List F) (a4 : Int) (a5 : List Int) (a6 : List Int) (a7 : List F) (a8 : List F) (a9 : F) (a10 : Int) (a11 : Bool) (l3 : List F) : Option (Int × Bool × (List F)) :=
 obind (s_l02Finite l3) fun (r5 : Bool) =>
 bsel r5 (
  need (apok 4 0 l3.length) <|
  obind (s_l02Dot (([] : List F) ++ a8) l3) fun (r6 : F) =>
  obind (loopM (s_l05Gradient_s11 a0 a1 a2 a3 a4 a5 a6 a7 a9 a10 a11) ((List.replicate a0.toNat (some 0)), (([] : List F) ++ a8), (([] : List F) ++ l3), r6, 0)) fun z => osum z (fun e => s_l05Gradient_k11 a9 e.1 e.2.1 e.2.2) (fun r => some r)) (
  some (0, false, ([] : List F)))
noncomputable def s_l05Gradient (a0 : Int) (a1 : List Int) (a2 : List Int) (a3 : List F) (a4 : Int) (a5 : List Int) (a6 : List Int) (a7 : List F) (a8 : List F) (a9 : F) (a10 : Int) (a11 : Bool) : Option (Int × Bool × (List F)) :=
 need (mkok 4 a0) <|
 need (apok 4 0 a8.length) <|
 bsel a11 (
  obind (s_l05Solve a4 a5 a6 a7 (([] : List F) ++ a8)) fun (r1 : List F) =>
  s_l05Gradient_k1 a0 a1 a2 a3 a4 a5 a6 a7 a8 a9 a10 a11 r1) (
  s_l05Gradient_k1 a0 a1 a2 a3 a4 a5 a6 a7 a8 a9 a10 a11 (([] : List F) ++ a8))
theorem s_l05Gradient_ok (a0 : Int) (a1 : List Int) (a2 : List Int) (a3 : List F) (a4 : Int) (a5 : List Int) (a6 : List Int) (a7 : List F) (a8 : List F) (a9 : F) (a10 : Int) (a11 : Bool) (q0 : Int) (q1 : Bool) (q2 : List F) (h : s_l05Gradient a0 a1 a2 a3 a4 a5 a6 a7 a8 a9 a10 a11 = some (q0, q1, q2)) : Ev Try.prog 33 [ptr [i64 a0, sl a1.length (a1.map i64), sl a2.length (a2.map i64), sl a3.length (a3.map f32)], ptr [i64 a4, sl a5.length (a5.map i64), sl a6.length (a6.map i64), sl a7.length (a7.map f32)], sl a8.length (a8.map f32), f32 a9, i64 a10, b a11] [] (tup [oref 0 0 0 q2.length, i64 q0, b q1]) [⟨0, some (q2.map f32)⟩] := by
 refine Ev.start Try.func33 rfl rfl 5 (τ := [(0, ptr [i64 a0, sl a1.length (a1.map i64), sl a2.length (a2.map i64), sl a3.length (a3.map f32)]), (1, ptr [i64 a4, sl a5.length (a5.map i64), sl a6.length (a6.map i64), sl a7.length (a7.map f32)]), (2, sl a8.length (a8.map f32)), (3, f32 a9), (4, i64 a10), (5, b a11)]) rfl (Γ' := [⟨0, none⟩, ⟨0, none⟩, ⟨0, none⟩, ⟨0, none⟩, ⟨0, none⟩]) rfl (n := 341) rfl (g := 0) rfl (fun _ => rfl) ?_
 unfold s_l05Gradient at h
 refine zQ ?_
 refine zA (r := nilsl) rfl rfl rfl rfl rfl ?_
 refine zA (r := i64 0) rfl rfl rfl rfl rfl ?_
 refine zA (r := b false) rfl rfl rfl rfl rfl ?_
 refine zN ?_
 refine RunC.seq ?_
 obtain ⟨hm1, h⟩ := need_some h
 refine RunC.regionW ?_
 refine zM (r := ptr [i64 a0, sl a1.length (a1.map i64), sl a2.length (a2.map i64), sl a3.length (a3.map f32)]) rfl rfl rfl rfl rfl ?_
 refine zL (r := ptr [i64 a0, sl a1.length (a1.map i64), sl a2.length (a2.map i64), sl a3.length (a3.map f32)]) rfl rfl rfl (LOp.nilCheck_ptr rfl rfl) ?_
 refine zL (r := ptr [i64 a0, sl a1.length (a1.map i64), sl a2.length (a2.map i64), sl a3.length (a3.map f32)]) rfl rfl rfl (LOp.fap und30 rfl siz2 rfl rfl rfl) ?_
 refine zL (r := i64 a0) rfl rfl rfl (LOp.load1 agg2 rfl rfl) ?_
 refine ROps.d (r := oref 0 1 0 a0.toNat) (fs := [(0, ((List.replicate a0.toNat (some 0)).map f32))]) (Γ' := [⟨1, some ((List.replicate a0.toNat (some 0)).map f32)⟩, ⟨0, none⟩, ⟨0, none⟩, ⟨0, none⟩, ⟨0, none⟩]) rfl rfl rfl (TOp.mkS (g := ⟨0, none⟩) (t := 23) (e := 26) (by_ := 4) (f := f32) (zv := some 0) 0 rfl und23 tin26 rfl siz26 zer26 rfl zel26 rfl rfl rfl hm1) rfl ?_
 refine zA (r := oref 0 1 0 a0.toNat) rfl rfl rfl rfl rfl ?_
 refine zN ?_
 refine RunC.seq ?_
 obtain ⟨hm2, h⟩ := need_some h
 refine RunC.regionW ?_
 refine ROps.d (r := oref 1 1 0 0) (fs := [(1, (([] : List F).map f32))]) (Γ' := [⟨1, some ((List.replicate a0.toNat (some 0)).map f32)⟩, ⟨1, some (([] : List F).map f32)⟩, ⟨0, none⟩, ⟨0, none⟩, ⟨0, none⟩]) rfl rfl rfl (TOp.buildSlice_o (g := ⟨0, none⟩) (za := f32 (some 0)) (qs := []) 1 rfl und23 siz26 zer26 rfl zel26 rfl rfl trivial rfl) rfl ?_
 refine zM (r := sl a8.length (a8.map f32)) rfl rfl rfl rfl rfl ?_
 refine ROps.app (f := f32) (xs := ([] : List F)) (ys := a8) (Γ' := [⟨1, some ((List.replicate a0.toNat (some 0)).map f32)⟩, ⟨2, some ((([] : List F) ++ a8).map f32)⟩, ⟨0, none⟩, ⟨0, none⟩, ⟨0, none⟩]) rfl pun23 inf26 rfl rfl rfl rfl rfl rfl rfl rfl rfl (by simp) (ReadAs.sl (by simp)) (ones_map (fun _ => rfl)) (ap_by hm2) (ap_mx hm2) rfl ?_
 refine zA (r := oref 1 2 0 (0 + a8.length)) rfl rfl rfl rfl rfl ?_
 refine zN ?_
 refine zQ ?_
 refine zM (r := oref 1 2 0 (0 + a8.length)) rfl rfl rfl rfl rfl ?_
 refine zA (r := oref 1 2 0 (0 + a8.length)) rfl rfl rfl rfl rfl ?_
 refine zN ?_
 refine RunC.seq ?_
 refine RunC.cutN (fun τ Γ => ∃ (l3 : List F) (u2 : Nat), (List.replicate a0.toNat (some 0)).length = a0.toNat ∧ Le 341 τ Γ [(0, ptr [i64 a0, sl a1.length (a1.map i64), sl a2.length (a2.map i64), sl a3.length (a3.map f32)]), (1, ptr [i64 a4, sl a5.length (a5.map i64), sl a6.length (a6.map i64), sl a7.length (a7.map f32)]), (3, f32 a9), (4, i64 a10), (5, b a11), (15, oref 0 1 0 a0.toNat), (16, sl (([] : List F) ++ a8).length ((([] : List F) ++ a8).map f32)), (17, sl l3.length (l3.map f32))] [⟨1, some ((List.replicate a0.toNat (some 0)).map f32)⟩, ⟨2, none⟩, ⟨u2, none⟩, ⟨0, none⟩, ⟨0, none⟩] ∧ s_l05Gradient_k1 a0 a1 a2 a3 a4 a5 a6 a7 a8 a9 a10 a11 l3 = some (q0, q1, q2)) ?_ ?_
 ·refine RunC.seq ?_
  rcases bsel_some h with ⟨hc3, h⟩ | ⟨hc3, h⟩
  ·refine RunC.regionW ?_
   refine zL (r := b true) rfl rfl rfl (LOp.eqb (LOp.move rfl rfl) hc3) ?_
   refine zN ?_
   refine RunC.cond_true rfl rfl ?_
   obtain ⟨r1, hf4, h⟩ := obind_some h
   refine RunC.regionW ?_
   refine zM (r := ptr [i64 a4, sl a5.length (a5.map i64), sl a6.length (a6.map i64), sl a7.length (a7.map f32)]) rfl rfl rfl rfl rfl ?_
   refine zM (r := oref 1 2 0 (0 + a8.length)) rfl rfl rfl rfl rfl ?_
   refine ROps.d (r := oref 2 1 0 r1.length) (fs := [(2, (r1.map f32))]) (Γ' := [⟨1, some ((List.replicate a0.toNat (some 0)).map f32)⟩, ⟨2, some ((([] : List F) ++ a8).map f32)⟩, ⟨1, some (r1.map f32)⟩, ⟨0, none⟩, ⟨0, none⟩]) rfl rfl rfl (TOp.callBN (ls := [(r1.map f32)]) [2] (CallAs.func ent80 rfl rfl) (Bors.cons (Bor.ptr (Bors.cons (Bor.pure rfl) (Bors.cons (Bor.sl (fun _ => rfl)) (Bors.cons (Bor.sl (fun _ => rfl)) (Bors.cons (Bor.sl (fun _ => rfl)) Bors.nil))))) (Bors.cons (Bor.own (f := f32) (fun _ => rfl) rfl (show (([] : List F) ++ a8).length = (0 + a8.length) from (app_len rfl rfl))) Bors.nil)) rfl (s_l05Solve_ok a4 a5 a6 a7 (([] : List F) ++ a8) r1 hf4) (and_all (lts0_map (f := f32) (fun _ => rfl) _) rfl) (and_all (noss_map (f := f32) (fun _ => rfl) _) rfl) rfl (by decide) (ns_of ⟨⟨_, rfl⟩, trivial⟩)) rfl ?_
   refine zA (r := oref 2 1 0 r1.length) rfl rfl rfl rfl rfl ?_
   refine zN ?_
   exact ⟨r1, 1, List.length_replicate, (Le.trans (Le.settle 2 [(0, ptr [i64 a0, sl a1.length (a1.map i64), sl a2.length (a2.map i64), sl a3.length (a3.map f32)]), (1, ptr [i64 a4, sl a5.length (a5.map i64), sl a6.length (a6.map i64), sl a7.length (a7.map f32)]), (3, f32 a9), (4, i64 a10), (5, b a11), (15, oref 0 1 0 a0.toNat), (16, oref 1 2 0 (0 + a8.length)), (17, sl r1.length (r1.map f32))] rfl rfl rfl ⟨.inl rfl, .inl rfl, .inl rfl, .inl rfl, .inl rfl, .inl rfl, .inl rfl, .inr (Bor.own (f := f32) (fun _ => rfl) rfl rfl), trivial⟩) (Le.trans (Le.settle 1 [(0, ptr [i64 a0, sl a1.length (a1.map i64), sl a2.length (a2.map i64), sl a3.length (a3.map f32)]), (1, ptr [i64 a4, sl a5.length (a5.map i64), sl a6.length (a6.map i64), sl a7.length (a7.map f32)]), (3, f32 a9), (4, i64 a10), (5, b a11), (15, oref 0 1 0 a0.toNat), (16, sl (([] : List F) ++ a8).length ((([] : List F) ++ a8).map f32)), (17, sl r1.length (r1.map f32))] rfl rfl rfl ⟨.inl rfl, .inl rfl, .inl rfl, .inl rfl, .inl rfl, .inl rfl, .inr (Bor.own (f := f32) (fun _ => rfl) rfl (show (([] : List F) ++ a8).length = (0 + a8.length) from (app_len rfl rfl))), .inl rfl, trivial⟩) (Le.of ⟨aR, aR, aR, aR, aR, aR, aR, aR, trivial⟩ ⟨⟨rfl, .inr rfl⟩, ⟨rfl, .inl rfl⟩, ⟨rfl, .inl rfl⟩, ⟨rfl, .inr rfl⟩, ⟨rfl, .inr rfl⟩, trivial⟩))), h⟩
  ·refine RunC.regionW ?_
   refine zL (r := b false) rfl rfl rfl (LOp.eqb (LOp.move rfl rfl) hc3) ?_
   refine zN ?_
   refine RunC.cond_false rfl rfl ?_
   refine RunC.skip ?_
   exact ⟨(([] : List F) ++ a8), 0, List.length_replicate, (Le.trans (Le.settle 1 [(0, ptr [i64 a0, sl a1.length (a1.map i64), sl a2.length (a2.map i64), sl a3.length (a3.map f32)]), (1, ptr [i64 a4, sl a5.length (a5.map i64), sl a6.length (a6.map i64), sl a7.length (a7.map f32)]), (3, f32 a9), (4, i64 a10), (5, b a11), (15, oref 0 1 0 a0.toNat), (16, sl (([] : List F) ++ a8).length ((([] : List F) ++ a8).map f32)), (17, sl (([] : List F) ++ a8).length ((([] : List F) ++ a8).map f32))] rfl rfl rfl ⟨.inl rfl, .inl rfl, .inl rfl, .inl rfl, .inl rfl, .inl rfl, .inr (Bor.own (f := f32) (fun _ => rfl) rfl (show (([] : List F) ++ a8).length = (0 + a8.length) from (app_len rfl rfl))), .inr (Bor.own (f := f32) (fun _ => rfl) rfl (show (([] : List F) ++ a8).length = (0 + a8.length) from (app_len rfl rfl))), trivial⟩) (Le.of ⟨aR, aR, aR, aR, aR, aR, aR, aR, trivial⟩ ⟨⟨rfl, .inr rfl⟩, ⟨rfl, .inl rfl⟩, ⟨rfl, .inl rfl⟩, ⟨rfl, .inr rfl⟩, ⟨rfl, .inr rfl⟩, trivial⟩)), h⟩
 ·rintro τ12 Γ12 ⟨l3, u2, hl4, hw12, h⟩
  refine RunC.le hw12 ?_
  unfold s_l05Gradient_k1 at h
  refine RunC.seq ?_
  refine RunC.seq ?_
  obtain ⟨r5, hf5, h⟩ := obind_some h
  rcases bsel_some h with ⟨hc6, h⟩ | ⟨hc6, h⟩
  ·refine RunC.regionW ?_
   refine zM (r := sl l3.length (l3.map f32)) rfl rfl rfl rfl rfl ?_
   refine ROps.d (r := b true) (fs := []) (Γ' := [⟨1, some ((List.replicate a0.toNat (some 0)).map f32)⟩, ⟨2, none⟩, ⟨u2, none⟩, ⟨0, none⟩, ⟨0, none⟩]) rfl rfl rfl (TOp.eqb (TOp.callB (CallAs.func ent78 rfl rfl) (Bors.cons (Bor.sl (fun _ => rfl)) Bors.nil) rfl rfl (s_l02Finite_ok l3 r5 hf5)) hc6) rfl ?_
   refine zL (r := b false) rfl rfl rfl (LOp.eqb (LOp.not rfl rfl) rfl) ?_
   refine zN ?_
   refine RunC.cond_false rfl rfl ?_
   refine RunC.skip ?_
   refine RunC.seq ?_
   obtain ⟨hm7, h⟩ := need_some h
   refine RunC.regionW ?_
   refine ROps.d (r := oref 1 3 0 0) (fs := [(1, (([] : List F).map f32))]) (Γ' := [⟨1, some ((List.replicate a0.toNat (some 0)).map f32)⟩, ⟨3, some (([] : List F).map f32)⟩, ⟨u2, none⟩, ⟨0, none⟩, ⟨0, none⟩]) rfl rfl rfl (TOp.buildSlice_o (g := ⟨2, none⟩) (za := f32 (some 0)) (qs := []) 1 rfl und23 siz26 zer26 rfl zel26 rfl rfl trivial rfl) rfl ?_
   refine zM (r := sl l3.length (l3.map f32)) rfl rfl rfl rfl rfl ?_
   refine ROps.app (f := f32) (xs := ([] : List F)) (ys := l3) (Γ' := [⟨1, some ((List.replicate a0.toNat (some 0)).map f32)⟩, ⟨4, some ((([] : List F) ++ l3).map f32)⟩, ⟨u2, none⟩, ⟨0, none⟩, ⟨0, none⟩]) rfl pun23 inf26 rfl rfl rfl rfl rfl rfl rfl rfl rfl (by simp) (ReadAs.sl (by simp)) (ones_map (fun _ => rfl)) (ap_by hm7) (ap_mx hm7) rfl ?_
   refine zA (r := oref 1 4 0 (0 + l3.length)) rfl rfl rfl rfl rfl ?_
   refine zN ?_
   refine RunC.seq ?_
   obtain ⟨r6, hf8, h⟩ := obind_some h
   refine RunC.regionW ?_
   refine zM (r := sl (([] : List F) ++ a8).length ((([] : List F) ++ a8).map f32)) rfl rfl rfl rfl rfl ?_
   refine zM (r := sl l3.length (l3.map f32)) rfl rfl rfl rfl rfl ?_
   refine ROps.d (r := f32 r6) (fs := []) (Γ' := [⟨1, some ((List.replicate a0.toNat (some 0)).map f32)⟩, ⟨4, some ((([] : List F) ++ l3).map f32)⟩, ⟨u2, none⟩, ⟨0, none⟩, ⟨0, none⟩]) rfl rfl rfl (TOp.callB (CallAs.func ent81 rfl rfl) (Bors.cons (Bor.sl (fun _ => rfl)) (Bors.cons (Bor.sl (fun _ => rfl)) Bors.nil)) rfl rfl (s_l02Dot_ok (([] : List F) ++ a8) l3 r6 hf8)) rfl ?_
   refine zA (r := f32 r6) rfl rfl rfl rfl rfl ?_
   refine zN ?_
   refine zQ ?_
   refine zA (r := i64 0) rfl rfl rfl rfl rfl ?_
   refine zN ?_
   refine RunC.seq ?_
   obtain ⟨z13, hz_13, h⟩ := obind_some h
   refine RunC.cutN (fun τ Γ => ∃ (L69 : List F) (l71 : List F) (v72 : Int) (u65 : Nat) (u66 : Nat) (u67 : Nat) (u68 : Nat), L69.length = a0.toNat ∧ Le 341 τ Γ [(3, f32 a9), (15, oref 0 1 0 a0.toNat), (16, sl l71.length (l71.map f32)), (20, i64 v72)] [⟨1, some (L69.map f32)⟩, ⟨u65, none⟩, ⟨u66, none⟩, ⟨u67, none⟩, ⟨u68, none⟩] ∧ z13 = .inl (L69, l71, v72)) ?_ ?_
   ·refine RunC.block (RunC.loop (RunL.loopM (x := z13) (s_l05Gradient_s11 a0 a1 a2 a3 a4 a5 a6 a7 a9 a10 a11) (fun (s : (List F) × (List F) × (List F) × F × Int) τ Γ => ∃ (u7 : Nat) (u8 : Nat) (u9 : Nat) (u10 : Nat), s.1.length = a0.toNat ∧ Le 341 τ Γ [(0, ptr [i64 a0, sl a1.length (a1.map i64), sl a2.length (a2.map i64), sl a3.length (a3.map f32)]), (1, ptr [i64 a4, sl a5.length (a5.map i64), sl a6.length (a6.map i64), sl a7.length (a7.map f32)]), (3, f32 a9), (4, i64 a10), (5, b a11), (15, oref 0 1 0 a0.toNat), (16, sl s.2.1.length (s.2.1.map f32)), (18, sl s.2.2.1.length (s.2.2.1.map f32)), (19, f32 s.2.2.2.1), (20, i64 s.2.2.2.2)] [⟨1, some (s.1.map f32)⟩, ⟨u7, none⟩, ⟨u8, none⟩, ⟨u9, none⟩, ⟨u10, none⟩]) ?_ _ _ _ hz_13 ⟨4, u2, 0, 0, hl4, (Le.trans (Le.settle 1 [(0, ptr [i64 a0, sl a1.length (a1.map i64), sl a2.length (a2.map i64), sl a3.length (a3.map f32)]), (1, ptr [i64 a4, sl a5.length (a5.map i64), sl a6.length (a6.map i64), sl a7.length (a7.map f32)]), (3, f32 a9), (4, i64 a10), (5, b a11), (15, oref 0 1 0 a0.toNat), (16, sl (([] : List F) ++ a8).length ((([] : List F) ++ a8).map f32)), (18, sl (([] : List F) ++ l3).length ((([] : List F) ++ l3).map f32)), (19, f32 r6), (20, i64 0)] rfl rfl rfl ⟨.inl rfl, .inl rfl, .inl rfl, .inl rfl, .inl rfl, .inl rfl, .inl rfl, .inr (Bor.own (f := f32) (fun _ => rfl) rfl (show (([] : List F) ++ l3).length = (0 + l3.length) from (app_len rfl rfl))), .inl rfl, .inl rfl, trivial⟩) (Le.of ⟨aR, aR, aR, aR, aR, aR, aR, aR, aR, aR, trivial⟩ ⟨⟨rfl, .inr rfl⟩, ⟨rfl, .inl rfl⟩, ⟨rfl, .inl rfl⟩, ⟨rfl, .inl rfl⟩, ⟨rfl, .inl rfl⟩, trivial⟩))⟩))
    rintro ⟨L11, l13, l14, y15, v16⟩ τ13 Γ13 y13_ ⟨u7, u8, u9, u10, hl12, hw13⟩ h13_ ho13 hr13
    refine RunC.le (τ' := [(0, ptr [i64 a0, sl a1.length (a1.map i64), sl a2.length (a2.map i64), sl a3.length (a3.map f32)]), (1, ptr [i64 a4, sl a5.length (a5.map i64), sl a6.length (a6.map i64), sl a7.length (a7.map f32)]), (3, f32 a9), (4, i64 a10), (5, b a11), (15, oref 0 1 0 a0.toNat), (16, sl l13.length (l13.map f32)), (18, sl l14.length (l14.map f32)), (19, f32 y15), (20, i64 v16)]) (Γ' := [⟨1, some (L11.map f32)⟩, ⟨u7, none⟩, ⟨u8, none⟩, ⟨u9, none⟩, ⟨u10, none⟩]) hw13 ?_
    replace hl12 : L11.length = a0.toNat := hl12
    replace h13_ : s_l05Gradient_b11 a0 a1 a2 a3 a4 a5 a6 a7 a9 a10 a11 L11 l13 l14 y15 v16 = some y13_ := h13_
    unfold s_l05Gradient_b11 at h13_
    refine RunC.seq ?_
    refine RunC.seq ?_
    rcases bsel_some h13_ with ⟨hc9, h13_⟩ | ⟨hc9, h13_⟩
    ·obtain ⟨r17, hf10, h13_⟩ := obind_some h13_
     rcases bsel_some h13_ with ⟨hc11, h13_⟩ | ⟨hc11, h13_⟩
     ·refine RunC.regionW ?_
      refine zM (r := i64 v16) rfl rfl rfl rfl rfl ?_
      refine zM (r := i64 a10) rfl rfl rfl rfl rfl ?_
      refine zL (r := b true) rfl rfl rfl (LOp.eqb (LOp.lss rfl rfl rfl) hc9) ?_
      refine zM (r := b true) rfl rfl rfl rfl rfl ?_
      refine zM (r := sl l13.length (l13.map f32)) rfl rfl rfl rfl rfl ?_
      refine ROps.d (r := f32 r17) (fs := []) (Γ' := [⟨1, some (L11.map f32)⟩, ⟨u7, none⟩, ⟨u8, none⟩, ⟨u9, none⟩, ⟨u10, none⟩]) rfl rfl rfl (TOp.callB (CallAs.func ent82 rfl rfl) (Bors.cons (Bor.sl (fun _ => rfl)) Bors.nil) rfl rfl (s_l05Norm_ok l13 r17 hf10)) rfl ?_
      refine zM (r := f32 a9) rfl rfl rfl rfl rfl ?_
      refine zL (r := b true) rfl rfl rfl (LOp.eqb (LOp.fgt rfl (OpF.tmp rfl) (OpF.tmp rfl)) hc11) ?_
      refine zL (r := b true) rfl rfl rfl (LOp.pick_true rfl rfl rfl) ?_
      refine zN ?_
      refine RunC.cond_true rfl rfl ?_
      refine RunC.skip ?_
      refine RunC.block ?_
      refine RunC.seq ?_
      obtain ⟨r18, hf12, h13_⟩ := obind_some h13_
      refine RunC.regionW ?_
      refine zM (r := ptr [i64 a0, sl a1.length (a1.map i64), sl a2.length (a2.map i64), sl a3.length (a3.map f32)]) rfl rfl rfl rfl rfl ?_
      refine zM (r := sl l14.length (l14.map f32)) rfl rfl rfl rfl rfl ?_
      refine ROps.d (r := oref 1 (u7 + 1) 0 r18.length) (fs := [(1, (r18.map f32))]) (Γ' := [⟨1, some (L11.map f32)⟩, ⟨(u7 + 1), some (r18.map f32)⟩, ⟨u8, none⟩, ⟨u9, none⟩, ⟨u10, none⟩]) rfl rfl rfl (TOp.eqr (TOp.callBN (ls := [(r18.map f32)]) [1] (CallAs.func ent83 rfl rfl) (Bors.cons (Bor.ptr (Bors.cons (Bor.pure rfl) (Bors.cons (Bor.sl (fun _ => rfl)) (Bors.cons (Bor.sl (fun _ => rfl)) (Bors.cons (Bor.sl (fun _ => rfl)) Bors.nil))))) (Bors.cons (Bor.sl (fun _ => rfl)) Bors.nil)) rfl (s_l05Times_ok a0 a1 a2 a3 l14 r18 hf12) (and_all (lts0_map (f := f32) (fun _ => rfl) _) rfl) (and_all (noss_map (f := f32) (fun _ => rfl) _) rfl) rfl (by decide) (ns_of ⟨⟨_, rfl⟩, trivial⟩)) (by simp [ren, rens, sigma, newNames])) rfl ?_
      refine zA (r := oref 1 (u7 + 1) 0 r18.length) rfl rfl rfl rfl rfl ?_
      refine zN ?_
      refine RunC.seq ?_
      obtain ⟨r19, hf13, h13_⟩ := obind_some h13_
      refine RunC.regionW ?_
      refine zM (r := sl l14.length (l14.map f32)) rfl rfl rfl rfl rfl ?_
      refine zM (r := oref 1 (u7 + 1) 0 r18.length) rfl rfl rfl rfl rfl ?_
      refine ROps.d (r := f32 r19) (fs := []) (Γ' := [⟨1, some (L11.map f32)⟩, ⟨(u7 + 1), some (r18.map f32)⟩, ⟨u8, none⟩, ⟨u9, none⟩, ⟨u10, none⟩]) rfl rfl rfl (TOp.callB (CallAs.func ent81 rfl rfl) (Bors.cons (Bor.sl (fun _ => rfl)) (Bors.cons (Bor.own (f := f32) (fun _ => rfl) rfl rfl) Bors.nil)) rfl rfl (s_l02Dot_ok l14 r18 r19 hf13)) rfl ?_
      refine zA (r := f32 r19) rfl rfl rfl rfl rfl ?_
      refine zN ?_
      refine RunC.seq ?_
      refine RunC.seq ?_
      rcases bsel_some h13_ with ⟨hc14, h13_⟩ | ⟨hc14, h13_⟩
      ·obtain ⟨r20, hf15, h13_⟩ := obind_some h13_
       rcases bsel_some h13_ with ⟨hc16, h13_⟩ | ⟨hc16, h13_⟩
       ·obtain ⟨r21, hf17, h13_⟩ := obind_some h13_
        rcases bsel_some h13_ with ⟨hc18, h13_⟩ | ⟨hc18, h13_⟩
        ·refine RunC.regionW ?_
         refine zM (r := f32 r19) rfl rfl rfl rfl rfl ?_
         refine zL (r := b true) rfl rfl rfl (LOp.eqb (LOp.fgt rfl (OpF.tmp rfl) (OpF.const rfl (by kernel_rfl) (by kernel_rfl))) hc14) ?_
         refine zL (r := b false) rfl rfl rfl (LOp.eqb (LOp.not rfl rfl) rfl) ?_
         refine zM (r := b false) rfl rfl rfl rfl rfl ?_
         refine zM (r := f32 r19) rfl rfl rfl rfl rfl ?_
         refine ROps.d (r := b true) (fs := []) (Γ' := [⟨1, some (L11.map f32)⟩, ⟨(u7 + 1), some (r18.map f32)⟩, ⟨u8, none⟩, ⟨u9, none⟩, ⟨u10, none⟩]) rfl rfl rfl (TOp.eqb (TOp.callB (CallAs.func ent79 rfl rfl) (Bors.cons (Bor.pure rfl) Bors.nil) rfl rfl (s_l01Finite_ok r19 r20 hf15)) hc16) rfl ?_
         refine zL (r := b false) rfl rfl rfl (LOp.eqb (LOp.not rfl rfl) rfl) ?_
         refine zL (r := b false) rfl rfl rfl (LOp.pick_false rfl rfl rfl) ?_
         refine zM (r := b false) rfl rfl rfl rfl rfl ?_
         refine zM (r := f32 y15) rfl rfl rfl rfl rfl ?_
         refine ROps.d (r := b true) (fs := []) (Γ' := [⟨1, some (L11.map f32)⟩, ⟨(u7 + 1), some (r18.map f32)⟩, ⟨u8, none⟩, ⟨u9, none⟩, ⟨u10, none⟩]) rfl rfl rfl (TOp.eqb (TOp.callB (CallAs.func ent79 rfl rfl) (Bors.cons (Bor.pure rfl) Bors.nil) rfl rfl (s_l01Finite_ok y15 r21 hf17)) hc18) rfl ?_
         refine zL (r := b false) rfl rfl rfl (LOp.eqb (LOp.not rfl rfl) rfl) ?_
         refine zL (r := b false) rfl rfl rfl (LOp.pick_false rfl rfl rfl) ?_
         refine zN ?_
         refine RunC.wl (τ' := [(0, ptr [i64 a0, sl a1.length (a1.map i64), sl a2.length (a2.map i64), sl a3.length (a3.map f32)]), (1, ptr [i64 a4, sl a5.length (a5.map i64), sl a6.length (a6.map i64), sl a7.length (a7.map f32)]), (3, f32 a9), (4, i64 a10), (5, b a11), (15, oref 0 1 0 a0.toNat), (16, sl l13.length (l13.map f32)), (18, sl l14.length (l14.map f32)), (19, f32 y15), (20, i64 v16), (21, oref 1 (u7 + 1) 0 r18.length), (22, f32 r19), (56, sl l13.length (l13.map f32)), (57, f32 r17), (58, f32 a9), (59, b true), (71, f32 r19), (72, b true), (73, b false), (76, f32 y15), (77, b true), (78, b false), (79, b false)]) (Γ' := [⟨1, some (L11.map f32)⟩, ⟨(u7 + 1), some (r18.map f32)⟩, ⟨u8, none⟩, ⟨u9, none⟩, ⟨u10, none⟩]) ⟨aR, aR, aR, aR, aR, aR, aR, aR, aR, aR, aR, aR, aR, aR, aR, aR, aR, aR, aR, aR, aR, aR, aR, trivial⟩ ⟨⟨rfl, .inr rfl⟩, ⟨rfl, .inr rfl⟩, ⟨rfl, .inl rfl⟩, ⟨rfl, .inl rfl⟩, ⟨rfl, .inl rfl⟩, trivial⟩ ?_
         refine RunC.cond_false rfl rfl ?_
         refine RunC.skip ?_
         refine RunC.seq ?_
         obtain ⟨x22, hx19, h13_⟩ := olet_some h13_
         refine RunC.regionW ?_
         refine zM (r := f32 y15) rfl rfl rfl rfl rfl ?_
         refine zM (r := f32 r19) rfl rfl rfl rfl rfl ?_
         refine ROps.d (r := f32 x22) (fs := []) (Γ' := [⟨1, some (L11.map f32)⟩, ⟨(u7 + 1), some (r18.map f32)⟩, ⟨u8, none⟩, ⟨u9, none⟩, ⟨u10, none⟩]) rfl rfl rfl (TOp.eqr (TOp.fop (.inr (.inr (.inr rfl))) rfl (OpF.tmp rfl) (OpF.tmp rfl)) (congrArg (f .f32) hx19)) rfl ?_
         refine zA (r := f32 x22) rfl rfl rfl rfl rfl ?_
         refine zN ?_
         refine zQ ?_
         refine ROps.d (r := oref 2 (u8 + 1) 0 0) (fs := [(2, (([] : List F).map f32))]) (Γ' := [⟨1, some (L11.map f32)⟩, ⟨(u7 + 1), some (r18.map f32)⟩, ⟨(u8 + 1), some (([] : List F).map f32)⟩, ⟨u9, none⟩, ⟨u10, none⟩]) rfl rfl rfl (TOp.buildSlice_o (g := ⟨u8, none⟩) (za := f32 (some 0)) (qs := []) 2 rfl und23 siz26 zer26 rfl zel26 rfl rfl trivial rfl) rfl ?_
         refine zA (r := oref 2 (u8 + 1) 0 0) rfl rfl rfl rfl rfl ?_
         refine zN ?_
         refine RunC.seq ?_
         refine zQ ?_
         refine zM (r := oref 0 1 0 a0.toNat) rfl rfl rfl rfl rfl ?_
         refine zL (r := i64 ((a0.toNat : Nat) : Int)) rfl rfl rfl (LOp.len_oref und23 rfl rfl) ?_
         refine zM (r := i64 0) rfl rfl rfl rfl rfl ?_
         refine zN ?_
         obtain ⟨z14, hz_14, h13_⟩ := obind_some h13_
         refine RunC.cutN (fun τ Γ => ∃ (L41 : List F) (L43 : List F) (u39 : Nat) (u40 : Nat), L41.length = a0.toNat ∧ Le 341 τ Γ [(0, ptr [i64 a0, sl a1.length (a1.map i64), sl a2.length (a2.map i64), sl a3.length (a3.map f32)]), (1, ptr [i64 a4, sl a5.length (a5.map i64), sl a6.length (a6.map i64), sl a7.length (a7.map f32)]), (3, f32 a9), (4, i64 a10), (5, b a11), (15, oref 0 1 0 a0.toNat), (18, sl l14.length (l14.map f32)), (19, f32 y15), (20, i64 v16), (24, oref 2 u39 0 L43.length), (56, sl l13.length (l13.map f32)), (57, f32 r17), (58, f32 a9), (59, b true), (71, f32 r19), (72, b true), (73, b false), (76, f32 y15), (77, b true), (78, b false)] [⟨1, some (L41.map f32)⟩, ⟨(u7 + 1), none⟩, ⟨u39, some (L43.map f32)⟩, ⟨u40, none⟩, ⟨u10, none⟩] ∧ z14 = .inl (L41, L43)) ?_ ?_
         ·refine RunC.block (RunC.loop (RunL.loopM (x := z14) (s_l05Gradient_s8 a0 l13 l14 r18 x22) (fun (s : (List F) × (List F) × Int) τ Γ => ∃ (u23 : Nat) (u24 : Nat), s.1.length = a0.toNat ∧ Le 341 τ Γ [(0, ptr [i64 a0, sl a1.length (a1.map i64), sl a2.length (a2.map i64), sl a3.length (a3.map f32)]), (1, ptr [i64 a4, sl a5.length (a5.map i64), sl a6.length (a6.map i64), sl a7.length (a7.map f32)]), (3, f32 a9), (4, i64 a10), (5, b a11), (15, oref 0 1 0 a0.toNat), (16, sl l13.length (l13.map f32)), (18, sl l14.length (l14.map f32)), (19, f32 y15), (20, i64 v16), (21, oref 1 (u7 + 1) 0 r18.length), (23, f32 x22), (24, oref 2 u23 0 s.2.1.length), (56, sl l13.length (l13.map f32)), (57, f32 r17), (58, f32 a9), (59, b true), (71, f32 r19), (72, b true), (73, b false), (76, f32 y15), (77, b true), (78, b false), (85, i64 ((a0.toNat : Nat) : Int)), (86, i64 s.2.2)] [⟨1, some (s.1.map f32)⟩, ⟨(u7 + 1), some (r18.map f32)⟩, ⟨u23, some (s.2.1.map f32)⟩, ⟨u24, none⟩, ⟨u10, none⟩]) ?_ _ _ _ hz_14 ⟨(u8 + 1), u9, hl12, (Le.of ⟨aR, aR, aR, aR, aR, aR, aR, aR, aR, aR, aR, aR, aR, aR, aR, aR, aR, aR, aR, aR, aR, aR, aR, aR, aR, trivial⟩ ⟨⟨rfl, .inr rfl⟩, ⟨rfl, .inr rfl⟩, ⟨rfl, .inr rfl⟩, ⟨rfl, .inl rfl⟩, ⟨rfl, .inl rfl⟩, trivial⟩)⟩))
          rintro ⟨L25, L27, v28⟩ τ14 Γ14 y14_ ⟨u23, u24, hl26, hw14⟩ h14_ ho14 hr14
          refine RunC.le (τ' := [(0, ptr [i64 a0, sl a1.length (a1.map i64), sl a2.length (a2.map i64), sl a3.length (a3.map f32)]), (1, ptr [i64 a4, sl a5.length (a5.map i64), sl a6.length (a6.map i64), sl a7.length (a7.map f32)]), (3, f32 a9), (4, i64 a10), (5, b a11), (15, oref 0 1 0 a0.toNat), (16, sl l13.length (l13.map f32)), (18, sl l14.length (l14.map f32)), (19, f32 y15), (20, i64 v16), (21, oref 1 (u7 + 1) 0 r18.length), (23, f32 x22), (24, oref 2 u23 0 L27.length), (56, sl l13.length (l13.map f32)), (57, f32 r17), (58, f32 a9), (59, b true), (71, f32 r19), (72, b true), (73, b false), (76, f32 y15), (77, b true), (78, b false), (85, i64 ((a0.toNat : Nat) : Int)), (86, i64 v28)]) (Γ' := [⟨1, some (L25.map f32)⟩, ⟨(u7 + 1), some (r18.map f32)⟩, ⟨u23, some (L27.map f32)⟩, ⟨u24, none⟩, ⟨u10, none⟩]) hw14 ?_
          replace hl26 : L25.length = a0.toNat := hl26
          replace h14_ : s_l05Gradient_b8 a0 l13 l14 r18 x22 L25 L27 v28 = some y14_ := h14_
          unfold s_l05Gradient_b8 at h14_
          refine RunC.seq ?_
          rcases bsel_some h14_ with ⟨hc20, h14_⟩ | ⟨hc20, h14_⟩
          ·refine RunC.regionW ?_
           refine zL (r := b true) rfl rfl rfl (LOp.eqb (LOp.lss rfl rfl rfl) hc20) ?_
           refine zN ?_
           refine RunC.seq ?_
           refine RunC.cond_true rfl rfl ?_
           refine RunC.skip ?_
           refine RunC.seq ?_
           refine RunC.block ?_
           refine zQ ?_
           refine zM (r := i64 v28) rfl rfl rfl rfl rfl ?_
           refine zA (r := i64 v28) rfl rfl rfl rfl rfl ?_
           refine zN ?_
           refine RunC.seq ?_
           obtain ⟨e29, he21, h14_⟩ := obind_some h14_
           obtain ⟨e30, he22, h14_⟩ := obind_some h14_
           obtain ⟨x31, hx23, h14_⟩ := olet_some h14_
           obtain ⟨x32, hx24, h14_⟩ := olet_some h14_
           obtain ⟨L33, he25, h14_⟩ := obind_some h14_
           refine RunC.region_draw (Γ' := [⟨1, some (L25.map f32)⟩, ⟨(u7 + 1), some (r18.map f32)⟩, ⟨u23, some (L27.map f32)⟩, ⟨u24, none⟩, ⟨u10, none⟩]) 14 mixed 
            (TR.l (r := oref 0 1 0 a0.toNat) rfl rfl (LOp.move rfl rfl) <|
            (TR.l (r := i64 v28) rfl rfl (LOp.move rfl rfl) <|
            (TR.l (r := oref 0 1 0 a0.toNat) rfl rfl (LOp.move rfl rfl) <|
            (TR.l (r := i64 v28) rfl rfl (LOp.move rfl rfl) <|
            (TR.d (r := optr 0 1 v28.toNat) (fs := []) rfl rfl (TOp.ixo und23 siz26 rfl rfl rfl (at_in he21 hl26) rfl) <|
            (TR.d (r := f32 e29) (fs := []) rfl rfl (TOp.load1_o rfl (at_cell he21) agg26 rfl rfl) <|
            (TR.l (r := f32 x22) rfl rfl (LOp.move rfl rfl) <|
            (TR.l (r := sl l14.length (l14.map f32)) rfl rfl (LOp.move rfl rfl) <|
            (TR.l (r := i64 v28) rfl rfl (LOp.move rfl rfl) <|
            (TR.l (r := ptr [f32 e30]) rfl rfl (LOp.le (LOp.ix (f := f32) und23 siz26 rfl rfl rfl rfl he22) ALe.ptr) <|
            (TR.l (r := f32 e30) rfl rfl (LOp.load1 agg26 rfl rfl) <|
            (TR.d (r := f32 x31) (fs := []) rfl rfl (TOp.eqr (TOp.fop (.inr (.inr (.inl rfl))) rfl (OpF.tmp rfl) (OpF.tmp rfl)) (congrArg (f .f32) hx23)) <|
            (TR.d (r := f32 x32) (fs := []) rfl rfl (TOp.eqr (TOp.fop (.inl rfl) rfl (OpF.tmp rfl) (OpF.tmp rfl)) (congrArg (f .f32) hx24)) <|
            (TR.d (r := optr 0 1 v28.toNat) (fs := []) rfl rfl (TOp.ixo und23 siz26 rfl rfl rfl (set_in he25 hl26) rfl) <|
            TR.nil)))))))))))))) rfl (by kernel_rfl) rfl fills_nil rfl ?_
           iterate 14 refine ROps.dropS ?_
           refine ROps.drop0 ?_
           refine ROps.st (f := f32) (i := v28) (Γ' := [⟨1, some (L33.map f32)⟩, ⟨(u7 + 1), some (r18.map f32)⟩, ⟨u23, some (L27.map f32)⟩, ⟨u24, none⟩, ⟨u10, none⟩]) rfl siz26 rfl rfl rfl aR rfl rfl rfl he25 rfl ?_
           refine zN ?_
           refine RunC.wl (τ' := [(0, ptr [i64 a0, sl a1.length (a1.map i64), sl a2.length (a2.map i64), sl a3.length (a3.map f32)]), (1, ptr [i64 a4, sl a5.length (a5.map i64), sl a6.length (a6.map i64), sl a7.length (a7.map f32)]), (3, f32 a9), (4, i64 a10), (5, b a11), (15, oref 0 1 0 a0.toNat), (16, sl l13.length (l13.map f32)), (18, sl l14.length (l14.map f32)), (19, f32 y15), (20, i64 v16), (21, oref 1 (u7 + 1) 0 r18.length), (23, f32 x22), (24, oref 2 u23 0 L27.length), (25, i64 v28), (56, sl l13.length (l13.map f32)), (57, f32 r17), (58, f32 a9), (59, b true), (71, f32 r19), (72, b true), (73, b false), (76, f32 y15), (77, b true), (78, b false), (85, i64 ((a0.toNat : Nat) : Int)), (86, i64 v28)]) (Γ' := [⟨1, some (L33.map f32)⟩, ⟨(u7 + 1), some (r18.map f32)⟩, ⟨u23, some (L27.map f32)⟩, ⟨u24, none⟩, ⟨u10, none⟩]) ⟨aR, aR, aR, aR, aR, aR, aR, aR, aR, aR, aR, aR, aR, aR, aR, aR, aR, aR, aR, aR, aR, aR, aR, aR, aR, aR, trivial⟩ ⟨⟨rfl, .inr rfl⟩, ⟨rfl, .inr rfl⟩, ⟨rfl, .inr rfl⟩, ⟨rfl, .inl rfl⟩, ⟨rfl, .inl rfl⟩, trivial⟩ ?_
           obtain ⟨e34, he26, h14_⟩ := obind_some h14_
           obtain ⟨e35, he27, h14_⟩ := obind_some h14_
           obtain ⟨x36, hx28, h14_⟩ := olet_some h14_
           obtain ⟨x37, hx29, h14_⟩ := olet_some h14_
           obtain ⟨hm30, h14_⟩ := need_some h14_
           refine RunC.region_draw (Γ' := [⟨1, some (L33.map f32)⟩, ⟨(u7 + 1), some (r18.map f32)⟩, ⟨u23, some (L27.map f32)⟩, ⟨(u24 + 1), some (([x37] : List F).map f32)⟩, ⟨u10, none⟩]) 13 mixed 
            (TR.l (r := oref 2 u23 0 L27.length) rfl rfl (LOp.move rfl rfl) <|
            (TR.l (r := sl l13.length (l13.map f32)) rfl rfl (LOp.move rfl rfl) <|
            (TR.l (r := i64 v28) rfl rfl (LOp.move rfl rfl) <|
            (TR.l (r := ptr [f32 e34]) rfl rfl (LOp.le (LOp.ix (f := f32) und23 siz26 rfl rfl rfl rfl he26) ALe.ptr) <|
            (TR.l (r := f32 e34) rfl rfl (LOp.load1 agg26 rfl rfl) <|
            (TR.l (r := f32 x22) rfl rfl (LOp.move rfl rfl) <|
            (TR.l (r := oref 1 (u7 + 1) 0 r18.length) rfl rfl (LOp.move rfl rfl) <|
            (TR.l (r := i64 v28) rfl rfl (LOp.move rfl rfl) <|
            (TR.d (r := optr 1 (u7 + 1) v28.toNat) (fs := []) rfl rfl (TOp.ixo und23 siz26 rfl rfl rfl (at_in he27 rfl) rfl) <|
            (TR.d (r := f32 e35) (fs := []) rfl rfl (TOp.load1_o rfl (at_cell he27) agg26 rfl rfl) <|
            (TR.d (r := f32 x36) (fs := []) rfl rfl (TOp.eqr (TOp.fop (.inr (.inr (.inl rfl))) rfl (OpF.tmp rfl) (OpF.tmp rfl)) (congrArg (f .f32) hx28)) <|
            (TR.d (r := f32 x37) (fs := []) rfl rfl (TOp.eqr (TOp.fop (.inr (.inl rfl)) rfl (OpF.tmp rfl) (OpF.tmp rfl)) (congrArg (f .f32) hx29)) <|
            (TR.d (r := oref 3 (u24 + 1) 0 1) (fs := [(3, (([x37] : List F).map f32))]) rfl rfl (TOp.buildSlice_o (g := ⟨u24, none⟩) (za := f32 (some 0)) (qs := [(0, [f32 x37])]) 3 rfl und23 siz26 zer26 rfl zel26 rfl rfl ⟨rfl, ⟨_, ALe.refl _, rfl⟩, trivial⟩ rfl) <|
            TR.nil))))))))))))) rfl (by kernel_rfl) rfl (fills_of (by show List.Nodup [3]; decide) ⟨⟨_, rfl⟩, trivial⟩) rfl ?_
           iterate 13 refine ROps.dropS ?_
           refine ROps.drop0 ?_
           refine ROps.app (f := f32) (xs := L27) (ys := ([x37] : List F)) (Γ' := [⟨1, some (L33.map f32)⟩, ⟨(u7 + 1), some (r18.map f32)⟩, ⟨(u23 + 1), some ((L27 ++ ([x37] : List F)).map f32)⟩, ⟨(u24 + 1), some (([x37] : List F).map f32)⟩, ⟨u10, none⟩]) rfl pun23 inf26 rfl rfl rfl rfl rfl rfl rfl rfl rfl (by simp) (ReadAs.own rfl (by simp)) (ones_map (fun _ => rfl)) (ap_by hm30) (ap_mx hm30) rfl ?_
           refine zA (r := oref 2 (u23 + 1) 0 (L27.length + 1)) rfl rfl rfl rfl rfl ?_
           refine zN ?_
           refine RunC.wl (τ' := [(0, ptr [i64 a0, sl a1.length (a1.map i64), sl a2.length (a2.map i64), sl a3.length (a3.map f32)]), (1, ptr [i64 a4, sl a5.length (a5.map i64), sl a6.length (a6.map i64), sl a7.length (a7.map f32)]), (3, f32 a9), (4, i64 a10), (5, b a11), (15, oref 0 1 0 a0.toNat), (16, sl l13.length (l13.map f32)), (18, sl l14.length (l14.map f32)), (19, f32 y15), (20, i64 v16), (21, oref 1 (u7 + 1) 0 r18.length), (23, f32 x22), (24, oref 2 (u23 + 1) 0 (L27.length + 1)), (56, sl l13.length (l13.map f32)), (57, f32 r17), (58, f32 a9), (59, b true), (71, f32 r19), (72, b true), (73, b false), (76, f32 y15), (77, b true), (78, b false), (85, i64 ((a0.toNat : Nat) : Int)), (86, i64 v28)]) (Γ' := [⟨1, some (L33.map f32)⟩, ⟨(u7 + 1), some (r18.map f32)⟩, ⟨(u23 + 1), some ((L27 ++ ([x37] : List F)).map f32)⟩, ⟨(u24 + 1), none⟩, ⟨u10, none⟩]) ⟨aR, aR, aR, aR, aR, aR, aR, aR, aR, aR, aR, aR, aR, aR, aR, aR, aR, aR, aR, aR, aR, aR, aR, aR, aR, trivial⟩ ⟨⟨rfl, .inr rfl⟩, ⟨rfl, .inr rfl⟩, ⟨rfl, .inr rfl⟩, ⟨rfl, .inl rfl⟩, ⟨rfl, .inl rfl⟩, trivial⟩ ?_
           obtain ⟨x38, hx31, h14_⟩ := olet_some h14_
           refine RunC.regionW ?_
           refine zL (r := i64 x38) rfl rfl rfl (LOp.eqr (LOp.add rfl rfl rfl) (congrArg (ik .i64) hx31)) ?_
           refine zM (r := i64 x38) rfl rfl rfl rfl rfl ?_
           refine zN ?_
           cases Option.some.inj h14_
           exact ⟨_, rfl, (u23 + 1), (u24 + 1), ((setAt?_len he25).trans hl26), (Le.of ⟨aR, aR, aR, aR, aR, aR, aR, aR, aR, aR, aR, aR, (by first | exact ALe.refl _ | exact ALe.eq (by rw [(app_len rfl rfl)] <;> rfl) | exact ALe.eq (by simp)), aR, aR, aR, aR, aR, aR, aR, aR, aR, aR, aR, aR, trivial⟩ ⟨⟨rfl, .inr rfl⟩, ⟨rfl, .inr rfl⟩, ⟨rfl, .inr rfl⟩, ⟨rfl, .inl rfl⟩, ⟨rfl, .inl rfl⟩, trivial⟩)⟩
          ·refine RunC.regionW ?_
           refine zL (r := b false) rfl rfl rfl (LOp.eqb (LOp.lss rfl rfl rfl) hc20) ?_
           refine zN ?_
           refine RunC.seq ?_
           refine RunC.cond_false rfl rfl ?_
           refine RunC.exit ?_
           cases Option.some.inj h14_
           have hx := ho14 _ rfl
           exact ⟨L25, L27, u23, u24, hl26, (Le.of ⟨aR, aR, aR, aR, aR, aR, aR, aR, aR, aR, aR, aR, aR, aR, aR, aR, aR, aR, aR, aR, trivial⟩ ⟨⟨rfl, .inr rfl⟩, ⟨rfl, .inl rfl⟩, ⟨rfl, .inr rfl⟩, ⟨rfl, .inl rfl⟩, ⟨rfl, .inl rfl⟩, trivial⟩), hx⟩
         ·rintro τ15 Γ15 ⟨L41, L43, u39, u40, hl42, hw15, rfl⟩
          refine RunC.le hw15 ?_
          replace h13_ : s_l05Gradient_k8 a4 a5 a6 a7 a11 l14 y15 v16 L41 L43 = some y13_ := h13_
          unfold s_l05Gradient_k8 at h13_
          refine zQ ?_
          refine zM (r := oref 2 u39 0 L43.length) rfl rfl rfl rfl rfl ?_
          refine zA (r := oref 2 u39 0 L43.length) rfl rfl rfl rfl rfl ?_
          refine zN ?_
          refine zQ ?_
          refine zM (r := oref 2 u39 0 L43.length) rfl rfl rfl rfl rfl ?_
          refine zA (r := oref 2 u39 0 L43.length) rfl rfl rfl rfl rfl ?_
          refine zN ?_
          refine RunC.seq ?_
          refine RunC.cutN (fun τ Γ => ∃ (l47 : List F) (u46 : Nat), L41.length = a0.toNat ∧ Le 341 τ Γ [(0, ptr [i64 a0, sl a1.length (a1.map i64), sl a2.length (a2.map i64), sl a3.length (a3.map f32)]), (1, ptr [i64 a4, sl a5.length (a5.map i64), sl a6.length (a6.map i64), sl a7.length (a7.map f32)]), (3, f32 a9), (4, i64 a10), (5, b a11), (15, oref 0 1 0 a0.toNat), (16, sl L43.length (L43.map f32)), (17, sl l47.length (l47.map f32)), (18, sl l14.length (l14.map f32)), (19, f32 y15), (20, i64 v16), (56, sl l13.length (l13.map f32)), (57, f32 r17), (58, f32 a9), (59, b true), (71, f32 r19), (72, b true), (73, b false), (76, f32 y15), (77, b true), (78, b false)] [⟨1, some (L41.map f32)⟩, ⟨u46, none⟩, ⟨u39, none⟩, ⟨u40, none⟩, ⟨u10, none⟩] ∧ s_l05Gradient_k9 l14 y15 v16 L41 L43 l47 = some y13_) ?_ ?_
          ·refine RunC.seq ?_
           rcases bsel_some h13_ with ⟨hc32, h13_⟩ | ⟨hc32, h13_⟩
           ·refine RunC.regionW ?_
            refine zL (r := b true) rfl rfl rfl (LOp.eqb (LOp.move rfl rfl) hc32) ?_
            refine zN ?_
            refine RunC.cond_true rfl rfl ?_
            refine RunC.seq ?_
            obtain ⟨r44, hf33, h13_⟩ := obind_some h13_
            refine RunC.regionW ?_
            refine zM (r := ptr [i64 a4, sl a5.length (a5.map i64), sl a6.length (a6.map i64), sl a7.length (a7.map f32)]) rfl rfl rfl rfl rfl ?_
            refine zM (r := oref 2 u39 0 L43.length) rfl rfl rfl rfl rfl ?_
            refine ROps.d (r := oref 1 (u7 + 2) 0 r44.length) (fs := [(1, (r44.map f32))]) (Γ' := [⟨1, some (L41.map f32)⟩, ⟨(u7 + 2), some (r44.map f32)⟩, ⟨u39, some (L43.map f32)⟩, ⟨u40, none⟩, ⟨u10, none⟩]) rfl rfl rfl (TOp.eqr (TOp.callBN (ls := [(r44.map f32)]) [1] (CallAs.func ent80 rfl rfl) (Bors.cons (Bor.ptr (Bors.cons (Bor.pure rfl) (Bors.cons (Bor.sl (fun _ => rfl)) (Bors.cons (Bor.sl (fun _ => rfl)) (Bors.cons (Bor.sl (fun _ => rfl)) Bors.nil))))) (Bors.cons (Bor.own (f := f32) (fun _ => rfl) rfl rfl) Bors.nil)) rfl (s_l05Solve_ok a4 a5 a6 a7 L43 r44 hf33) (and_all (lts0_map (f := f32) (fun _ => rfl) _) rfl) (and_all (noss_map (f := f32) (fun _ => rfl) _) rfl) rfl (by decide) (ns_of ⟨⟨_, rfl⟩, trivial⟩)) (by simp [ren, rens, sigma, newNames])) rfl ?_
            refine zA (r := oref 1 (u7 + 2) 0 r44.length) rfl rfl rfl rfl rfl ?_
            refine zN ?_
            refine RunC.seq ?_
            obtain ⟨r45, hf34, h13_⟩ := obind_some h13_
            rcases bsel_some h13_ with ⟨hc35, h13_⟩ | ⟨hc35, h13_⟩
            ·refine RunC.regionW ?_
             refine zM (r := oref 1 (u7 + 2) 0 r44.length) rfl rfl rfl rfl rfl ?_
             refine ROps.d (r := b true) (fs := []) (Γ' := [⟨1, some (L41.map f32)⟩, ⟨(u7 + 2), some (r44.map f32)⟩, ⟨u39, some (L43.map f32)⟩, ⟨u40, none⟩, ⟨u10, none⟩]) rfl rfl rfl (TOp.eqb (TOp.callB (CallAs.func ent78 rfl rfl) (Bors.cons (Bor.own (f := f32) (fun _ => rfl) rfl rfl) Bors.nil) rfl rfl (s_l02Finite_ok r44 r45 hf34)) hc35) rfl ?_
             refine zL (r := b false) rfl rfl rfl (LOp.eqb (LOp.not rfl rfl) rfl) ?_
             refine zN ?_
             refine RunC.cond_false rfl rfl ?_
             refine RunC.skip ?_
             exact ⟨r44, (u7 + 2), hl42, (Le.trans (Le.settle 1 [(0, ptr [i64 a0, sl a1.length (a1.map i64), sl a2.length (a2.map i64), sl a3.length (a3.map f32)]), (1, ptr [i64 a4, sl a5.length (a5.map i64), sl a6.length (a6.map i64), sl a7.length (a7.map f32)]), (3, f32 a9), (4, i64 a10), (5, b a11), (15, oref 0 1 0 a0.toNat), (16, oref 2 u39 0 L43.length), (17, sl r44.length (r44.map f32)), (18, sl l14.length (l14.map f32)), (19, f32 y15), (20, i64 v16), (56, sl l13.length (l13.map f32)), (57, f32 r17), (58, f32 a9), (59, b true), (71, f32 r19), (72, b true), (73, b false), (76, f32 y15), (77, b true), (78, b false)] rfl rfl rfl ⟨.inl rfl, .inl rfl, .inl rfl, .inl rfl, .inl rfl, .inl rfl, .inl rfl, .inr (Bor.own (f := f32) (fun _ => rfl) rfl rfl), .inl rfl, .inl rfl, .inl rfl, .inl rfl, .inl rfl, .inl rfl, .inl rfl, .inl rfl, .inl rfl, .inl rfl, .inl rfl, .inl rfl, .inl rfl, trivial⟩) (Le.trans (Le.settle 2 [(0, ptr [i64 a0, sl a1.length (a1.map i64), sl a2.length (a2.map i64), sl a3.length (a3.map f32)]), (1, ptr [i64 a4, sl a5.length (a5.map i64), sl a6.length (a6.map i64), sl a7.length (a7.map f32)]), (3, f32 a9), (4, i64 a10), (5, b a11), (15, oref 0 1 0 a0.toNat), (16, sl L43.length (L43.map f32)), (17, sl r44.length (r44.map f32)), (18, sl l14.length (l14.map f32)), (19, f32 y15), (20, i64 v16), (56, sl l13.length (l13.map f32)), (57, f32 r17), (58, f32 a9), (59, b true), (71, f32 r19), (72, b true), (73, b false), (76, f32 y15), (77, b true), (78, b false)] rfl rfl rfl ⟨.inl rfl, .inl rfl, .inl rfl, .inl rfl, .inl rfl, .inl rfl, .inr (Bor.own (f := f32) (fun _ => rfl) rfl rfl), .inl rfl, .inl rfl, .inl rfl, .inl rfl, .inl rfl, .inl rfl, .inl rfl, .inl rfl, .inl rfl, .inl rfl, .inl rfl, .inl rfl, .inl rfl, .inl rfl, trivial⟩) (Le.of ⟨aR, aR, aR, aR, aR, aR, aR, aR, aR, aR, aR, aR, aR, aR, aR, aR, aR, aR, aR, aR, aR, trivial⟩ ⟨⟨rfl, .inr rfl⟩, ⟨rfl, .inl rfl⟩, ⟨rfl, .inl rfl⟩, ⟨rfl, .inl rfl⟩, ⟨rfl, .inl rfl⟩, trivial⟩))), h13_⟩
            ·refine RunC.regionW ?_
             refine zM (r := oref 1 (u7 + 2) 0 r44.length) rfl rfl rfl rfl rfl ?_
             refine ROps.d (r := b false) (fs := []) (Γ' := [⟨1, some (L41.map f32)⟩, ⟨(u7 + 2), some (r44.map f32)⟩, ⟨u39, some (L43.map f32)⟩, ⟨u40, none⟩, ⟨u10, none⟩]) rfl rfl rfl (TOp.eqb (TOp.callB (CallAs.func ent78 rfl rfl) (Bors.cons (Bor.own (f := f32) (fun _ => rfl) rfl rfl) Bors.nil) rfl rfl (s_l02Finite_ok r44 r45 hf34)) hc35) rfl ?_
             refine zL (r := b true) rfl rfl rfl (LOp.eqb (LOp.not rfl rfl) rfl) ?_
             refine zN ?_
             refine RunC.cond_true rfl rfl ?_
             refine zQ ?_
             refine zA (r := nilsl) rfl rfl rfl rfl rfl ?_
             refine zA (r := i64 0) rfl rfl rfl rfl rfl ?_
             refine zA (r := b false) rfl rfl rfl rfl rfl ?_
             refine zN ?_
             refine RunC.nil_slot (Γ' := [⟨1, some (L41.map f32)⟩, ⟨(u7 + 2), some (r44.map f32)⟩, ⟨u39, some (L43.map f32)⟩, ⟨(u40 + 1), some (([] : List F).map f32)⟩, ⟨u10, none⟩]) 12 3 rfl rfl rfl ?_
             refine RunC.ret ?_
             cases Option.some.inj h13_
             have hx16_ := hr13 _ rfl
             subst hx16_
             have hq := Option.some.inj h
             obtain ⟨hq0, hq⟩ := Prod.mk.inj hq
             obtain ⟨hq1, hq⟩ := Prod.mk.inj hq
             subst q0
             subst q1
             subst q2
             exact bodyQ.mk (r' := tup [oref 3 (u40 + 1) 0 (([] : List F).length), i64 0, b false]) [(3, (u40 + 1))] (.inr rfl) rfl (show List.Nodup [3] from by decide) (by simp [ren, rens, sigma]) rfl (Res.eq (Res.three rfl (RV.tmp rfl) (RV.tmp rfl) (RV.tmp rfl)) (by rw [(show ([] : List F).length = 0 from rfl)] <;> rfl)) (SelL.arr0 (f := f32) (fun _ => rfl) rfl trivial)
           ·refine RunC.regionW ?_
            refine zL (r := b false) rfl rfl rfl (LOp.eqb (LOp.move rfl rfl) hc32) ?_
            refine zN ?_
            refine RunC.cond_false rfl rfl ?_
            refine RunC.skip ?_
            exact ⟨L43, (u7 + 1), hl42, (Le.trans (Le.settle 2 [(0, ptr [i64 a0, sl a1.length (a1.map i64), sl a2.length (a2.map i64), sl a3.length (a3.map f32)]), (1, ptr [i64 a4, sl a5.length (a5.map i64), sl a6.length (a6.map i64), sl a7.length (a7.map f32)]), (3, f32 a9), (4, i64 a10), (5, b a11), (15, oref 0 1 0 a0.toNat), (16, sl L43.length (L43.map f32)), (17, sl L43.length (L43.map f32)), (18, sl l14.length (l14.map f32)), (19, f32 y15), (20, i64 v16), (56, sl l13.length (l13.map f32)), (57, f32 r17), (58, f32 a9), (59, b true), (71, f32 r19), (72, b true), (73, b false), (76, f32 y15), (77, b true), (78, b false)] rfl rfl rfl ⟨.inl rfl, .inl rfl, .inl rfl, .inl rfl, .inl rfl, .inl rfl, .inr (Bor.own (f := f32) (fun _ => rfl) rfl rfl), .inr (Bor.own (f := f32) (fun _ => rfl) rfl rfl), .inl rfl, .inl rfl, .inl rfl, .inl rfl, .inl rfl, .inl rfl, .inl rfl, .inl rfl, .inl rfl, .inl rfl, .inl rfl, .inl rfl, .inl rfl, trivial⟩) (Le.of ⟨aR, aR, aR, aR, aR, aR, aR, aR, aR, aR, aR, aR, aR, aR, aR, aR, aR, aR, aR, aR, aR, trivial⟩ ⟨⟨rfl, .inr rfl⟩, ⟨rfl, .inl rfl⟩, ⟨rfl, .inl rfl⟩, ⟨rfl, .inl rfl⟩, ⟨rfl, .inl rfl⟩, trivial⟩)), h13_⟩
          ·rintro τ17 Γ17 ⟨l47, u46, hl48, hw17, h13_⟩
           refine RunC.le hw17 ?_
           unfold s_l05Gradient_k9 at h13_
           refine RunC.seq ?_
           obtain ⟨r49, hf36, h13_⟩ := obind_some h13_
           refine RunC.regionW ?_
           refine zM (r := sl L43.length (L43.map f32)) rfl rfl rfl rfl rfl ?_
           refine zM (r := sl l47.length (l47.map f32)) rfl rfl rfl rfl rfl ?_
           refine ROps.d (r := f32 r49) (fs := []) (Γ' := [⟨1, some (L41.map f32)⟩, ⟨u46, none⟩, ⟨u39, none⟩, ⟨u40, none⟩, ⟨u10, none⟩]) rfl rfl rfl (TOp.callB (CallAs.func ent81 rfl rfl) (Bors.cons (Bor.sl (fun _ => rfl)) (Bors.cons (Bor.sl (fun _ => rfl)) Bors.nil)) rfl rfl (s_l02Dot_ok L43 l47 r49 hf36)) rfl ?_
           refine zA (r := f32 r49) rfl rfl rfl rfl rfl ?_
           refine zN ?_
           refine RunC.seq ?_
           obtain ⟨x50, hx37, h13_⟩ := olet_some h13_
           refine RunC.regionW ?_
           refine zM (r := f32 r49) rfl rfl rfl rfl rfl ?_
           refine zM (r := f32 y15) rfl rfl rfl rfl rfl ?_
           refine ROps.d (r := f32 x50) (fs := []) (Γ' := [⟨1, some (L41.map f32)⟩, ⟨u46, none⟩, ⟨u39, none⟩, ⟨u40, none⟩, ⟨u10, none⟩]) rfl rfl rfl (TOp.eqr (TOp.fop (.inr (.inr (.inr rfl))) rfl (OpF.tmp rfl) (OpF.tmp rfl)) (congrArg (f .f32) hx37)) rfl ?_
           refine zA (r := f32 x50) rfl rfl rfl rfl rfl ?_
           refine zN ?_
           refine zQ ?_
           refine ROps.d (r := oref 1 (u46 + 1) 0 0) (fs := [(1, (([] : List F).map f32))]) (Γ' := [⟨1, some (L41.map f32)⟩, ⟨(u46 + 1), some (([] : List F).map f32)⟩, ⟨u39, none⟩, ⟨u40, none⟩, ⟨u10, none⟩]) rfl rfl rfl (TOp.buildSlice_o (g := ⟨u46, none⟩) (za := f32 (some 0)) (qs := []) 1 rfl und23 siz26 zer26 rfl zel26 rfl rfl trivial rfl) rfl ?_
           refine zA (r := oref 1 (u46 + 1) 0 0) rfl rfl rfl rfl rfl ?_
           refine zN ?_
           refine RunC.seq ?_
           refine zQ ?_
           refine zM (r := sl l14.length (l14.map f32)) rfl rfl rfl rfl rfl ?_
           refine zL (r := i64 (l14.length : Int)) rfl rfl rfl (LOp.len_sl und23 rfl rfl) ?_
           refine zM (r := i64 0) rfl rfl rfl rfl rfl ?_
           refine zN ?_
           obtain ⟨z18, hz_18, h13_⟩ := obind_some h13_
           refine RunC.cutN (fun τ Γ => ∃ (L63 : List F) (u60 : Nat) (u61 : Nat), L41.length = a0.toNat ∧ Le 341 τ Γ [(0, ptr [i64 a0, sl a1.length (a1.map i64), sl a2.length (a2.map i64), sl a3.length (a3.map f32)]), (1, ptr [i64 a4, sl a5.length (a5.map i64), sl a6.length (a6.map i64), sl a7.length (a7.map f32)]), (3, f32 a9), (4, i64 a10), (5, b a11), (15, oref 0 1 0 a0.toNat), (16, sl L43.length (L43.map f32)), (20, i64 v16), (26, f32 r49), (28, oref 1 u60 0 L63.length), (56, sl l13.length (l13.map f32)), (57, f32 r17), (58, f32 a9), (59, b true), (71, f32 r19), (72, b true), (73, b false), (76, f32 y15), (77, b true), (78, b false)] [⟨1, some (L41.map f32)⟩, ⟨u60, some (L63.map f32)⟩, ⟨u61, none⟩, ⟨u40, none⟩, ⟨u10, none⟩] ∧ z18 = .inl L63) ?_ ?_
           ·refine RunC.block (RunC.loop (RunL.loopM (x := z18) (s_l05Gradient_s10 l14 l47 x50) (fun (s : (List F) × Int) τ Γ => ∃ (u51 : Nat) (u52 : Nat), Le 341 τ Γ [(0, ptr [i64 a0, sl a1.length (a1.map i64), sl a2.length (a2.map i64), sl a3.length (a3.map f32)]), (1, ptr [i64 a4, sl a5.length (a5.map i64), sl a6.length (a6.map i64), sl a7.length (a7.map f32)]), (3, f32 a9), (4, i64 a10), (5, b a11), (15, oref 0 1 0 a0.toNat), (16, sl L43.length (L43.map f32)), (17, sl l47.length (l47.map f32)), (18, sl l14.length (l14.map f32)), (20, i64 v16), (26, f32 r49), (27, f32 x50), (28, oref 1 u51 0 s.1.length), (56, sl l13.length (l13.map f32)), (57, f32 r17), (58, f32 a9), (59, b true), (71, f32 r19), (72, b true), (73, b false), (76, f32 y15), (77, b true), (78, b false), (135, i64 (l14.length : Int)), (136, i64 s.2)] [⟨1, some (L41.map f32)⟩, ⟨u51, some (s.1.map f32)⟩, ⟨u52, none⟩, ⟨u40, none⟩, ⟨u10, none⟩]) ?_ _ _ _ hz_18 ⟨(u46 + 1), u39, (Le.of ⟨aR, aR, aR, aR, aR, aR, aR, aR, aR, aR, aR, aR, aR, aR, aR, aR, aR, aR, aR, aR, aR, aR, aR, aR, aR, trivial⟩ ⟨⟨rfl, .inr rfl⟩, ⟨rfl, .inr rfl⟩, ⟨rfl, .inl rfl⟩, ⟨rfl, .inl rfl⟩, ⟨rfl, .inl rfl⟩, trivial⟩)⟩))
            rintro ⟨L53, v54⟩ τ18 Γ18 y18_ ⟨u51, u52, hw18⟩ h18_ ho18 hr18
            refine RunC.le (τ' := [(0, ptr [i64 a0, sl a1.length (a1.map i64), sl a2.length (a2.map i64), sl a3.length (a3.map f32)]), (1, ptr [i64 a4, sl a5.length (a5.map i64), sl a6.length (a6.map i64), sl a7.length (a7.map f32)]), (3, f32 a9), (4, i64 a10), (5, b a11), (15, oref 0 1 0 a0.toNat), (16, sl L43.length (L43.map f32)), (17, sl l47.length (l47.map f32)), (18, sl l14.length (l14.map f32)), (20, i64 v16), (26, f32 r49), (27, f32 x50), (28, oref 1 u51 0 L53.length), (56, sl l13.length (l13.map f32)), (57, f32 r17), (58, f32 a9), (59, b true), (71, f32 r19), (72, b true), (73, b false), (76, f32 y15), (77, b true), (78, b false), (135, i64 (l14.length : Int)), (136, i64 v54)]) (Γ' := [⟨1, some (L41.map f32)⟩, ⟨u51, some (L53.map f32)⟩, ⟨u52, none⟩, ⟨u40, none⟩, ⟨u10, none⟩]) hw18 ?_
            replace h18_ : s_l05Gradient_b10 l14 l47 x50 L53 v54 = some y18_ := h18_
            unfold s_l05Gradient_b10 at h18_
            refine RunC.seq ?_
            rcases bsel_some h18_ with ⟨hc38, h18_⟩ | ⟨hc38, h18_⟩
            ·refine RunC.regionW ?_
             refine zL (r := b true) rfl rfl rfl (LOp.eqb (LOp.lss rfl rfl rfl) hc38) ?_
             refine zN ?_
             refine RunC.seq ?_
             refine RunC.cond_true rfl rfl ?_
             refine RunC.skip ?_
             refine RunC.seq ?_
             refine RunC.block ?_
             refine zQ ?_
             refine zM (r := i64 v54) rfl rfl rfl rfl rfl ?_
             refine zA (r := i64 v54) rfl rfl rfl rfl rfl ?_
             refine zN ?_
             obtain ⟨e55, he39, h18_⟩ := obind_some h18_
             obtain ⟨e56, he40, h18_⟩ := obind_some h18_
             obtain ⟨x57, hx41, h18_⟩ := olet_some h18_
             obtain ⟨x58, hx42, h18_⟩ := olet_some h18_
             obtain ⟨hm43, h18_⟩ := need_some h18_
             refine RunC.region_draw (Γ' := [⟨1, some (L41.map f32)⟩, ⟨u51, some (L53.map f32)⟩, ⟨(u52 + 1), some (([x58] : List F).map f32)⟩, ⟨u40, none⟩, ⟨u10, none⟩]) 13 mixed 
              (TR.l (r := oref 1 u51 0 L53.length) rfl rfl (LOp.move rfl rfl) <|
              (TR.l (r := sl l47.length (l47.map f32)) rfl rfl (LOp.move rfl rfl) <|
              (TR.l (r := i64 v54) rfl rfl (LOp.move rfl rfl) <|
              (TR.l (r := ptr [f32 e55]) rfl rfl (LOp.le (LOp.ix (f := f32) und23 siz26 rfl rfl rfl rfl he39) ALe.ptr) <|
              (TR.l (r := f32 e55) rfl rfl (LOp.load1 agg26 rfl rfl) <|
              (TR.l (r := f32 x50) rfl rfl (LOp.move rfl rfl) <|
              (TR.l (r := sl l14.length (l14.map f32)) rfl rfl (LOp.move rfl rfl) <|
              (TR.l (r := i64 v54) rfl rfl (LOp.move rfl rfl) <|
              (TR.l (r := ptr [f32 e56]) rfl rfl (LOp.le (LOp.ix (f := f32) und23 siz26 rfl rfl rfl rfl he40) ALe.ptr) <|
              (TR.l (r := f32 e56) rfl rfl (LOp.load1 agg26 rfl rfl) <|
              (TR.d (r := f32 x57) (fs := []) rfl rfl (TOp.eqr (TOp.fop (.inr (.inr (.inl rfl))) rfl (OpF.tmp rfl) (OpF.tmp rfl)) (congrArg (f .f32) hx41)) <|
              (TR.d (r := f32 x58) (fs := []) rfl rfl (TOp.eqr (TOp.fop (.inl rfl) rfl (OpF.tmp rfl) (OpF.tmp rfl)) (congrArg (f .f32) hx42)) <|
              (TR.d (r := oref 2 (u52 + 1) 0 1) (fs := [(2, (([x58] : List F).map f32))]) rfl rfl (TOp.buildSlice_o (g := ⟨u52, none⟩) (za := f32 (some 0)) (qs := [(0, [f32 x58])]) 2 rfl und23 siz26 zer26 rfl zel26 rfl rfl ⟨rfl, ⟨_, ALe.refl _, rfl⟩, trivial⟩ rfl) <|
              TR.nil))))))))))))) rfl (by kernel_rfl) rfl (fills_of (by show List.Nodup [2]; decide) ⟨⟨_, rfl⟩, trivial⟩) rfl ?_
             iterate 13 refine ROps.dropS ?_
             refine ROps.drop0 ?_
             refine ROps.app (f := f32) (xs := L53) (ys := ([x58] : List F)) (Γ' := [⟨1, some (L41.map f32)⟩, ⟨(u51 + 1), some ((L53 ++ ([x58] : List F)).map f32)⟩, ⟨(u52 + 1), some (([x58] : List F).map f32)⟩, ⟨u40, none⟩, ⟨u10, none⟩]) rfl pun23 inf26 rfl rfl rfl rfl rfl rfl rfl rfl rfl (by simp) (ReadAs.own rfl (by simp)) (ones_map (fun _ => rfl)) (ap_by hm43) (ap_mx hm43) rfl ?_
             refine zA (r := oref 1 (u51 + 1) 0 (L53.length + 1)) rfl rfl rfl rfl rfl ?_
             refine zN ?_
             refine RunC.wl (τ' := [(0, ptr [i64 a0, sl a1.length (a1.map i64), sl a2.length (a2.map i64), sl a3.length (a3.map f32)]), (1, ptr [i64 a4, sl a5.length (a5.map i64), sl a6.length (a6.map i64), sl a7.length (a7.map f32)]), (3, f32 a9), (4, i64 a10), (5, b a11), (15, oref 0 1 0 a0.toNat), (16, sl L43.length (L43.map f32)), (17, sl l47.length (l47.map f32)), (18, sl l14.length (l14.map f32)), (20, i64 v16), (26, f32 r49), (27, f32 x50), (28, oref 1 (u51 + 1) 0 (L53.length + 1)), (56, sl l13.length (l13.map f32)), (57, f32 r17), (58, f32 a9), (59, b true), (71, f32 r19), (72, b true), (73, b false), (76, f32 y15), (77, b true), (78, b false), (135, i64 (l14.length : Int)), (136, i64 v54)]) (Γ' := [⟨1, some (L41.map f32)⟩, ⟨(u51 + 1), some ((L53 ++ ([x58] : List F)).map f32)⟩, ⟨(u52 + 1), none⟩, ⟨u40, none⟩, ⟨u10, none⟩]) ⟨aR, aR, aR, aR, aR, aR, aR, aR, aR, aR, aR, aR, aR, aR, aR, aR, aR, aR, aR, aR, aR, aR, aR, aR, aR, trivial⟩ ⟨⟨rfl, .inr rfl⟩, ⟨rfl, .inr rfl⟩, ⟨rfl, .inl rfl⟩, ⟨rfl, .inl rfl⟩, ⟨rfl, .inl rfl⟩, trivial⟩ ?_
             obtain ⟨x59, hx44, h18_⟩ := olet_some h18_
             refine RunC.regionW ?_
             refine zL (r := i64 x59) rfl rfl rfl (LOp.eqr (LOp.add rfl rfl rfl) (congrArg (ik .i64) hx44)) ?_
             refine zM (r := i64 x59) rfl rfl rfl rfl rfl ?_
             refine zN ?_
             cases Option.some.inj h18_
             exact ⟨_, rfl, (u51 + 1), (u52 + 1), (Le.of ⟨aR, aR, aR, aR, aR, aR, aR, aR, aR, aR, aR, aR, (by first | exact ALe.refl _ | exact ALe.eq (by rw [(app_len rfl rfl)] <;> rfl) | exact ALe.eq (by simp)), aR, aR, aR, aR, aR, aR, aR, aR, aR, aR, aR, aR, trivial⟩ ⟨⟨rfl, .inr rfl⟩, ⟨rfl, .inr rfl⟩, ⟨rfl, .inl rfl⟩, ⟨rfl, .inl rfl⟩, ⟨rfl, .inl rfl⟩, trivial⟩)⟩
            ·refine RunC.regionW ?_
             refine zL (r := b false) rfl rfl rfl (LOp.eqb (LOp.lss rfl rfl rfl) hc38) ?_
             refine zN ?_
             refine RunC.seq ?_
             refine RunC.cond_false rfl rfl ?_
             refine RunC.exit ?_
             cases Option.some.inj h18_
             have hx := ho18 _ rfl
             exact ⟨L53, u51, u52, hl48, (Le.of ⟨aR, aR, aR, aR, aR, aR, aR, aR, aR, aR, aR, aR, aR, aR, aR, aR, aR, aR, aR, aR, trivial⟩ ⟨⟨rfl, .inr rfl⟩, ⟨rfl, .inr rfl⟩, ⟨rfl, .inl rfl⟩, ⟨rfl, .inl rfl⟩, ⟨rfl, .inl rfl⟩, trivial⟩), hx⟩
           ·rintro τ19 Γ19 ⟨L63, u60, u61, hl62, hw19, rfl⟩
            refine RunC.le hw19 ?_
            replace h13_ : s_l05Gradient_k10 v16 L41 L43 r49 L63 = some y13_ := h13_
            unfold s_l05Gradient_k10 at h13_
            refine zQ ?_
            refine zM (r := oref 1 u60 0 L63.length) rfl rfl rfl rfl rfl ?_
            refine zA (r := oref 1 u60 0 L63.length) rfl rfl rfl rfl rfl ?_
            refine zN ?_
            refine zQ ?_
            refine zM (r := f32 r49) rfl rfl rfl rfl rfl ?_
            refine zA (r := f32 r49) rfl rfl rfl rfl rfl ?_
            refine zN ?_
            obtain ⟨x64, hx45, h13_⟩ := olet_some h13_
            refine RunC.regionW ?_
            refine zM (r := i64 v16) rfl rfl rfl rfl rfl ?_
            refine zL (r := i64 x64) rfl rfl rfl (LOp.eqr (LOp.add rfl rfl rfl) (congrArg (ik .i64) hx45)) ?_
            refine zA (r := i64 x64) rfl rfl rfl rfl rfl ?_
            refine zN ?_
            cases Option.some.inj h13_
            exact ⟨_, rfl, u60, u61, u40, u10, hl62, (Le.trans (Le.settle 1 [(0, ptr [i64 a0, sl a1.length (a1.map i64), sl a2.length (a2.map i64), sl a3.length (a3.map f32)]), (1, ptr [i64 a4, sl a5.length (a5.map i64), sl a6.length (a6.map i64), sl a7.length (a7.map f32)]), (3, f32 a9), (4, i64 a10), (5, b a11), (15, oref 0 1 0 a0.toNat), (16, sl L43.length (L43.map f32)), (18, sl L63.length (L63.map f32)), (19, f32 r49), (20, i64 x64)] rfl rfl rfl ⟨.inl rfl, .inl rfl, .inl rfl, .inl rfl, .inl rfl, .inl rfl, .inl rfl, .inr (Bor.own (f := f32) (fun _ => rfl) rfl rfl), .inl rfl, .inl rfl, trivial⟩) (Le.of ⟨aR, aR, aR, aR, aR, aR, aR, aR, aR, aR, trivial⟩ ⟨⟨rfl, .inr rfl⟩, ⟨rfl, .inl rfl⟩, ⟨rfl, .inl rfl⟩, ⟨rfl, .inl rfl⟩, ⟨rfl, .inl rfl⟩, trivial⟩))⟩
        ·refine RunC.regionW ?_
         refine zM (r := f32 r19) rfl rfl rfl rfl rfl ?_
         refine zL (r := b true) rfl rfl rfl (LOp.eqb (LOp.fgt rfl (OpF.tmp rfl) (OpF.const rfl (by kernel_rfl) (by kernel_rfl))) hc14) ?_
         refine zL (r := b false) rfl rfl rfl (LOp.eqb (LOp.not rfl rfl) rfl) ?_
         refine zM (r := b false) rfl rfl rfl rfl rfl ?_
         refine zM (r := f32 r19) rfl rfl rfl rfl rfl ?_
         refine ROps.d (r := b true) (fs := []) (Γ' := [⟨1, some (L11.map f32)⟩, ⟨(u7 + 1), some (r18.map f32)⟩, ⟨u8, none⟩, ⟨u9, none⟩, ⟨u10, none⟩]) rfl rfl rfl (TOp.eqb (TOp.callB (CallAs.func ent79 rfl rfl) (Bors.cons (Bor.pure rfl) Bors.nil) rfl rfl (s_l01Finite_ok r19 r20 hf15)) hc16) rfl ?_
         refine zL (r := b false) rfl rfl rfl (LOp.eqb (LOp.not rfl rfl) rfl) ?_
         refine zL (r := b false) rfl rfl rfl (LOp.pick_false rfl rfl rfl) ?_
         refine zM (r := b false) rfl rfl rfl rfl rfl ?_
         refine zM (r := f32 y15) rfl rfl rfl rfl rfl ?_
         refine ROps.d (r := b false) (fs := []) (Γ' := [⟨1, some (L11.map f32)⟩, ⟨(u7 + 1), some (r18.map f32)⟩, ⟨u8, none⟩, ⟨u9, none⟩, ⟨u10, none⟩]) rfl rfl rfl (TOp.eqb (TOp.callB (CallAs.func ent79 rfl rfl) (Bors.cons (Bor.pure rfl) Bors.nil) rfl rfl (s_l01Finite_ok y15 r21 hf17)) hc18) rfl ?_
         refine zL (r := b true) rfl rfl rfl (LOp.eqb (LOp.not rfl rfl) rfl) ?_
         refine zL (r := b true) rfl rfl rfl (LOp.pick_false rfl rfl rfl) ?_
         refine zN ?_
         refine RunC.wl (τ' := [(0, ptr [i64 a0, sl a1.length (a1.map i64), sl a2.length (a2.map i64), sl a3.length (a3.map f32)]), (1, ptr [i64 a4, sl a5.length (a5.map i64), sl a6.length (a6.map i64), sl a7.length (a7.map f32)]), (3, f32 a9), (4, i64 a10), (5, b a11), (15, oref 0 1 0 a0.toNat), (16, sl l13.length (l13.map f32)), (18, sl l14.length (l14.map f32)), (19, f32 y15), (20, i64 v16), (21, oref 1 (u7 + 1) 0 r18.length), (22, f32 r19), (56, sl l13.length (l13.map f32)), (57, f32 r17), (58, f32 a9), (59, b true), (71, f32 r19), (72, b true), (73, b false), (76, f32 y15), (77, b false), (78, b true), (79, b true)]) (Γ' := [⟨1, some (L11.map f32)⟩, ⟨(u7 + 1), some (r18.map f32)⟩, ⟨u8, none⟩, ⟨u9, none⟩, ⟨u10, none⟩]) ⟨aR, aR, aR, aR, aR, aR, aR, aR, aR, aR, aR, aR, aR, aR, aR, aR, aR, aR, aR, aR, aR, aR, aR, trivial⟩ ⟨⟨rfl, .inr rfl⟩, ⟨rfl, .inr rfl⟩, ⟨rfl, .inl rfl⟩, ⟨rfl, .inl rfl⟩, ⟨rfl, .inl rfl⟩, trivial⟩ ?_
         refine RunC.cond_true rfl rfl ?_
         refine zQ ?_
         refine zA (r := nilsl) rfl rfl rfl rfl rfl ?_
         refine zA (r := i64 0) rfl rfl rfl rfl rfl ?_
         refine zA (r := b false) rfl rfl rfl rfl rfl ?_
         refine zN ?_
         refine RunC.nil_slot (Γ' := [⟨1, some (L11.map f32)⟩, ⟨(u7 + 1), some (r18.map f32)⟩, ⟨(u8 + 1), some (([] : List F).map f32)⟩, ⟨u9, none⟩, ⟨u10, none⟩]) 12 2 rfl rfl rfl ?_
         refine RunC.ret ?_
         cases Option.some.inj h13_
         have hx20_ := hr13 _ rfl
         subst hx20_
         have hq := Option.some.inj h
         obtain ⟨hq0, hq⟩ := Prod.mk.inj hq
         obtain ⟨hq1, hq⟩ := Prod.mk.inj hq
         subst q0
         subst q1
         subst q2
         exact bodyQ.mk (r' := tup [oref 2 (u8 + 1) 0 (([] : List F).length), i64 0, b false]) [(2, (u8 + 1))] (.inr rfl) rfl (show List.Nodup [2] from by decide) (by simp [ren, rens, sigma]) rfl (Res.eq (Res.three rfl (RV.tmp rfl) (RV.tmp rfl) (RV.tmp rfl)) (by rw [(show ([] : List F).length = 0 from rfl)] <;> rfl)) (SelL.arr0 (f := f32) (fun _ => rfl) rfl trivial)
       ·refine RunC.regionW ?_
        refine zM (r := f32 r19) rfl rfl rfl rfl rfl ?_
        refine zL (r := b true) rfl rfl rfl (LOp.eqb (LOp.fgt rfl (OpF.tmp rfl) (OpF.const rfl (by kernel_rfl) (by kernel_rfl))) hc14) ?_
        refine zL (r := b false) rfl rfl rfl (LOp.eqb (LOp.not rfl rfl) rfl) ?_
        refine zM (r := b false) rfl rfl rfl rfl rfl ?_
        refine zM (r := f32 r19) rfl rfl rfl rfl rfl ?_
        refine ROps.d (r := b false) (fs := []) (Γ' := [⟨1, some (L11.map f32)⟩, ⟨(u7 + 1), some (r18.map f32)⟩, ⟨u8, none⟩, ⟨u9, none⟩, ⟨u10, none⟩]) rfl rfl rfl (TOp.eqb (TOp.callB (CallAs.func ent79 rfl rfl) (Bors.cons (Bor.pure rfl) Bors.nil) rfl rfl (s_l01Finite_ok r19 r20 hf15)) hc16) rfl ?_
        refine zL (r := b true) rfl rfl rfl (LOp.eqb (LOp.not rfl rfl) rfl) ?_
        refine zL (r := b true) rfl rfl rfl (LOp.pick_false rfl rfl rfl) ?_
        refine zM (r := b true) rfl rfl rfl rfl rfl ?_
        refine ROps.s rfl rfl rfl ?_
        refine ROps.s rfl rfl rfl ?_
        refine ROps.s rfl rfl rfl ?_
        refine zL (r := b true) rfl rfl rfl (LOp.pick_true rfl rfl rfl) ?_
        refine zN ?_
        refine RunC.wl (τ' := [(0, ptr [i64 a0, sl a1.length (a1.map i64), sl a2.length (a2.map i64), sl a3.length (a3.map f32)]), (1, ptr [i64 a4, sl a5.length (a5.map i64), sl a6.length (a6.map i64), sl a7.length (a7.map f32)]), (3, f32 a9), (4, i64 a10), (5, b a11), (15, oref 0 1 0 a0.toNat), (16, sl l13.length (l13.map f32)), (18, sl l14.length (l14.map f32)), (19, f32 y15), (20, i64 v16), (21, oref 1 (u7 + 1) 0 r18.length), (22, f32 r19), (56, sl l13.length (l13.map f32)), (57, f32 r17), (58, f32 a9), (59, b true), (71, f32 r19), (72, b false), (73, b true), (79, b true)]) (Γ' := [⟨1, some (L11.map f32)⟩, ⟨(u7 + 1), some (r18.map f32)⟩, ⟨u8, none⟩, ⟨u9, none⟩, ⟨u10, none⟩]) ⟨aR, aR, aR, aR, aR, aR, aR, aR, aR, aR, aR, aR, aR, aR, aR, aR, aR, aR, aR, aR, trivial⟩ ⟨⟨rfl, .inr rfl⟩, ⟨rfl, .inr rfl⟩, ⟨rfl, .inl rfl⟩, ⟨rfl, .inl rfl⟩, ⟨rfl, .inl rfl⟩, trivial⟩ ?_
        refine RunC.cond_true rfl rfl ?_
        refine zQ ?_
        refine zA (r := nilsl) rfl rfl rfl rfl rfl ?_
        refine zA (r := i64 0) rfl rfl rfl rfl rfl ?_
        refine zA (r := b false) rfl rfl rfl rfl rfl ?_
        refine zN ?_
        refine RunC.nil_slot (Γ' := [⟨1, some (L11.map f32)⟩, ⟨(u7 + 1), some (r18.map f32)⟩, ⟨(u8 + 1), some (([] : List F).map f32)⟩, ⟨u9, none⟩, ⟨u10, none⟩]) 12 2 rfl rfl rfl ?_
        refine RunC.ret ?_
        cases Option.some.inj h13_
        have hx21_ := hr13 _ rfl
        subst hx21_
        have hq := Option.some.inj h
        obtain ⟨hq0, hq⟩ := Prod.mk.inj hq
        obtain ⟨hq1, hq⟩ := Prod.mk.inj hq
        subst q0
        subst q1
        subst q2
        exact bodyQ.mk (r' := tup [oref 2 (u8 + 1) 0 (([] : List F).length), i64 0, b false]) [(2, (u8 + 1))] (.inr rfl) rfl (show List.Nodup [2] from by decide) (by simp [ren, rens, sigma]) rfl (Res.eq (Res.three rfl (RV.tmp rfl) (RV.tmp rfl) (RV.tmp rfl)) (by rw [(show ([] : List F).length = 0 from rfl)] <;> rfl)) (SelL.arr0 (f := f32) (fun _ => rfl) rfl trivial)
      ·refine RunC.regionW ?_
       refine zM (r := f32 r19) rfl rfl rfl rfl rfl ?_
       refine zL (r := b false) rfl rfl rfl (LOp.eqb (LOp.fgt rfl (OpF.tmp rfl) (OpF.const rfl (by kernel_rfl) (by kernel_rfl))) hc14) ?_
       refine zL (r := b true) rfl rfl rfl (LOp.eqb (LOp.not rfl rfl) rfl) ?_
       refine zM (r := b true) rfl rfl rfl rfl rfl ?_
       refine ROps.s rfl rfl rfl ?_
       refine ROps.s rfl rfl rfl ?_
       refine ROps.s rfl rfl rfl ?_
       refine zL (r := b true) rfl rfl rfl (LOp.pick_true rfl rfl rfl) ?_
       refine zM (r := b true) rfl rfl rfl rfl rfl ?_
       refine ROps.s rfl rfl rfl ?_
       refine ROps.s rfl rfl rfl ?_
       refine ROps.s rfl rfl rfl ?_
       refine zL (r := b true) rfl rfl rfl (LOp.pick_true rfl rfl rfl) ?_
       refine zN ?_
       refine RunC.wl (τ' := [(0, ptr [i64 a0, sl a1.length (a1.map i64), sl a2.length (a2.map i64), sl a3.length (a3.map f32)]), (1, ptr [i64 a4, sl a5.length (a5.map i64), sl a6.length (a6.map i64), sl a7.length (a7.map f32)]), (3, f32 a9), (4, i64 a10), (5, b a11), (15, oref 0 1 0 a0.toNat), (16, sl l13.length (l13.map f32)), (18, sl l14.length (l14.map f32)), (19, f32 y15), (20, i64 v16), (21, oref 1 (u7 + 1) 0 r18.length), (22, f32 r19), (56, sl l13.length (l13.map f32)), (57, f32 r17), (58, f32 a9), (59, b true), (79, b true)]) (Γ' := [⟨1, some (L11.map f32)⟩, ⟨(u7 + 1), some (r18.map f32)⟩, ⟨u8, none⟩, ⟨u9, none⟩, ⟨u10, none⟩]) ⟨aR, aR, aR, aR, aR, aR, aR, aR, aR, aR, aR, aR, aR, aR, aR, aR, aR, trivial⟩ ⟨⟨rfl, .inr rfl⟩, ⟨rfl, .inr rfl⟩, ⟨rfl, .inl rfl⟩, ⟨rfl, .inl rfl⟩, ⟨rfl, .inl rfl⟩, trivial⟩ ?_
       refine RunC.cond_true rfl rfl ?_
       refine zQ ?_
       refine zA (r := nilsl) rfl rfl rfl rfl rfl ?_
       refine zA (r := i64 0) rfl rfl rfl rfl rfl ?_
       refine zA (r := b false) rfl rfl rfl rfl rfl ?_
       refine zN ?_
       refine RunC.nil_slot (Γ' := [⟨1, some (L11.map f32)⟩, ⟨(u7 + 1), some (r18.map f32)⟩, ⟨(u8 + 1), some (([] : List F).map f32)⟩, ⟨u9, none⟩, ⟨u10, none⟩]) 12 2 rfl rfl rfl ?_
       refine RunC.ret ?_
       cases Option.some.inj h13_
       have hx22_ := hr13 _ rfl
       subst hx22_
       have hq := Option.some.inj h
       obtain ⟨hq0, hq⟩ := Prod.mk.inj hq
       obtain ⟨hq1, hq⟩ := Prod.mk.inj hq
       subst q0
       subst q1
       subst q2
       exact bodyQ.mk (r' := tup [oref 2 (u8 + 1) 0 (([] : List F).length), i64 0, b false]) [(2, (u8 + 1))] (.inr rfl) rfl (show List.Nodup [2] from by decide) (by simp [ren, rens, sigma]) rfl (Res.eq (Res.three rfl (RV.tmp rfl) (RV.tmp rfl) (RV.tmp rfl)) (by rw [(show ([] : List F).length = 0 from rfl)] <;> rfl)) (SelL.arr0 (f := f32) (fun _ => rfl) rfl trivial)
     ·refine RunC.regionW ?_
      refine zM (r := i64 v16) rfl rfl rfl rfl rfl ?_
      refine zM (r := i64 a10) rfl rfl rfl rfl rfl ?_
      refine zL (r := b true) rfl rfl rfl (LOp.eqb (LOp.lss rfl rfl rfl) hc9) ?_
      refine zM (r := b true) rfl rfl rfl rfl rfl ?_
      refine zM (r := sl l13.length (l13.map f32)) rfl rfl rfl rfl rfl ?_
      refine ROps.d (r := f32 r17) (fs := []) (Γ' := [⟨1, some (L11.map f32)⟩, ⟨u7, none⟩, ⟨u8, none⟩, ⟨u9, none⟩, ⟨u10, none⟩]) rfl rfl rfl (TOp.callB (CallAs.func ent82 rfl rfl) (Bors.cons (Bor.sl (fun _ => rfl)) Bors.nil) rfl rfl (s_l05Norm_ok l13 r17 hf10)) rfl ?_
      refine zM (r := f32 a9) rfl rfl rfl rfl rfl ?_
      refine zL (r := b false) rfl rfl rfl (LOp.eqb (LOp.fgt rfl (OpF.tmp rfl) (OpF.tmp rfl)) hc11) ?_
      refine zL (r := b false) rfl rfl rfl (LOp.pick_true rfl rfl rfl) ?_
      refine zN ?_
      refine RunC.cond_false rfl rfl ?_
      refine RunC.exit ?_
      cases Option.some.inj h13_
      have hx := ho13 _ rfl
      exact ⟨L11, l13, v16, u7, u8, u9, u10, hl12, (Le.of ⟨aR, aR, aR, aR, trivial⟩ ⟨⟨rfl, .inr rfl⟩, ⟨rfl, .inl rfl⟩, ⟨rfl, .inl rfl⟩, ⟨rfl, .inl rfl⟩, ⟨rfl, .inl rfl⟩, trivial⟩), hx⟩
    ·refine RunC.regionW ?_
     refine zM (r := i64 v16) rfl rfl rfl rfl rfl ?_
     refine zM (r := i64 a10) rfl rfl rfl rfl rfl ?_
     refine zL (r := b false) rfl rfl rfl (LOp.eqb (LOp.lss rfl rfl rfl) hc9) ?_
     refine zM (r := b false) rfl rfl rfl rfl rfl ?_
     refine ROps.s rfl rfl rfl ?_
     refine ROps.s rfl rfl rfl ?_
     refine ROps.s rfl rfl rfl ?_
     refine ROps.s rfl rfl rfl ?_
     refine zL (r := b false) rfl rfl rfl (LOp.pick_false rfl rfl rfl) ?_
     refine zN ?_
     refine RunC.cond_false rfl rfl ?_
     refine RunC.exit ?_
     cases Option.some.inj h13_
     have hx := ho13 _ rfl
     exact ⟨L11, l13, v16, u7, u8, u9, u10, hl12, (Le.of ⟨aR, aR, aR, aR, trivial⟩ ⟨⟨rfl, .inr rfl⟩, ⟨rfl, .inl rfl⟩, ⟨rfl, .inl rfl⟩, ⟨rfl, .inl rfl⟩, ⟨rfl, .inl rfl⟩, trivial⟩), hx⟩
   ·rintro τ23 Γ23 ⟨L69, l71, v72, u65, u66, u67, u68, hl70, hw23, rfl⟩
    refine RunC.le hw23 ?_
    replace h : s_l05Gradient_k11 a9 L69 l71 v72 = some (q0, q1, q2) := h
    unfold s_l05Gradient_k11 at h
    refine RunC.seq ?_
    refine RunC.seq ?_
    obtain ⟨r73, hf46, h⟩ := obind_some h
    rcases bsel_some h with ⟨hc47, h⟩ | ⟨hc47, h⟩
    ·obtain ⟨r74, hf48, h⟩ := obind_some h
     rcases bsel_some h with ⟨hc49, h⟩ | ⟨hc49, h⟩
     ·refine RunC.regionW ?_
      refine zM (r := sl l71.length (l71.map f32)) rfl rfl rfl rfl rfl ?_
      refine ROps.d (r := f32 r73) (fs := []) (Γ' := [⟨1, some (L69.map f32)⟩, ⟨u65, none⟩, ⟨u66, none⟩, ⟨u67, none⟩, ⟨u68, none⟩]) rfl rfl rfl (TOp.callB (CallAs.func ent82 rfl rfl) (Bors.cons (Bor.sl (fun _ => rfl)) Bors.nil) rfl rfl (s_l05Norm_ok l71 r73 hf46)) rfl ?_
      refine zM (r := f32 a9) rfl rfl rfl rfl rfl ?_
      refine zL (r := b true) rfl rfl rfl (LOp.eqb (LOp.fle rfl (OpF.tmp rfl) (OpF.tmp rfl)) hc47) ?_
      refine zL (r := b false) rfl rfl rfl (LOp.eqb (LOp.not rfl rfl) rfl) ?_
      refine zM (r := b false) rfl rfl rfl rfl rfl ?_
      refine zM (r := oref 0 1 0 a0.toNat) rfl rfl rfl rfl rfl ?_
      refine ROps.d (r := b true) (fs := []) (Γ' := [⟨1, some (L69.map f32)⟩, ⟨u65, none⟩, ⟨u66, none⟩, ⟨u67, none⟩, ⟨u68, none⟩]) rfl rfl rfl (TOp.eqb (TOp.callB (CallAs.func ent78 rfl rfl) (Bors.cons (Bor.own (f := f32) (fun _ => rfl) rfl hl70) Bors.nil) rfl rfl (s_l02Finite_ok L69 r74 hf48)) hc49) rfl ?_
      refine zL (r := b false) rfl rfl rfl (LOp.eqb (LOp.not rfl rfl) rfl) ?_
      refine zL (r := b false) rfl rfl rfl (LOp.pick_false rfl rfl rfl) ?_
      refine zN ?_
      refine RunC.cond_false rfl rfl ?_
      refine RunC.skip ?_
      refine zQ ?_
      refine zM (r := oref 0 1 0 a0.toNat) rfl rfl rfl rfl rfl ?_
      refine zM (r := i64 v72) rfl rfl rfl rfl rfl ?_
      refine zA (r := oref 0 1 0 a0.toNat) rfl rfl rfl rfl rfl ?_
      refine zA (r := i64 v72) rfl rfl rfl rfl rfl ?_
      refine zA (r := b true) rfl rfl rfl rfl rfl ?_
      refine zN ?_
      refine RunC.ret ?_
      have hq := Option.some.inj h
      obtain ⟨hq0, hq⟩ := Prod.mk.inj hq
      obtain ⟨hq1, hq⟩ := Prod.mk.inj hq
      subst q0
      subst q1
      subst q2
      exact bodyQ.mk (r' := tup [oref 0 1 0 L69.length, i64 v72, b true]) [(0, 1)] (.inr rfl) rfl (show List.Nodup [0] from by decide) rfl rfl (Res.eq (Res.three rfl (RV.tmp rfl) (RV.tmp rfl) (RV.tmp rfl)) (by rw [(show L69.length = a0.toNat from hl70)] <;> rfl)) (SelL.arr0 (f := f32) (fun _ => rfl) rfl trivial)
     ·refine RunC.regionW ?_
      refine zM (r := sl l71.length (l71.map f32)) rfl rfl rfl rfl rfl ?_
      refine ROps.d (r := f32 r73) (fs := []) (Γ' := [⟨1, some (L69.map f32)⟩, ⟨u65, none⟩, ⟨u66, none⟩, ⟨u67, none⟩, ⟨u68, none⟩]) rfl rfl rfl (TOp.callB (CallAs.func ent82 rfl rfl) (Bors.cons (Bor.sl (fun _ => rfl)) Bors.nil) rfl rfl (s_l05Norm_ok l71 r73 hf46)) rfl ?_
      refine zM (r := f32 a9) rfl rfl rfl rfl rfl ?_
      refine zL (r := b true) rfl rfl rfl (LOp.eqb (LOp.fle rfl (OpF.tmp rfl) (OpF.tmp rfl)) hc47) ?_
      refine zL (r := b false) rfl rfl rfl (LOp.eqb (LOp.not rfl rfl) rfl) ?_
      refine zM (r := b false) rfl rfl rfl rfl rfl ?_
      refine zM (r := oref 0 1 0 a0.toNat) rfl rfl rfl rfl rfl ?_
      refine ROps.d (r := b false) (fs := []) (Γ' := [⟨1, some (L69.map f32)⟩, ⟨u65, none⟩, ⟨u66, none⟩, ⟨u67, none⟩, ⟨u68, none⟩]) rfl rfl rfl (TOp.eqb (TOp.callB (CallAs.func ent78 rfl rfl) (Bors.cons (Bor.own (f := f32) (fun _ => rfl) rfl hl70) Bors.nil) rfl rfl (s_l02Finite_ok L69 r74 hf48)) hc49) rfl ?_
      refine zL (r := b true) rfl rfl rfl (LOp.eqb (LOp.not rfl rfl) rfl) ?_
      refine zL (r := b true) rfl rfl rfl (LOp.pick_false rfl rfl rfl) ?_
      refine zN ?_
      refine RunC.cond_true rfl rfl ?_
      refine zQ ?_
      refine zA (r := nilsl) rfl rfl rfl rfl rfl ?_
      refine zA (r := i64 0) rfl rfl rfl rfl rfl ?_
      refine zA (r := b false) rfl rfl rfl rfl rfl ?_
      refine zN ?_
      refine RunC.nil_slot (Γ' := [⟨1, some (L69.map f32)⟩, ⟨(u65 + 1), some (([] : List F).map f32)⟩, ⟨u66, none⟩, ⟨u67, none⟩, ⟨u68, none⟩]) 12 1 rfl rfl rfl ?_
      refine RunC.ret ?_
      have hq := Option.some.inj h
      obtain ⟨hq0, hq⟩ := Prod.mk.inj hq
      obtain ⟨hq1, hq⟩ := Prod.mk.inj hq
      subst q0
      subst q1
      subst q2
      exact bodyQ.mk (r' := tup [oref 1 (u65 + 1) 0 (([] : List F).length), i64 0, b false]) [(1, (u65 + 1))] (.inr rfl) rfl (show List.Nodup [1] from by decide) (by simp [ren, rens, sigma]) rfl (Res.eq (Res.three rfl (RV.tmp rfl) (RV.tmp rfl) (RV.tmp rfl)) (by rw [(show ([] : List F).length = 0 from rfl)] <;> rfl)) (SelL.arr0 (f := f32) (fun _ => rfl) rfl trivial)
    ·refine RunC.regionW ?_
     refine zM (r := sl l71.length (l71.map f32)) rfl rfl rfl rfl rfl ?_
     refine ROps.d (r := f32 r73) (fs := []) (Γ' := [⟨1, some (L69.map f32)⟩, ⟨u65, none⟩, ⟨u66, none⟩, ⟨u67, none⟩, ⟨u68, none⟩]) rfl rfl rfl (TOp.callB (CallAs.func ent82 rfl rfl) (Bors.cons (Bor.sl (fun _ => rfl)) Bors.nil) rfl rfl (s_l05Norm_ok l71 r73 hf46)) rfl ?_
     refine zM (r := f32 a9) rfl rfl rfl rfl rfl ?_
     refine zL (r := b false) rfl rfl rfl (LOp.eqb (LOp.fle rfl (OpF.tmp rfl) (OpF.tmp rfl)) hc47) ?_
     refine zL (r := b true) rfl rfl rfl (LOp.eqb (LOp.not rfl rfl) rfl) ?_
     refine zM (r := b true) rfl rfl rfl rfl rfl ?_
     refine ROps.s rfl rfl rfl ?_
     refine ROps.s rfl rfl rfl ?_
     refine ROps.s rfl rfl rfl ?_
     refine zL (r := b true) rfl rfl rfl (LOp.pick_true rfl rfl rfl) ?_
     refine zN ?_
     refine RunC.cond_true rfl rfl ?_
     refine zQ ?_
     refine zA (r := nilsl) rfl rfl rfl rfl rfl ?_
     refine zA (r := i64 0) rfl rfl rfl rfl rfl ?_
     refine zA (r := b false) rfl rfl rfl rfl rfl ?_
     refine zN ?_
     refine RunC.nil_slot (Γ' := [⟨1, some (L69.map f32)⟩, ⟨(u65 + 1), some (([] : List F).map f32)⟩, ⟨u66, none⟩, ⟨u67, none⟩, ⟨u68, none⟩]) 12 1 rfl rfl rfl ?_
     refine RunC.ret ?_
     have hq := Option.some.inj h
     obtain ⟨hq0, hq⟩ := Prod.mk.inj hq
     obtain ⟨hq1, hq⟩ := Prod.mk.inj hq
     subst q0
     subst q1
     subst q2
     exact bodyQ.mk (r' := tup [oref 1 (u65 + 1) 0 (([] : List F).length), i64 0, b false]) [(1, (u65 + 1))] (.inr rfl) rfl (show List.Nodup [1] from by decide) (by simp [ren, rens, sigma]) rfl (Res.eq (Res.three rfl (RV.tmp rfl) (RV.tmp rfl) (RV.tmp rfl)) (by rw [(show ([] : List F).length = 0 from rfl)] <;> rfl)) (SelL.arr0 (f := f32) (fun _ => rfl) rfl trivial)
  ·refine RunC.regionW ?_
   refine zM (r := sl l3.length (l3.map f32)) rfl rfl rfl rfl rfl ?_
   refine ROps.d (r := b false) (fs := []) (Γ' := [⟨1, some ((List.replicate a0.toNat (some 0)).map f32)⟩, ⟨2, none⟩, ⟨u2, none⟩, ⟨0, none⟩, ⟨0, none⟩]) rfl rfl rfl (TOp.eqb (TOp.callB (CallAs.func ent78 rfl rfl) (Bors.cons (Bor.sl (fun _ => rfl)) Bors.nil) rfl rfl (s_l02Finite_ok l3 r5 hf5)) hc6) rfl ?_
   refine zL (r := b true) rfl rfl rfl (LOp.eqb (LOp.not rfl rfl) rfl) ?_
   refine zN ?_
   refine RunC.cond_true rfl rfl ?_
   refine zQ ?_
   refine zA (r := nilsl) rfl rfl rfl rfl rfl ?_
   refine zA (r := i64 0) rfl rfl rfl rfl rfl ?_
   refine zA (r := b false) rfl rfl rfl rfl rfl ?_
   refine zN ?_
   refine RunC.nil_slot (Γ' := [⟨1, some ((List.replicate a0.toNat (some 0)).map f32)⟩, ⟨3, some (([] : List F).map f32)⟩, ⟨u2, none⟩, ⟨0, none⟩, ⟨0, none⟩]) 12 1 rfl rfl rfl ?_
   refine RunC.ret ?_
   have hq := Option.some.inj h
   obtain ⟨hq0, hq⟩ := Prod.mk.inj hq
   obtain ⟨hq1, hq⟩ := Prod.mk.inj hq
   subst q0
   subst q1
   subst q2
   exact bodyQ.mk (r' := tup [oref 1 3 0 (([] : List F).length), i64 0, b false]) [(1, 3)] (.inr rfl) rfl (show List.Nodup [1] from by decide) rfl rfl (Res.eq (Res.three rfl (RV.tmp rfl) (RV.tmp rfl) (RV.tmp rfl)) (by rw [(show ([] : List F).length = 0 from rfl)] <;> rfl)) (SelL.arr0 (f := f32) (fun _ => rfl) rfl trivial)
noncomputable def s_SparseWith (a0 : Int) (a1 : List Int) (a2 : List Int) (a3 : List F) (a4 : Int) (a5 : List Int) (a6 : List Int) (a7 : List F) (a8 : List F) (a9 : F) (a10 : Int) : Option (Int × Bool × (List F)) :=
 obind (s_l05Fits a0 a1 a2 a3 a8) fun (r1 : Bool) =>
 bsel r1 (
  obind (s_l05Fits a4 a5 a6 a7 a8) fun (r2 : Bool) =>
  bsel r2 (
   obind (s_l05Lower a4 a5 a6 a7) fun (r3 : Bool) =>
   bsel r3 (
    obind (s_l02Least a9) fun (r4 : Bool) =>
    bsel r4 (
     obind (s_l00In a10 0 128) fun (r5 : Bool) =>
     bsel r5 (
      obind3 (s_l05Gradient a0 a1 a2 a3 a4 a5 a6 a7 a8 a9 a10 true) fun (r6 : Int) (r7 : Bool) (r8 : List F) =>
      some (r6, r7, r8)) (
      some (0, false, ([] : List F)))) (
     some (0, false, ([] : List F)))) (
    some (0, false, ([] : List F)))) (
   some (0, false, ([] : List F)))) (
  some (0, false, ([] : List F)))
theorem s_SparseWith_ok (a0 : Int) (a1 : List Int) (a2 : List Int) (a3 : List F) (a4 : Int) (a5 : List Int) (a6 : List Int) (a7 : List F) (a8 : List F) (a9 : F) (a10 : Int) (q0 : Int) (q1 : Bool) (q2 : List F) (h : s_SparseWith a0 a1 a2 a3 a4 a5 a6 a7 a8 a9 a10 = some (q0, q1, q2)) : Ev Try.prog 17 [agg [i64 a0, sl a1.length (a1.map i64), sl a2.length (a2.map i64), sl a3.length (a3.map f32)], agg [i64 a4, sl a5.length (a5.map i64), sl a6.length (a6.map i64), sl a7.length (a7.map f32)], sl a8.length (a8.map f32), f32 a9, i64 a10] [] (tup [oref 0 0 0 q2.length, i64 q0, b q1]) [⟨0, some (q2.map f32)⟩] := by
 refine Ev.start Try.func17 rfl rfl 1 (τ := [(0, agg [i64 a0, sl a1.length (a1.map i64), sl a2.length (a2.map i64), sl a3.length (a3.map f32)]), (1, agg [i64 a4, sl a5.length (a5.map i64), sl a6.length (a6.map i64), sl a7.length (a7.map f32)]), (2, sl a8.length (a8.map f32)), (3, f32 a9), (4, i64 a10)]) rfl (Γ' := [⟨0, none⟩]) rfl (n := 85) rfl (g := 0) rfl (fun _ => rfl) ?_
 unfold s_SparseWith at h
 refine zQ ?_
 refine ROps.d (r := ptr [i64 a0, sl a1.length (a1.map i64), sl a2.length (a2.map i64), sl a3.length (a3.map f32)]) (fs := []) (Γ' := [⟨0, none⟩]) rfl rfl rfl (TOp.box_s rfl rfl rfl) rfl ?_
 refine ROps.d (r := ptr [i64 a4, sl a5.length (a5.map i64), sl a6.length (a6.map i64), sl a7.length (a7.map f32)]) (fs := []) (Γ' := [⟨0, none⟩]) rfl rfl rfl (TOp.box_s rfl rfl rfl) rfl ?_
 refine zA (r := nilsl) rfl rfl rfl rfl rfl ?_
 refine zA (r := i64 0) rfl rfl rfl rfl rfl ?_
 refine zA (r := b false) rfl rfl rfl rfl rfl ?_
 refine zN ?_
 refine RunC.seq ?_
 refine RunC.seq ?_
 obtain ⟨r1, hf1, h⟩ := obind_some h
 rcases bsel_some h with ⟨hc2, h⟩ | ⟨hc2, h⟩
 ·obtain ⟨r2, hf3, h⟩ := obind_some h
  rcases bsel_some h with ⟨hc4, h⟩ | ⟨hc4, h⟩
  ·obtain ⟨r3, hf5, h⟩ := obind_some h
   rcases bsel_some h with ⟨hc6, h⟩ | ⟨hc6, h⟩
   ·obtain ⟨r4, hf7, h⟩ := obind_some h
    rcases bsel_some h with ⟨hc8, h⟩ | ⟨hc8, h⟩
    ·obtain ⟨r5, hf9, h⟩ := obind_some h
     rcases bsel_some h with ⟨hc10, h⟩ | ⟨hc10, h⟩
     ·refine RunC.regionW ?_
      refine zM (r := sl a8.length (a8.map f32)) rfl rfl rfl rfl rfl ?_
      refine ROps.d (r := b true) (fs := []) (Γ' := [⟨0, none⟩]) rfl rfl rfl (TOp.eqb (TOp.callB (CallAs.func ent30 rfl rfl) (Bors.cons (Bor.ptr (Bors.cons (Bor.pure rfl) (Bors.cons (Bor.sl (fun _ => rfl)) (Bors.cons (Bor.sl (fun _ => rfl)) (Bors.cons (Bor.sl (fun _ => rfl)) Bors.nil))))) (Bors.cons (Bor.sl (fun _ => rfl)) Bors.nil)) rfl rfl (s_l05Fits_ok a0 a1 a2 a3 a8 r1 hf1)) hc2) rfl ?_
      refine zL (r := b false) rfl rfl rfl (LOp.eqb (LOp.not rfl rfl) rfl) ?_
      refine zM (r := b false) rfl rfl rfl rfl rfl ?_
      refine zM (r := sl a8.length (a8.map f32)) rfl rfl rfl rfl rfl ?_
      refine ROps.d (r := b true) (fs := []) (Γ' := [⟨0, none⟩]) rfl rfl rfl (TOp.eqb (TOp.callB (CallAs.func ent30 rfl rfl) (Bors.cons (Bor.ptr (Bors.cons (Bor.pure rfl) (Bors.cons (Bor.sl (fun _ => rfl)) (Bors.cons (Bor.sl (fun _ => rfl)) (Bors.cons (Bor.sl (fun _ => rfl)) Bors.nil))))) (Bors.cons (Bor.sl (fun _ => rfl)) Bors.nil)) rfl rfl (s_l05Fits_ok a4 a5 a6 a7 a8 r2 hf3)) hc4) rfl ?_
      refine zL (r := b false) rfl rfl rfl (LOp.eqb (LOp.not rfl rfl) rfl) ?_
      refine zL (r := b false) rfl rfl rfl (LOp.pick_false rfl rfl rfl) ?_
      refine zM (r := b false) rfl rfl rfl rfl rfl ?_
      refine ROps.d (r := b true) (fs := []) (Γ' := [⟨0, none⟩]) rfl rfl rfl (TOp.eqb (TOp.callB (CallAs.func ent41 rfl rfl) (Bors.cons (Bor.ptr (Bors.cons (Bor.pure rfl) (Bors.cons (Bor.sl (fun _ => rfl)) (Bors.cons (Bor.sl (fun _ => rfl)) (Bors.cons (Bor.sl (fun _ => rfl)) Bors.nil))))) Bors.nil) rfl rfl (s_l05Lower_ok a4 a5 a6 a7 r3 hf5)) hc6) rfl ?_
      refine zL (r := b false) rfl rfl rfl (LOp.eqb (LOp.not rfl rfl) rfl) ?_
      refine zL (r := b false) rfl rfl rfl (LOp.pick_false rfl rfl rfl) ?_
      refine zM (r := b false) rfl rfl rfl rfl rfl ?_
      refine zM (r := f32 a9) rfl rfl rfl rfl rfl ?_
      refine ROps.d (r := b true) (fs := []) (Γ' := [⟨0, none⟩]) rfl rfl rfl (TOp.eqb (TOp.callB (CallAs.func ent31 rfl rfl) (Bors.cons (Bor.pure rfl) Bors.nil) rfl rfl (s_l02Least_ok a9 r4 hf7)) hc8) rfl ?_
      refine zL (r := b false) rfl rfl rfl (LOp.eqb (LOp.not rfl rfl) rfl) ?_
      refine zL (r := b false) rfl rfl rfl (LOp.pick_false rfl rfl rfl) ?_
      refine zM (r := b false) rfl rfl rfl rfl rfl ?_
      refine zM (r := i64 a10) rfl rfl rfl rfl rfl ?_
      refine ROps.d (r := b true) (fs := []) (Γ' := [⟨0, none⟩]) rfl rfl rfl (TOp.eqb (TOp.callB (CallAs.func ent32 rfl rfl) (Bors.cons (Bor.pure rfl) (Bors.cons (Bor.pure rfl) (Bors.cons (Bor.pure rfl) Bors.nil))) rfl rfl (s_l00In_ok a10 0 128 r5 hf9)) hc10) rfl ?_
      refine zL (r := b false) rfl rfl rfl (LOp.eqb (LOp.not rfl rfl) rfl) ?_
      refine zL (r := b false) rfl rfl rfl (LOp.pick_false rfl rfl rfl) ?_
      refine zN ?_
      refine RunC.wl (τ' := [(2, sl a8.length (a8.map f32)), (3, f32 a9), (4, i64 a10), (5, ptr [i64 a0, sl a1.length (a1.map i64), sl a2.length (a2.map i64), sl a3.length (a3.map f32)]), (6, ptr [i64 a4, sl a5.length (a5.map i64), sl a6.length (a6.map i64), sl a7.length (a7.map f32)]), (34, b false)]) (Γ' := [⟨0, none⟩]) ⟨aR, aR, aR, aR, aR, aR, trivial⟩ ⟨⟨rfl, .inr rfl⟩, trivial⟩ ?_
      refine RunC.cond_false rfl rfl ?_
      refine RunC.skip ?_
      refine RunC.seq ?_
      obtain ⟨r6, r7, r8, hf11, h⟩ := obind3_some h
      refine RunC.regionW ?_
      refine zM (r := sl a8.length (a8.map f32)) rfl rfl rfl rfl rfl ?_
      refine zM (r := f32 a9) rfl rfl rfl rfl rfl ?_
      refine zM (r := i64 a10) rfl rfl rfl rfl rfl ?_
      refine ROps.d (r := tup [oref 0 1 0 r8.length, i64 r6, b r7]) (fs := [(0, (r8.map f32))]) (Γ' := [⟨1, some (r8.map f32)⟩]) rfl rfl rfl (TOp.callBN (ls := [(r8.map f32)]) [0] (CallAs.func ent33 rfl rfl) (Bors.cons (Bor.ptr (Bors.cons (Bor.pure rfl) (Bors.cons (Bor.sl (fun _ => rfl)) (Bors.cons (Bor.sl (fun _ => rfl)) (Bors.cons (Bor.sl (fun _ => rfl)) Bors.nil))))) (Bors.cons (Bor.ptr (Bors.cons (Bor.pure rfl) (Bors.cons (Bor.sl (fun _ => rfl)) (Bors.cons (Bor.sl (fun _ => rfl)) (Bors.cons (Bor.sl (fun _ => rfl)) Bors.nil))))) (Bors.cons (Bor.sl (fun _ => rfl)) (Bors.cons (Bor.pure rfl) (Bors.cons (Bor.pure rfl) (Bors.cons (Bor.pure rfl) Bors.nil)))))) rfl (s_l05Gradient_ok a0 a1 a2 a3 a4 a5 a6 a7 a8 a9 a10 true r6 r7 r8 hf11) (and_all (lts0_map (f := f32) (fun _ => rfl) _) rfl) (and_all (noss_map (f := f32) (fun _ => rfl) _) rfl) rfl (by decide) (ns_of ⟨⟨_, rfl⟩, trivial⟩)) rfl ?_
      refine zL (r := oref 0 1 0 r8.length) rfl rfl rfl (LOp.extract rfl rfl rfl) ?_
      refine zL (r := i64 r6) rfl rfl rfl (LOp.extract rfl rfl rfl) ?_
      refine zL (r := b r7) rfl rfl rfl (LOp.extract rfl rfl rfl) ?_
      refine zA (r := oref 0 1 0 r8.length) rfl rfl rfl rfl rfl ?_
      refine zA (r := i64 r6) rfl rfl rfl rfl rfl ?_
      refine zA (r := b r7) rfl rfl rfl rfl rfl ?_
      refine zN ?_
      refine RunC.ret ?_
      have hq := Option.some.inj h
      obtain ⟨hq0, hq⟩ := Prod.mk.inj hq
      obtain ⟨hq1, hq⟩ := Prod.mk.inj hq
      subst q0
      subst q1
      subst q2
      exact bodyQ.mk (r' := tup [oref 0 1 0 r8.length, i64 r6, b r7]) [(0, 1)] (.inr rfl) rfl (show List.Nodup [0] from by decide) rfl rfl (Res.three rfl (RV.tmp rfl) (RV.tmp rfl) (RV.tmp rfl)) (SelL.arr0 (f := f32) (fun _ => rfl) rfl trivial)
     ·refine RunC.regionW ?_
      refine zM (r := sl a8.length (a8.map f32)) rfl rfl rfl rfl rfl ?_
      refine ROps.d (r := b true) (fs := []) (Γ' := [⟨0, none⟩]) rfl rfl rfl (TOp.eqb (TOp.callB (CallAs.func ent30 rfl rfl) (Bors.cons (Bor.ptr (Bors.cons (Bor.pure rfl) (Bors.cons (Bor.sl (fun _ => rfl)) (Bors.cons (Bor.sl (fun _ => rfl)) (Bors.cons (Bor.sl (fun _ => rfl)) Bors.nil))))) (Bors.cons (Bor.sl (fun _ => rfl)) Bors.nil)) rfl rfl (s_l05Fits_ok a0 a1 a2 a3 a8 r1 hf1)) hc2) rfl ?_
      refine zL (r := b false) rfl rfl rfl (LOp.eqb (LOp.not rfl rfl) rfl) ?_
      refine zM (r := b false) rfl rfl rfl rfl rfl ?_
      refine zM (r := sl a8.length (a8.map f32)) rfl rfl rfl rfl rfl ?_
      refine ROps.d (r := b true) (fs := []) (Γ' := [⟨0, none⟩]) rfl rfl rfl (TOp.eqb (TOp.callB (CallAs.func ent30 rfl rfl) (Bors.cons (Bor.ptr (Bors.cons (Bor.pure rfl) (Bors.cons (Bor.sl (fun _ => rfl)) (Bors.cons (Bor.sl (fun _ => rfl)) (Bors.cons (Bor.sl (fun _ => rfl)) Bors.nil))))) (Bors.cons (Bor.sl (fun _ => rfl)) Bors.nil)) rfl rfl (s_l05Fits_ok a4 a5 a6 a7 a8 r2 hf3)) hc4) rfl ?_
      refine zL (r := b false) rfl rfl rfl (LOp.eqb (LOp.not rfl rfl) rfl) ?_
      refine zL (r := b false) rfl rfl rfl (LOp.pick_false rfl rfl rfl) ?_
      refine zM (r := b false) rfl rfl rfl rfl rfl ?_
      refine ROps.d (r := b true) (fs := []) (Γ' := [⟨0, none⟩]) rfl rfl rfl (TOp.eqb (TOp.callB (CallAs.func ent41 rfl rfl) (Bors.cons (Bor.ptr (Bors.cons (Bor.pure rfl) (Bors.cons (Bor.sl (fun _ => rfl)) (Bors.cons (Bor.sl (fun _ => rfl)) (Bors.cons (Bor.sl (fun _ => rfl)) Bors.nil))))) Bors.nil) rfl rfl (s_l05Lower_ok a4 a5 a6 a7 r3 hf5)) hc6) rfl ?_
      refine zL (r := b false) rfl rfl rfl (LOp.eqb (LOp.not rfl rfl) rfl) ?_
      refine zL (r := b false) rfl rfl rfl (LOp.pick_false rfl rfl rfl) ?_
      refine zM (r := b false) rfl rfl rfl rfl rfl ?_
      refine zM (r := f32 a9) rfl rfl rfl rfl rfl ?_
      refine ROps.d (r := b true) (fs := []) (Γ' := [⟨0, none⟩]) rfl rfl rfl (TOp.eqb (TOp.callB (CallAs.func ent31 rfl rfl) (Bors.cons (Bor.pure rfl) Bors.nil) rfl rfl (s_l02Least_ok a9 r4 hf7)) hc8) rfl ?_
      refine zL (r := b false) rfl rfl rfl (LOp.eqb (LOp.not rfl rfl) rfl) ?_
      refine zL (r := b false) rfl rfl rfl (LOp.pick_false rfl rfl rfl) ?_
      refine zM (r := b false) rfl rfl rfl rfl rfl ?_
      refine zM (r := i64 a10) rfl rfl rfl rfl rfl ?_
      refine ROps.d (r := b false) (fs := []) (Γ' := [⟨0, none⟩]) rfl rfl rfl (TOp.eqb (TOp.callB (CallAs.func ent32 rfl rfl) (Bors.cons (Bor.pure rfl) (Bors.cons (Bor.pure rfl) (Bors.cons (Bor.pure rfl) Bors.nil))) rfl rfl (s_l00In_ok a10 0 128 r5 hf9)) hc10) rfl ?_
      refine zL (r := b true) rfl rfl rfl (LOp.eqb (LOp.not rfl rfl) rfl) ?_
      refine zL (r := b true) rfl rfl rfl (LOp.pick_false rfl rfl rfl) ?_
      refine zN ?_
      refine RunC.wl (τ' := [(2, sl a8.length (a8.map f32)), (3, f32 a9), (4, i64 a10), (5, ptr [i64 a0, sl a1.length (a1.map i64), sl a2.length (a2.map i64), sl a3.length (a3.map f32)]), (6, ptr [i64 a4, sl a5.length (a5.map i64), sl a6.length (a6.map i64), sl a7.length (a7.map f32)]), (34, b true)]) (Γ' := [⟨0, none⟩]) ⟨aR, aR, aR, aR, aR, aR, trivial⟩ ⟨⟨rfl, .inr rfl⟩, trivial⟩ ?_
      refine RunC.cond_true rfl rfl ?_
      refine zQ ?_
      refine zA (r := nilsl) rfl rfl rfl rfl rfl ?_
      refine zA (r := i64 0) rfl rfl rfl rfl rfl ?_
      refine zA (r := b false) rfl rfl rfl rfl rfl ?_
      refine zN ?_
      refine RunC.nil_slot (Γ' := [⟨1, some (([] : List F).map f32)⟩]) 10 0 rfl rfl rfl ?_
      refine RunC.ret ?_
      have hq := Option.some.inj h
      obtain ⟨hq0, hq⟩ := Prod.mk.inj hq
      obtain ⟨hq1, hq⟩ := Prod.mk.inj hq
      subst q0
      subst q1
      subst q2
      exact bodyQ.mk (r' := tup [oref 0 1 0 (([] : List F).length), i64 0, b false]) [(0, 1)] (.inr rfl) rfl (show List.Nodup [0] from by decide) rfl rfl (Res.eq (Res.three rfl (RV.tmp rfl) (RV.tmp rfl) (RV.tmp rfl)) (by rw [(show ([] : List F).length = 0 from rfl)] <;> rfl)) (SelL.arr0 (f := f32) (fun _ => rfl) rfl trivial)
    ·refine RunC.regionW ?_
     refine zM (r := sl a8.length (a8.map f32)) rfl rfl rfl rfl rfl ?_
     refine ROps.d (r := b true) (fs := []) (Γ' := [⟨0, none⟩]) rfl rfl rfl (TOp.eqb (TOp.callB (CallAs.func ent30 rfl rfl) (Bors.cons (Bor.ptr (Bors.cons (Bor.pure rfl) (Bors.cons (Bor.sl (fun _ => rfl)) (Bors.cons (Bor.sl (fun _ => rfl)) (Bors.cons (Bor.sl (fun _ => rfl)) Bors.nil))))) (Bors.cons (Bor.sl (fun _ => rfl)) Bors.nil)) rfl rfl (s_l05Fits_ok a0 a1 a2 a3 a8 r1 hf1)) hc2) rfl ?_
     refine zL (r := b false) rfl rfl rfl (LOp.eqb (LOp.not rfl rfl) rfl) ?_
     refine zM (r := b false) rfl rfl rfl rfl rfl ?_
     refine zM (r := sl a8.length (a8.map f32)) rfl rfl rfl rfl rfl ?_
     refine ROps.d (r := b true) (fs := []) (Γ' := [⟨0, none⟩]) rfl rfl rfl (TOp.eqb (TOp.callB (CallAs.func ent30 rfl rfl) (Bors.cons (Bor.ptr (Bors.cons (Bor.pure rfl) (Bors.cons (Bor.sl (fun _ => rfl)) (Bors.cons (Bor.sl (fun _ => rfl)) (Bors.cons (Bor.sl (fun _ => rfl)) Bors.nil))))) (Bors.cons (Bor.sl (fun _ => rfl)) Bors.nil)) rfl rfl (s_l05Fits_ok a4 a5 a6 a7 a8 r2 hf3)) hc4) rfl ?_
     refine zL (r := b false) rfl rfl rfl (LOp.eqb (LOp.not rfl rfl) rfl) ?_
     refine zL (r := b false) rfl rfl rfl (LOp.pick_false rfl rfl rfl) ?_
     refine zM (r := b false) rfl rfl rfl rfl rfl ?_
     refine ROps.d (r := b true) (fs := []) (Γ' := [⟨0, none⟩]) rfl rfl rfl (TOp.eqb (TOp.callB (CallAs.func ent41 rfl rfl) (Bors.cons (Bor.ptr (Bors.cons (Bor.pure rfl) (Bors.cons (Bor.sl (fun _ => rfl)) (Bors.cons (Bor.sl (fun _ => rfl)) (Bors.cons (Bor.sl (fun _ => rfl)) Bors.nil))))) Bors.nil) rfl rfl (s_l05Lower_ok a4 a5 a6 a7 r3 hf5)) hc6) rfl ?_
     refine zL (r := b false) rfl rfl rfl (LOp.eqb (LOp.not rfl rfl) rfl) ?_
     refine zL (r := b false) rfl rfl rfl (LOp.pick_false rfl rfl rfl) ?_
     refine zM (r := b false) rfl rfl rfl rfl rfl ?_
     refine zM (r := f32 a9) rfl rfl rfl rfl rfl ?_
     refine ROps.d (r := b false) (fs := []) (Γ' := [⟨0, none⟩]) rfl rfl rfl (TOp.eqb (TOp.callB (CallAs.func ent31 rfl rfl) (Bors.cons (Bor.pure rfl) Bors.nil) rfl rfl (s_l02Least_ok a9 r4 hf7)) hc8) rfl ?_
     refine zL (r := b true) rfl rfl rfl (LOp.eqb (LOp.not rfl rfl) rfl) ?_
     refine zL (r := b true) rfl rfl rfl (LOp.pick_false rfl rfl rfl) ?_
     refine zM (r := b true) rfl rfl rfl rfl rfl ?_
     refine ROps.s rfl rfl rfl ?_
     refine ROps.s rfl rfl rfl ?_
     refine ROps.s rfl rfl rfl ?_
     refine zL (r := b true) rfl rfl rfl (LOp.pick_true rfl rfl rfl) ?_
     refine zN ?_
     refine RunC.wl (τ' := [(2, sl a8.length (a8.map f32)), (3, f32 a9), (4, i64 a10), (5, ptr [i64 a0, sl a1.length (a1.map i64), sl a2.length (a2.map i64), sl a3.length (a3.map f32)]), (6, ptr [i64 a4, sl a5.length (a5.map i64), sl a6.length (a6.map i64), sl a7.length (a7.map f32)]), (34, b true)]) (Γ' := [⟨0, none⟩]) ⟨aR, aR, aR, aR, aR, aR, trivial⟩ ⟨⟨rfl, .inr rfl⟩, trivial⟩ ?_
     refine RunC.cond_true rfl rfl ?_
     refine zQ ?_
     refine zA (r := nilsl) rfl rfl rfl rfl rfl ?_
     refine zA (r := i64 0) rfl rfl rfl rfl rfl ?_
     refine zA (r := b false) rfl rfl rfl rfl rfl ?_
     refine zN ?_
     refine RunC.nil_slot (Γ' := [⟨1, some (([] : List F).map f32)⟩]) 10 0 rfl rfl rfl ?_
     refine RunC.ret ?_
     have hq := Option.some.inj h
     obtain ⟨hq0, hq⟩ := Prod.mk.inj hq
     obtain ⟨hq1, hq⟩ := Prod.mk.inj hq
     subst q0
     subst q1
     subst q2
     exact bodyQ.mk (r' := tup [oref 0 1 0 (([] : List F).length), i64 0, b false]) [(0, 1)] (.inr rfl) rfl (show List.Nodup [0] from by decide) rfl rfl (Res.eq (Res.three rfl (RV.tmp rfl) (RV.tmp rfl) (RV.tmp rfl)) (by rw [(show ([] : List F).length = 0 from rfl)] <;> rfl)) (SelL.arr0 (f := f32) (fun _ => rfl) rfl trivial)
   ·refine RunC.regionW ?_
    refine zM (r := sl a8.length (a8.map f32)) rfl rfl rfl rfl rfl ?_
    refine ROps.d (r := b true) (fs := []) (Γ' := [⟨0, none⟩]) rfl rfl rfl (TOp.eqb (TOp.callB (CallAs.func ent30 rfl rfl) (Bors.cons (Bor.ptr (Bors.cons (Bor.pure rfl) (Bors.cons (Bor.sl (fun _ => rfl)) (Bors.cons (Bor.sl (fun _ => rfl)) (Bors.cons (Bor.sl (fun _ => rfl)) Bors.nil))))) (Bors.cons (Bor.sl (fun _ => rfl)) Bors.nil)) rfl rfl (s_l05Fits_ok a0 a1 a2 a3 a8 r1 hf1)) hc2) rfl ?_
    refine zL (r := b false) rfl rfl rfl (LOp.eqb (LOp.not rfl rfl) rfl) ?_
    refine zM (r := b false) rfl rfl rfl rfl rfl ?_
    refine zM (r := sl a8.length (a8.map f32)) rfl rfl rfl rfl rfl ?_
    refine ROps.d (r := b true) (fs := []) (Γ' := [⟨0, none⟩]) rfl rfl rfl (TOp.eqb (TOp.callB (CallAs.func ent30 rfl rfl) (Bors.cons (Bor.ptr (Bors.cons (Bor.pure rfl) (Bors.cons (Bor.sl (fun _ => rfl)) (Bors.cons (Bor.sl (fun _ => rfl)) (Bors.cons (Bor.sl (fun _ => rfl)) Bors.nil))))) (Bors.cons (Bor.sl (fun _ => rfl)) Bors.nil)) rfl rfl (s_l05Fits_ok a4 a5 a6 a7 a8 r2 hf3)) hc4) rfl ?_
    refine zL (r := b false) rfl rfl rfl (LOp.eqb (LOp.not rfl rfl) rfl) ?_
    refine zL (r := b false) rfl rfl rfl (LOp.pick_false rfl rfl rfl) ?_
    refine zM (r := b false) rfl rfl rfl rfl rfl ?_
    refine ROps.d (r := b false) (fs := []) (Γ' := [⟨0, none⟩]) rfl rfl rfl (TOp.eqb (TOp.callB (CallAs.func ent41 rfl rfl) (Bors.cons (Bor.ptr (Bors.cons (Bor.pure rfl) (Bors.cons (Bor.sl (fun _ => rfl)) (Bors.cons (Bor.sl (fun _ => rfl)) (Bors.cons (Bor.sl (fun _ => rfl)) Bors.nil))))) Bors.nil) rfl rfl (s_l05Lower_ok a4 a5 a6 a7 r3 hf5)) hc6) rfl ?_
    refine zL (r := b true) rfl rfl rfl (LOp.eqb (LOp.not rfl rfl) rfl) ?_
    refine zL (r := b true) rfl rfl rfl (LOp.pick_false rfl rfl rfl) ?_
    refine zM (r := b true) rfl rfl rfl rfl rfl ?_
    refine ROps.s rfl rfl rfl ?_
    refine ROps.s rfl rfl rfl ?_
    refine ROps.s rfl rfl rfl ?_
    refine zL (r := b true) rfl rfl rfl (LOp.pick_true rfl rfl rfl) ?_
    refine zM (r := b true) rfl rfl rfl rfl rfl ?_
    refine ROps.s rfl rfl rfl ?_
    refine ROps.s rfl rfl rfl ?_
    refine ROps.s rfl rfl rfl ?_
    refine zL (r := b true) rfl rfl rfl (LOp.pick_true rfl rfl rfl) ?_
    refine zN ?_
    refine RunC.wl (τ' := [(2, sl a8.length (a8.map f32)), (3, f32 a9), (4, i64 a10), (5, ptr [i64 a0, sl a1.length (a1.map i64), sl a2.length (a2.map i64), sl a3.length (a3.map f32)]), (6, ptr [i64 a4, sl a5.length (a5.map i64), sl a6.length (a6.map i64), sl a7.length (a7.map f32)]), (34, b true)]) (Γ' := [⟨0, none⟩]) ⟨aR, aR, aR, aR, aR, aR, trivial⟩ ⟨⟨rfl, .inr rfl⟩, trivial⟩ ?_
    refine RunC.cond_true rfl rfl ?_
    refine zQ ?_
    refine zA (r := nilsl) rfl rfl rfl rfl rfl ?_
    refine zA (r := i64 0) rfl rfl rfl rfl rfl ?_
    refine zA (r := b false) rfl rfl rfl rfl rfl ?_
    refine zN ?_
    refine RunC.nil_slot (Γ' := [⟨1, some (([] : List F).map f32)⟩]) 10 0 rfl rfl rfl ?_
    refine RunC.ret ?_
    have hq := Option.some.inj h
    obtain ⟨hq0, hq⟩ := Prod.mk.inj hq
    obtain ⟨hq1, hq⟩ := Prod.mk.inj hq
    subst q0
    subst q1
    subst q2
    exact bodyQ.mk (r' := tup [oref 0 1 0 (([] : List F).length), i64 0, b false]) [(0, 1)] (.inr rfl) rfl (show List.Nodup [0] from by decide) rfl rfl (Res.eq (Res.three rfl (RV.tmp rfl) (RV.tmp rfl) (RV.tmp rfl)) (by rw [(show ([] : List F).length = 0 from rfl)] <;> rfl)) (SelL.arr0 (f := f32) (fun _ => rfl) rfl trivial)
  ·refine RunC.regionW ?_
   refine zM (r := sl a8.length (a8.map f32)) rfl rfl rfl rfl rfl ?_
   refine ROps.d (r := b true) (fs := []) (Γ' := [⟨0, none⟩]) rfl rfl rfl (TOp.eqb (TOp.callB (CallAs.func ent30 rfl rfl) (Bors.cons (Bor.ptr (Bors.cons (Bor.pure rfl) (Bors.cons (Bor.sl (fun _ => rfl)) (Bors.cons (Bor.sl (fun _ => rfl)) (Bors.cons (Bor.sl (fun _ => rfl)) Bors.nil))))) (Bors.cons (Bor.sl (fun _ => rfl)) Bors.nil)) rfl rfl (s_l05Fits_ok a0 a1 a2 a3 a8 r1 hf1)) hc2) rfl ?_
   refine zL (r := b false) rfl rfl rfl (LOp.eqb (LOp.not rfl rfl) rfl) ?_
   refine zM (r := b false) rfl rfl rfl rfl rfl ?_
   refine zM (r := sl a8.length (a8.map f32)) rfl rfl rfl rfl rfl ?_
   refine ROps.d (r := b false) (fs := []) (Γ' := [⟨0, none⟩]) rfl rfl rfl (TOp.eqb (TOp.callB (CallAs.func ent30 rfl rfl) (Bors.cons (Bor.ptr (Bors.cons (Bor.pure rfl) (Bors.cons (Bor.sl (fun _ => rfl)) (Bors.cons (Bor.sl (fun _ => rfl)) (Bors.cons (Bor.sl (fun _ => rfl)) Bors.nil))))) (Bors.cons (Bor.sl (fun _ => rfl)) Bors.nil)) rfl rfl (s_l05Fits_ok a4 a5 a6 a7 a8 r2 hf3)) hc4) rfl ?_
   refine zL (r := b true) rfl rfl rfl (LOp.eqb (LOp.not rfl rfl) rfl) ?_
   refine zL (r := b true) rfl rfl rfl (LOp.pick_false rfl rfl rfl) ?_
   refine zM (r := b true) rfl rfl rfl rfl rfl ?_
   refine ROps.s rfl rfl rfl ?_
   refine ROps.s rfl rfl rfl ?_
   refine zL (r := b true) rfl rfl rfl (LOp.pick_true rfl rfl rfl) ?_
   refine zM (r := b true) rfl rfl rfl rfl rfl ?_
   refine ROps.s rfl rfl rfl ?_
   refine ROps.s rfl rfl rfl ?_
   refine ROps.s rfl rfl rfl ?_
   refine zL (r := b true) rfl rfl rfl (LOp.pick_true rfl rfl rfl) ?_
   refine zM (r := b true) rfl rfl rfl rfl rfl ?_
   refine ROps.s rfl rfl rfl ?_
   refine ROps.s rfl rfl rfl ?_
   refine ROps.s rfl rfl rfl ?_
   refine zL (r := b true) rfl rfl rfl (LOp.pick_true rfl rfl rfl) ?_
   refine zN ?_
   refine RunC.wl (τ' := [(2, sl a8.length (a8.map f32)), (3, f32 a9), (4, i64 a10), (5, ptr [i64 a0, sl a1.length (a1.map i64), sl a2.length (a2.map i64), sl a3.length (a3.map f32)]), (6, ptr [i64 a4, sl a5.length (a5.map i64), sl a6.length (a6.map i64), sl a7.length (a7.map f32)]), (34, b true)]) (Γ' := [⟨0, none⟩]) ⟨aR, aR, aR, aR, aR, aR, trivial⟩ ⟨⟨rfl, .inr rfl⟩, trivial⟩ ?_
   refine RunC.cond_true rfl rfl ?_
   refine zQ ?_
   refine zA (r := nilsl) rfl rfl rfl rfl rfl ?_
   refine zA (r := i64 0) rfl rfl rfl rfl rfl ?_
   refine zA (r := b false) rfl rfl rfl rfl rfl ?_
   refine zN ?_
   refine RunC.nil_slot (Γ' := [⟨1, some (([] : List F).map f32)⟩]) 10 0 rfl rfl rfl ?_
   refine RunC.ret ?_
   have hq := Option.some.inj h
   obtain ⟨hq0, hq⟩ := Prod.mk.inj hq
   obtain ⟨hq1, hq⟩ := Prod.mk.inj hq
   subst q0
   subst q1
   subst q2
   exact bodyQ.mk (r' := tup [oref 0 1 0 (([] : List F).length), i64 0, b false]) [(0, 1)] (.inr rfl) rfl (show List.Nodup [0] from by decide) rfl rfl (Res.eq (Res.three rfl (RV.tmp rfl) (RV.tmp rfl) (RV.tmp rfl)) (by rw [(show ([] : List F).length = 0 from rfl)] <;> rfl)) (SelL.arr0 (f := f32) (fun _ => rfl) rfl trivial)
 ·refine RunC.regionW ?_
  refine zM (r := sl a8.length (a8.map f32)) rfl rfl rfl rfl rfl ?_
  refine ROps.d (r := b false) (fs := []) (Γ' := [⟨0, none⟩]) rfl rfl rfl (TOp.eqb (TOp.callB (CallAs.func ent30 rfl rfl) (Bors.cons (Bor.ptr (Bors.cons (Bor.pure rfl) (Bors.cons (Bor.sl (fun _ => rfl)) (Bors.cons (Bor.sl (fun _ => rfl)) (Bors.cons (Bor.sl (fun _ => rfl)) Bors.nil))))) (Bors.cons (Bor.sl (fun _ => rfl)) Bors.nil)) rfl rfl (s_l05Fits_ok a0 a1 a2 a3 a8 r1 hf1)) hc2) rfl ?_
  refine zL (r := b true) rfl rfl rfl (LOp.eqb (LOp.not rfl rfl) rfl) ?_
  refine zM (r := b true) rfl rfl rfl rfl rfl ?_
  refine ROps.s rfl rfl rfl ?_
  refine ROps.s rfl rfl rfl ?_
  refine ROps.s rfl rfl rfl ?_
  refine zL (r := b true) rfl rfl rfl (LOp.pick_true rfl rfl rfl) ?_
  refine zM (r := b true) rfl rfl rfl rfl rfl ?_
  refine ROps.s rfl rfl rfl ?_
  refine ROps.s rfl rfl rfl ?_
  refine zL (r := b true) rfl rfl rfl (LOp.pick_true rfl rfl rfl) ?_
  refine zM (r := b true) rfl rfl rfl rfl rfl ?_
  refine ROps.s rfl rfl rfl ?_
  refine ROps.s rfl rfl rfl ?_
  refine ROps.s rfl rfl rfl ?_
  refine zL (r := b true) rfl rfl rfl (LOp.pick_true rfl rfl rfl) ?_
  refine zM (r := b true) rfl rfl rfl rfl rfl ?_
  refine ROps.s rfl rfl rfl ?_
  refine ROps.s rfl rfl rfl ?_
  refine ROps.s rfl rfl rfl ?_
  refine zL (r := b true) rfl rfl rfl (LOp.pick_true rfl rfl rfl) ?_
  refine zN ?_
  refine RunC.wl (τ' := [(2, sl a8.length (a8.map f32)), (3, f32 a9), (4, i64 a10), (5, ptr [i64 a0, sl a1.length (a1.map i64), sl a2.length (a2.map i64), sl a3.length (a3.map f32)]), (6, ptr [i64 a4, sl a5.length (a5.map i64), sl a6.length (a6.map i64), sl a7.length (a7.map f32)]), (34, b true)]) (Γ' := [⟨0, none⟩]) ⟨aR, aR, aR, aR, aR, aR, trivial⟩ ⟨⟨rfl, .inr rfl⟩, trivial⟩ ?_
  refine RunC.cond_true rfl rfl ?_
  refine zQ ?_
  refine zA (r := nilsl) rfl rfl rfl rfl rfl ?_
  refine zA (r := i64 0) rfl rfl rfl rfl rfl ?_
  refine zA (r := b false) rfl rfl rfl rfl rfl ?_
  refine zN ?_
  refine RunC.nil_slot (Γ' := [⟨1, some (([] : List F).map f32)⟩]) 10 0 rfl rfl rfl ?_
  refine RunC.ret ?_
  have hq := Option.some.inj h
  obtain ⟨hq0, hq⟩ := Prod.mk.inj hq
  obtain ⟨hq1, hq⟩ := Prod.mk.inj hq
  subst q0
  subst q1
  subst q2
  exact bodyQ.mk (r' := tup [oref 0 1 0 (([] : List F).length), i64 0, b false]) [(0, 1)] (.inr rfl) rfl (show List.Nodup [0] from by decide) rfl rfl (Res.eq (Res.three rfl (RV.tmp rfl) (RV.tmp rfl) (RV.tmp rfl)) (by rw [(show ([] : List F).length = 0 from rfl)] <;> rfl)) (SelL.arr0 (f := f32) (fun _ => rfl) rfl trivial)
noncomputable def i_length_int64 (a0 : List Int) : Option (Int) :=
 some (a0.length : Int)
theorem i_length_int64_ok (a0 : List Int) (q0 : Int) (h : i_length_int64 a0 = some q0) : Ev Try.prog 137 [sl a0.length (a0.map i64)] [] (i64 q0) [] := by
 refine Ev.start Try.func137 rfl rfl 0 (τ := [(0, sl a0.length (a0.map i64))]) rfl (Γ' := []) rfl (n := 11) rfl (g := 0) rfl (fun _ => rfl) ?_
 unfold i_length_int64 at h
 refine zQ ?_
 refine zA (r := i64 0) rfl rfl rfl rfl rfl ?_
 refine zN ?_
 refine zQ ?_
 refine zM (r := sl a0.length (a0.map i64)) rfl rfl rfl rfl rfl ?_
 refine zL (r := i64 (a0.length : Int)) rfl rfl rfl (LOp.len_sl und22 rfl rfl) ?_
 refine zA (r := i64 (a0.length : Int)) rfl rfl rfl rfl rfl ?_
 refine zN ?_
 refine RunC.ret ?_
 have hq := Option.some.inj h
 subst q0
 exact bodyQ.pure (.inr rfl) rfl (Res.one rfl (RV.tmp rfl))
noncomputable def i_inRange (a0 : Int) (a1 : Int) (a2 : Int) : Option (Bool) :=
 bsel (decide (a1 ≤ a0)) (
  some (decide (a0 ≤ a2))) (
  some false)
theorem i_inRange_ok (a0 : Int) (a1 : Int) (a2 : Int) (q0 : Bool) (h : i_inRange a0 a1 a2 = some q0) : Ev Try.prog 86 [i64 a0, i64 a1, i64 a2] [] (b q0) [] := by
 refine Ev.start Try.func86 rfl rfl 0 (τ := [(0, i64 a0), (1, i64 a1), (2, i64 a2)]) rfl (Γ' := []) rfl (n := 31) rfl (g := 0) rfl (fun _ => rfl) ?_
 unfold i_inRange at h
 refine zQ ?_
 refine zA (r := b false) rfl rfl rfl rfl rfl ?_
 refine zN ?_
 refine RunC.seq ?_
 rcases bsel_some h with ⟨hc1, h⟩ | ⟨hc1, h⟩
 ·refine RunC.regionW ?_
  refine zM (r := i64 a1) rfl rfl rfl rfl rfl ?_
  refine zM (r := i64 a0) rfl rfl rfl rfl rfl ?_
  refine zL (r := b true) rfl rfl rfl (LOp.eqb (LOp.leq rfl rfl rfl) hc1) ?_
  refine zM (r := b true) rfl rfl rfl rfl rfl ?_
  refine zM (r := i64 a0) rfl rfl rfl rfl rfl ?_
  refine zM (r := i64 a2) rfl rfl rfl rfl rfl ?_
  refine zL (r := b (decide (a0 ≤ a2))) rfl rfl rfl (LOp.leq rfl rfl rfl) ?_
  refine zL (r := b (decide (a0 ≤ a2))) rfl rfl rfl (LOp.pick_true rfl rfl rfl) ?_
  refine zA (r := b (decide (a0 ≤ a2))) rfl rfl rfl rfl rfl ?_
  refine zN ?_
  refine RunC.ret ?_
  have hq := Option.some.inj h
  subst q0
  exact bodyQ.pure (.inr rfl) rfl (Res.one rfl (RV.tmp rfl))
 ·refine RunC.regionW ?_
  refine zM (r := i64 a1) rfl rfl rfl rfl rfl ?_
  refine zM (r := i64 a0) rfl rfl rfl rfl rfl ?_
  refine zL (r := b false) rfl rfl rfl (LOp.eqb (LOp.leq rfl rfl rfl) hc1) ?_
  refine zM (r := b false) rfl rfl rfl rfl rfl ?_
  refine ROps.s rfl rfl rfl ?_
  refine ROps.s rfl rfl rfl ?_
  refine ROps.s rfl rfl rfl ?_
  refine zL (r := b false) rfl rfl rfl (LOp.pick_false rfl rfl rfl) ?_
  refine zA (r := b false) rfl rfl rfl rfl rfl ?_
  refine zN ?_
  refine RunC.ret ?_
  have hq := Option.some.inj h
  subst q0
  exact bodyQ.pure (.inr rfl) rfl (Res.one rfl (RV.tmp rfl))
noncomputable def x_cmp_isNaN_int64 (a0 : Int) : Option (Bool) :=
 some (!decide (a0 = a0))
theorem x_cmp_isNaN_int64_ok (a0 : Int) (q0 : Bool) (h : x_cmp_isNaN_int64 a0 = some q0) : Ev Try.prog 154 [i64 a0] [] (b q0) [] := by
 refine Ev.start Try.func154 rfl rfl 0 (τ := [(0, i64 a0)]) rfl (Γ' := []) rfl (n := 13) rfl (g := 0) rfl (fun _ => rfl) ?_
 unfold x_cmp_isNaN_int64 at h
 refine zQ ?_
 refine zA (r := b false) rfl rfl rfl rfl rfl ?_
 refine zN ?_
 refine zQ ?_
 refine zM (r := i64 a0) rfl rfl rfl rfl rfl ?_
 refine zM (r := i64 a0) rfl rfl rfl rfl rfl ?_
 refine zL (r := b (!decide (a0 = a0))) rfl rfl rfl (LOp.neq rfl rfl rfl) ?_
 refine zA (r := b (!decide (a0 = a0))) rfl rfl rfl rfl rfl ?_
 refine zN ?_
 refine RunC.ret ?_
 have hq := Option.some.inj h
 subst q0
 exact bodyQ.pure (.inr rfl) rfl (Res.one rfl (RV.tmp rfl))
noncomputable def x_cmp_Less_int64 (a0 : Int) (a1 : Int) : Option (Bool) :=
 obind (x_cmp_isNaN_int64 a0) fun (r1 : Bool) =>
 bsel r1 (
  obind (x_cmp_isNaN_int64 a1) fun (r2 : Bool) =>
  bsel r2 (
   some (decide (a0 < a1))) (
   some true)) (
  some (decide (a0 < a1)))
theorem x_cmp_Less_int64_ok (a0 : Int) (a1 : Int) (q0 : Bool) (h : x_cmp_Less_int64 a0 a1 = some q0) : Ev Try.prog 147 [i64 a0, i64 a1] [] (b q0) [] := by
 refine Ev.start Try.func147 rfl rfl 0 (τ := [(0, i64 a0), (1, i64 a1)]) rfl (Γ' := []) rfl (n := 35) rfl (g := 0) rfl (fun _ => rfl) ?_
 unfold x_cmp_Less_int64 at h
 refine zQ ?_
 refine zA (r := b false) rfl rfl rfl rfl rfl ?_
 refine zN ?_
 refine RunC.seq ?_
 obtain ⟨r1, hf1, h⟩ := obind_some h
 rcases bsel_some h with ⟨hc2, h⟩ | ⟨hc2, h⟩
 ·obtain ⟨r2, hf3, h⟩ := obind_some h
  rcases bsel_some h with ⟨hc4, h⟩ | ⟨hc4, h⟩
  ·refine RunC.regionW ?_
   refine zM (r := i64 a0) rfl rfl rfl rfl rfl ?_
   refine ROps.d (r := b true) (fs := []) (Γ' := []) rfl rfl rfl (TOp.eqb (TOp.callB (CallAs.func ent154 rfl rfl) (Bors.cons (Bor.pure rfl) Bors.nil) rfl rfl (x_cmp_isNaN_int64_ok a0 r1 hf1)) hc2) rfl ?_
   refine zM (r := b true) rfl rfl rfl rfl rfl ?_
   refine zM (r := i64 a1) rfl rfl rfl rfl rfl ?_
   refine ROps.d (r := b true) (fs := []) (Γ' := []) rfl rfl rfl (TOp.eqb (TOp.callB (CallAs.func ent154 rfl rfl) (Bors.cons (Bor.pure rfl) Bors.nil) rfl rfl (x_cmp_isNaN_int64_ok a1 r2 hf3)) hc4) rfl ?_
   refine zL (r := b false) rfl rfl rfl (LOp.eqb (LOp.not rfl rfl) rfl) ?_
   refine zL (r := b false) rfl rfl rfl (LOp.pick_true rfl rfl rfl) ?_
   refine zM (r := b false) rfl rfl rfl rfl rfl ?_
   refine zM (r := i64 a0) rfl rfl rfl rfl rfl ?_
   refine zM (r := i64 a1) rfl rfl rfl rfl rfl ?_
   refine zL (r := b (decide (a0 < a1))) rfl rfl rfl (LOp.lss rfl rfl rfl) ?_
   refine zL (r := b (decide (a0 < a1))) rfl rfl rfl (LOp.pick_false rfl rfl rfl) ?_
   refine zA (r := b (decide (a0 < a1))) rfl rfl rfl rfl rfl ?_
   refine zN ?_
   refine RunC.ret ?_
   have hq := Option.some.inj h
   subst q0
   exact bodyQ.pure (.inr rfl) rfl (Res.one rfl (RV.tmp rfl))
  ·refine RunC.regionW ?_
   refine zM (r := i64 a0) rfl rfl rfl rfl rfl ?_
   refine ROps.d (r := b true) (fs := []) (Γ' := []) rfl rfl rfl (TOp.eqb (TOp.callB (CallAs.func ent154 rfl rfl) (Bors.cons (Bor.pure rfl) Bors.nil) rfl rfl (x_cmp_isNaN_int64_ok a0 r1 hf1)) hc2) rfl ?_
   refine zM (r := b true) rfl rfl rfl rfl rfl ?_
   refine zM (r := i64 a1) rfl rfl rfl rfl rfl ?_
   refine ROps.d (r := b false) (fs := []) (Γ' := []) rfl rfl rfl (TOp.eqb (TOp.callB (CallAs.func ent154 rfl rfl) (Bors.cons (Bor.pure rfl) Bors.nil) rfl rfl (x_cmp_isNaN_int64_ok a1 r2 hf3)) hc4) rfl ?_
   refine zL (r := b true) rfl rfl rfl (LOp.eqb (LOp.not rfl rfl) rfl) ?_
   refine zL (r := b true) rfl rfl rfl (LOp.pick_true rfl rfl rfl) ?_
   refine zM (r := b true) rfl rfl rfl rfl rfl ?_
   refine ROps.s rfl rfl rfl ?_
   refine ROps.s rfl rfl rfl ?_
   refine ROps.s rfl rfl rfl ?_
   refine zL (r := b true) rfl rfl rfl (LOp.pick_true rfl rfl rfl) ?_
   refine zA (r := b true) rfl rfl rfl rfl rfl ?_
   refine zN ?_
   refine RunC.ret ?_
   have hq := Option.some.inj h
   subst q0
   exact bodyQ.pure (.inr rfl) rfl (Res.one rfl (RV.tmp rfl))
 ·refine RunC.regionW ?_
  refine zM (r := i64 a0) rfl rfl rfl rfl rfl ?_
  refine ROps.d (r := b false) (fs := []) (Γ' := []) rfl rfl rfl (TOp.eqb (TOp.callB (CallAs.func ent154 rfl rfl) (Bors.cons (Bor.pure rfl) Bors.nil) rfl rfl (x_cmp_isNaN_int64_ok a0 r1 hf1)) hc2) rfl ?_
  refine zM (r := b false) rfl rfl rfl rfl rfl ?_
  refine ROps.s rfl rfl rfl ?_
  refine ROps.s rfl rfl rfl ?_
  refine ROps.s rfl rfl rfl ?_
  refine zL (r := b false) rfl rfl rfl (LOp.pick_false rfl rfl rfl) ?_
  refine zM (r := b false) rfl rfl rfl rfl rfl ?_
  refine zM (r := i64 a0) rfl rfl rfl rfl rfl ?_
  refine zM (r := i64 a1) rfl rfl rfl rfl rfl ?_
  refine zL (r := b (decide (a0 < a1))) rfl rfl rfl (LOp.lss rfl rfl rfl) ?_
  refine zL (r := b (decide (a0 < a1))) rfl rfl rfl (LOp.pick_false rfl rfl rfl) ?_
  refine zA (r := b (decide (a0 < a1))) rfl rfl rfl rfl rfl ?_
  refine zN ?_
  refine RunC.ret ?_
  have hq := Option.some.inj h
  subst q0
  exact bodyQ.pure (.inr rfl) rfl (Res.one rfl (RV.tmp rfl))
noncomputable def x_slices_IsSorted_int64_int64_b1 (a0 : List Int) (v2 : Int) : Option (LR (Int) (Unit) (Bool)) :=
 bsel (decide (0 < v2)) (
  obind (at? a0 v2) fun (e3 : Int) =>
  olet (IntKind.i64.wrap (v2 - 1)) fun (x4 : Int) =>
  obind (at? a0 x4) fun (e5 : Int) =>
  obind (x_cmp_Less_int64 e3 e5) fun (r6 : Bool) =>
  bsel r6 (
   some (LR.ret false)) (
   olet (IntKind.i64.wrap (v2 - 1)) fun (x7 : Int) =>
   some (LR.next x7))) (
  some (LR.out ()))
noncomputable def x_slices_IsSorted_int64_int64_s1 (a0 : List Int) : (Int) → Option (LR (Int) (Unit) (Bool)) := fun s => x_slices_IsSorted_int64_int64_b1 a0 s
noncomputable def x_slices_IsSorted_int64_int64_k1  : Option (Bool) :=
 some true
noncomputable def x_slices_IsSorted_int64_int64 (a0 : List Int) : Option (Bool) :=
 olet (IntKind.i64.wrap ((a0.length : Int) - 1)) fun (x1 : Int) =>
 obind (loopM (x_slices_IsSorted_int64_int64_s1 a0) x1) fun z => osum z (fun _ => x_slices_IsSorted_int64_int64_k1) (fun r => some r)
theorem x_slices_IsSorted_int64_int64_ok (a0 : List Int) (q0 : Bool) (h : x_slices_IsSorted_int64_int64 a0 = some q0) : Ev Try.prog 138 [sl a0.length (a0.map i64)] [] (b q0) [] := by
 refine Ev.start Try.func138 rfl rfl 0 (τ := [(0, sl a0.length (a0.map i64))]) rfl (Γ' := []) rfl (n := 43) rfl (g := 0) rfl (fun _ => rfl) ?_
 unfold x_slices_IsSorted_int64_int64 at h
 refine zQ ?_
 refine zA (r := b false) rfl rfl rfl rfl rfl ?_
 refine zN ?_
 refine RunC.seq ?_
 refine RunC.seq ?_
 obtain ⟨x1, hx1, h⟩ := olet_some h
 refine RunC.regionW ?_
 refine zM (r := sl a0.length (a0.map i64)) rfl rfl rfl rfl rfl ?_
 refine zL (r := i64 (a0.length : Int)) rfl rfl rfl (LOp.len_sl und22 rfl rfl) ?_
 refine zL (r := i64 x1) rfl rfl rfl (LOp.eqr (LOp.sub rfl rfl rfl) (congrArg (ik .i64) hx1)) ?_
 refine zA (r := i64 x1) rfl rfl rfl rfl rfl ?_
 refine zN ?_
 obtain ⟨z2, hz_2, h⟩ := obind_some h
 refine RunC.cutN (fun τ Γ => WeakLe τ [] ∧ DeadLe Γ [] ∧ z2 = .inl ()) ?_ ?_
 ·refine RunC.block (RunC.loop (RunL.loopM (x := z2) (x_slices_IsSorted_int64_int64_s1 a0) (fun (s : Int) τ Γ => WeakLe τ [(0, sl a0.length (a0.map i64)), (3, i64 s)] ∧ DeadLe Γ []) ?_ _ _ _ hz_2 ⟨⟨aR, aR, trivial⟩, trivial⟩))
  rintro v2 τ2 Γ2 y2_ ⟨hw2, hd2⟩ h2_ ho2 hr2
  refine RunC.wl (τ' := [(0, sl a0.length (a0.map i64)), (3, i64 v2)]) (Γ' := []) hw2 hd2 ?_
  replace h2_ : x_slices_IsSorted_int64_int64_b1 a0 v2 = some y2_ := h2_
  unfold x_slices_IsSorted_int64_int64_b1 at h2_
  refine RunC.seq ?_
  refine RunC.seq ?_
  rcases bsel_some h2_ with ⟨hc2, h2_⟩ | ⟨hc2, h2_⟩
  ·refine RunC.regionW ?_
   refine zM (r := i64 v2) rfl rfl rfl rfl rfl ?_
   refine zL (r := b true) rfl rfl rfl (LOp.eqb (LOp.gtr rfl rfl rfl) hc2) ?_
   refine zN ?_
   refine RunC.cond_true rfl rfl ?_
   refine RunC.skip ?_
   refine RunC.seq ?_
   refine RunC.block ?_
   refine RunC.seq ?_
   obtain ⟨e3, he3, h2_⟩ := obind_some h2_
   obtain ⟨x4, hx4, h2_⟩ := olet_some h2_
   obtain ⟨e5, he5, h2_⟩ := obind_some h2_
   obtain ⟨r6, hf6, h2_⟩ := obind_some h2_
   rcases bsel_some h2_ with ⟨hc7, h2_⟩ | ⟨hc7, h2_⟩
   ·refine RunC.region_draw (Γ' := []) 10 mixed 
     (TR.l (r := sl a0.length (a0.map i64)) rfl rfl (LOp.move rfl rfl) <|
     (TR.l (r := i64 v2) rfl rfl (LOp.move rfl rfl) <|
     (TR.l (r := ptr [i64 e3]) rfl rfl (LOp.le (LOp.ix (f := i64) und22 siz2 rfl rfl rfl rfl he3) ALe.ptr) <|
     (TR.l (r := i64 e3) rfl rfl (LOp.load1 agg2 rfl rfl) <|
     (TR.l (r := sl a0.length (a0.map i64)) rfl rfl (LOp.move rfl rfl) <|
     (TR.l (r := i64 v2) rfl rfl (LOp.move rfl rfl) <|
     (TR.l (r := i64 x4) rfl rfl (LOp.eqr (LOp.sub rfl rfl rfl) (congrArg (ik .i64) hx4)) <|
     (TR.l (r := ptr [i64 e5]) rfl rfl (LOp.le (LOp.ix (f := i64) und22 siz2 rfl rfl rfl rfl he5) ALe.ptr) <|
     (TR.l (r := i64 e5) rfl rfl (LOp.load1 agg2 rfl rfl) <|
     (TR.d (r := b true) (fs := []) rfl rfl (TOp.eqb (TOp.callB (CallAs.func ent147 rfl rfl) (Bors.cons (Bor.pure rfl) (Bors.cons (Bor.pure rfl) Bors.nil)) rfl rfl (x_cmp_Less_int64_ok e3 e5 r6 hf6)) hc7) <|
     TR.nil)))))))))) rfl (by kernel_rfl) rfl fills_nil rfl ?_
    iterate 10 refine ROps.dropS ?_
    refine ROps.drop0 ?_
    refine zN ?_
    refine RunC.cond_true rfl rfl ?_
    refine zQ ?_
    refine zA (r := b false) rfl rfl rfl rfl rfl ?_
    refine zN ?_
    refine RunC.ret ?_
    cases Option.some.inj h2_
    have hx3_ := hr2 _ rfl
    subst hx3_
    have hq := Option.some.inj h
    subst q0
    exact bodyQ.pure (.inr rfl) rfl (Res.one rfl (RV.tmp rfl))
   ·refine RunC.region_draw (Γ' := []) 10 mixed 
     (TR.l (r := sl a0.length (a0.map i64)) rfl rfl (LOp.move rfl rfl) <|
     (TR.l (r := i64 v2) rfl rfl (LOp.move rfl rfl) <|
     (TR.l (r := ptr [i64 e3]) rfl rfl (LOp.le (LOp.ix (f := i64) und22 siz2 rfl rfl rfl rfl he3) ALe.ptr) <|
     (TR.l (r := i64 e3) rfl rfl (LOp.load1 agg2 rfl rfl) <|
     (TR.l (r := sl a0.length (a0.map i64)) rfl rfl (LOp.move rfl rfl) <|
     (TR.l (r := i64 v2) rfl rfl (LOp.move rfl rfl) <|
     (TR.l (r := i64 x4) rfl rfl (LOp.eqr (LOp.sub rfl rfl rfl) (congrArg (ik .i64) hx4)) <|
     (TR.l (r := ptr [i64 e5]) rfl rfl (LOp.le (LOp.ix (f := i64) und22 siz2 rfl rfl rfl rfl he5) ALe.ptr) <|
     (TR.l (r := i64 e5) rfl rfl (LOp.load1 agg2 rfl rfl) <|
     (TR.d (r := b false) (fs := []) rfl rfl (TOp.eqb (TOp.callB (CallAs.func ent147 rfl rfl) (Bors.cons (Bor.pure rfl) (Bors.cons (Bor.pure rfl) Bors.nil)) rfl rfl (x_cmp_Less_int64_ok e3 e5 r6 hf6)) hc7) <|
     TR.nil)))))))))) rfl (by kernel_rfl) rfl fills_nil rfl ?_
    iterate 10 refine ROps.dropS ?_
    refine ROps.drop0 ?_
    refine zN ?_
    refine RunC.cond_false rfl rfl ?_
    refine RunC.skip ?_
    obtain ⟨x7, hx8, h2_⟩ := olet_some h2_
    refine RunC.regionW ?_
    refine zM (r := i64 v2) rfl rfl rfl rfl rfl ?_
    refine zL (r := i64 x7) rfl rfl rfl (LOp.eqr (LOp.sub rfl rfl rfl) (congrArg (ik .i64) hx8)) ?_
    refine zA (r := i64 x7) rfl rfl rfl rfl rfl ?_
    refine zN ?_
    cases Option.some.inj h2_
    exact ⟨_, rfl, ⟨aR, aR, trivial⟩, trivial⟩
  ·refine RunC.regionW ?_
   refine zM (r := i64 v2) rfl rfl rfl rfl rfl ?_
   refine zL (r := b false) rfl rfl rfl (LOp.eqb (LOp.gtr rfl rfl rfl) hc2) ?_
   refine zN ?_
   refine RunC.cond_false rfl rfl ?_
   refine RunC.exit ?_
   cases Option.some.inj h2_
   have hx := ho2 _ rfl
   exact ⟨trivial, trivial, hx⟩
 ·rintro τ4 Γ4 ⟨hw4, hd4, rfl⟩
  refine RunC.wl hw4 hd4 ?_
  replace h : x_slices_IsSorted_int64_int64_k1 = some q0 := h
  unfold x_slices_IsSorted_int64_int64_k1 at h
  refine zQ ?_
  refine zA (r := b true) rfl rfl rfl rfl rfl ?_
  refine zN ?_
  refine RunC.ret ?_
  have hq := Option.some.inj h
  subst q0
  exact bodyQ.pure (.inr rfl) rfl (Res.one rfl (RV.tmp rfl))
noncomputable def i_allIn_1 (a0 : Int) (a1 : Int) (a2 : Int) : Option (Bool) :=
 obind (i_inRange a0 a1 a2) fun (r1 : Bool) =>
 some (!r1)
theorem i_allIn_1_ok (a0 : Int) (a1 : Int) (a2 : Int) (q0 : Bool) (h : i_allIn_1 a0 a1 a2 = some q0) : Ev Try.prog 149 [i64 a0, ptr [i64 a1], ptr [i64 a2]] [] (b q0) [] := by
 refine Ev.start Try.func149 rfl rfl 0 (τ := [(0, i64 a0), (1, ptr [i64 a1]), (2, ptr [i64 a2])]) rfl (Γ' := []) rfl (n := 21) rfl (g := 0) rfl (fun _ => rfl) ?_
 unfold i_allIn_1 at h
 refine zQ ?_
 refine zA (r := b false) rfl rfl rfl rfl rfl ?_
 refine zN ?_
 refine RunC.seq ?_
 obtain ⟨r1, hf1, h⟩ := obind_some h
 refine RunC.regionW ?_
 refine zM (r := i64 a0) rfl rfl rfl rfl rfl ?_
 refine zL (r := i64 a1) rfl rfl rfl (LOp.load1 agg2 rfl rfl) ?_
 refine zL (r := i64 a2) rfl rfl rfl (LOp.load1 agg2 rfl rfl) ?_
 refine ROps.d (r := b r1) (fs := []) (Γ' := []) rfl rfl rfl (TOp.callB (CallAs.func ent86 rfl rfl) (Bors.cons (Bor.pure rfl) (Bors.cons (Bor.pure rfl) (Bors.cons (Bor.pure rfl) Bors.nil))) rfl rfl (i_inRange_ok a0 a1 a2 r1 hf1)) rfl ?_
 refine zL (r := b (!r1)) rfl rfl rfl (LOp.not rfl rfl) ?_
 refine zA (r := b (!r1)) rfl rfl rfl rfl rfl ?_
 refine zN ?_
 refine RunC.ret ?_
 have hq := Option.some.inj h
 subst q0
 exact bodyQ.pure (.inr rfl) rfl (Res.one rfl (RV.tmp rfl))
noncomputable def x_slices_IndexFunc_int64_int64_1Fi_allIn_1_b1 (a0 : List Int) (a1 : Int) (a2 : Int) (v1 : Int) : Option (LR (Int) (Unit) (Int)) :=
 bsel (decide (v1 < (a0.length : Int))) (
  obind (at? a0 v1) fun (e2 : Int) =>
  obind (i_allIn_1 e2 a1 a2) fun (r3 : Bool) =>
  bsel r3 (
   some (LR.ret v1)) (
   olet (IntKind.i64.wrap (v1 + 1)) fun (x4 : Int) =>
   some (LR.next x4))) (
  some (LR.out ()))
noncomputable def x_slices_IndexFunc_int64_int64_1Fi_allIn_1_s1 (a0 : List Int) (a1 : Int) (a2 : Int) : (Int) → Option (LR (Int) (Unit) (Int)) := fun s => x_slices_IndexFunc_int64_int64_1Fi_allIn_1_b1 a0 a1 a2 s
noncomputable def x_slices_IndexFunc_int64_int64_1Fi_allIn_1_k1  : Option (Int) :=
 some (-1)
noncomputable def x_slices_IndexFunc_int64_int64_1Fi_allIn_1 (a0 : List Int) (a1 : Int) (a2 : Int) : Option (Int) :=
 obind (loopM (x_slices_IndexFunc_int64_int64_1Fi_allIn_1_s1 a0 a1 a2) 0) fun z => osum z (fun _ => x_slices_IndexFunc_int64_int64_1Fi_allIn_1_k1) (fun r => some r)
theorem x_slices_IndexFunc_int64_int64_1Fi_allIn_1_ok (a0 : List Int) (a1 : Int) (a2 : Int) (q0 : Int) (h : x_slices_IndexFunc_int64_int64_1Fi_allIn_1 a0 a1 a2 = some q0) : Ev Try.prog 155 [sl a0.length (a0.map i64), fn (.func 149) [] [ptr [i64 a1], ptr [i64 a2]]] [] (i64 q0) [] := by
 refine Ev.start Try.func155 rfl rfl 0 (τ := [(0, sl a0.length (a0.map i64)), (1, fn (.func 149) [] [ptr [i64 a1], ptr [i64 a2]])]) rfl (Γ' := []) rfl (n := 39) rfl (g := 0) rfl (fun _ => rfl) ?_
 unfold x_slices_IndexFunc_int64_int64_1Fi_allIn_1 at h
 refine zQ ?_
 refine zA (r := i64 0) rfl rfl rfl rfl rfl ?_
 refine zN ?_
 refine RunC.seq ?_
 refine zQ ?_
 refine zM (r := sl a0.length (a0.map i64)) rfl rfl rfl rfl rfl ?_
 refine zL (r := i64 (a0.length : Int)) rfl rfl rfl (LOp.len_sl und22 rfl rfl) ?_
 refine zM (r := i64 0) rfl rfl rfl rfl rfl ?_
 refine zN ?_
 obtain ⟨z2, hz_2, h⟩ := obind_some h
 refine RunC.cutN (fun τ Γ => WeakLe τ [] ∧ DeadLe Γ [] ∧ z2 = .inl ()) ?_ ?_
 ·refine RunC.block (RunC.loop (RunL.loopM (x := z2) (x_slices_IndexFunc_int64_int64_1Fi_allIn_1_s1 a0 a1 a2) (fun (s : Int) τ Γ => WeakLe τ [(0, sl a0.length (a0.map i64)), (1, fn (.func 149) [] [ptr [i64 a1], ptr [i64 a2]]), (7, i64 (a0.length : Int)), (8, i64 s)] ∧ DeadLe Γ []) ?_ _ _ _ hz_2 ⟨⟨aR, aR, aR, aR, trivial⟩, trivial⟩))
  rintro v1 τ2 Γ2 y2_ ⟨hw2, hd2⟩ h2_ ho2 hr2
  refine RunC.wl (τ' := [(0, sl a0.length (a0.map i64)), (1, fn (.func 149) [] [ptr [i64 a1], ptr [i64 a2]]), (7, i64 (a0.length : Int)), (8, i64 v1)]) (Γ' := []) hw2 hd2 ?_
  replace h2_ : x_slices_IndexFunc_int64_int64_1Fi_allIn_1_b1 a0 a1 a2 v1 = some y2_ := h2_
  unfold x_slices_IndexFunc_int64_int64_1Fi_allIn_1_b1 at h2_
  refine RunC.seq ?_
  rcases bsel_some h2_ with ⟨hc1, h2_⟩ | ⟨hc1, h2_⟩
  ·refine RunC.regionW ?_
   refine zL (r := b true) rfl rfl rfl (LOp.eqb (LOp.lss rfl rfl rfl) hc1) ?_
   refine zN ?_
   refine RunC.seq ?_
   refine RunC.cond_true rfl rfl ?_
   refine RunC.skip ?_
   refine RunC.seq ?_
   refine RunC.block ?_
   refine zQ ?_
   refine zM (r := i64 v1) rfl rfl rfl rfl rfl ?_
   refine zA (r := i64 v1) rfl rfl rfl rfl rfl ?_
   refine zN ?_
   refine RunC.seq ?_
   obtain ⟨e2, he2, h2_⟩ := obind_some h2_
   obtain ⟨r3, hf3, h2_⟩ := obind_some h2_
   rcases bsel_some h2_ with ⟨hc4, h2_⟩ | ⟨hc4, h2_⟩
   ·refine RunC.regionW ?_
    refine zM (r := fn (.func 149) [] [ptr [i64 a1], ptr [i64 a2]]) rfl rfl rfl rfl rfl ?_
    refine zM (r := sl a0.length (a0.map i64)) rfl rfl rfl rfl rfl ?_
    refine zM (r := i64 v1) rfl rfl rfl rfl rfl ?_
    refine zL (r := ptr [i64 e2]) rfl rfl rfl (LOp.le (LOp.ix (f := i64) und22 siz2 rfl rfl rfl rfl he2) ALe.ptr) ?_
    refine zL (r := i64 e2) rfl rfl rfl (LOp.load1 agg2 rfl rfl) ?_
    refine ROps.d (r := b true) (fs := []) (Γ' := []) rfl rfl rfl (TOp.eqb (TOp.callB (CallAs.fn ent149 rfl rfl rfl rfl) (Bors.cons (Bor.pure rfl) (Bors.cons (Bor.ptr (Bors.cons (Bor.pure rfl) Bors.nil)) (Bors.cons (Bor.ptr (Bors.cons (Bor.pure rfl) Bors.nil)) Bors.nil))) rfl rfl (i_allIn_1_ok e2 a1 a2 r3 hf3)) hc4) rfl ?_
    refine zN ?_
    refine RunC.cond_true rfl rfl ?_
    refine zQ ?_
    refine zM (r := i64 v1) rfl rfl rfl rfl rfl ?_
    refine zA (r := i64 v1) rfl rfl rfl rfl rfl ?_
    refine zN ?_
    refine RunC.ret ?_
    cases Option.some.inj h2_
    have hx3_ := hr2 _ rfl
    subst hx3_
    have hq := Option.some.inj h
    subst q0
    exact bodyQ.pure (.inr rfl) rfl (Res.one rfl (RV.tmp rfl))
   ·refine RunC.regionW ?_
    refine zM (r := fn (.func 149) [] [ptr [i64 a1], ptr [i64 a2]]) rfl rfl rfl rfl rfl ?_
    refine zM (r := sl a0.length (a0.map i64)) rfl rfl rfl rfl rfl ?_
    refine zM (r := i64 v1) rfl rfl rfl rfl rfl ?_
    refine zL (r := ptr [i64 e2]) rfl rfl rfl (LOp.le (LOp.ix (f := i64) und22 siz2 rfl rfl rfl rfl he2) ALe.ptr) ?_
    refine zL (r := i64 e2) rfl rfl rfl (LOp.load1 agg2 rfl rfl) ?_
    refine ROps.d (r := b false) (fs := []) (Γ' := []) rfl rfl rfl (TOp.eqb (TOp.callB (CallAs.fn ent149 rfl rfl rfl rfl) (Bors.cons (Bor.pure rfl) (Bors.cons (Bor.ptr (Bors.cons (Bor.pure rfl) Bors.nil)) (Bors.cons (Bor.ptr (Bors.cons (Bor.pure rfl) Bors.nil)) Bors.nil))) rfl rfl (i_allIn_1_ok e2 a1 a2 r3 hf3)) hc4) rfl ?_
    refine zN ?_
    refine RunC.cond_false rfl rfl ?_
    refine RunC.skip ?_
    obtain ⟨x4, hx5, h2_⟩ := olet_some h2_
    refine RunC.regionW ?_
    refine zL (r := i64 x4) rfl rfl rfl (LOp.eqr (LOp.add rfl rfl rfl) (congrArg (ik .i64) hx5)) ?_
    refine zM (r := i64 x4) rfl rfl rfl rfl rfl ?_
    refine zN ?_
    cases Option.some.inj h2_
    exact ⟨_, rfl, ⟨aR, aR, aR, aR, trivial⟩, trivial⟩
  ·refine RunC.regionW ?_
   refine zL (r := b false) rfl rfl rfl (LOp.eqb (LOp.lss rfl rfl rfl) hc1) ?_
   refine zN ?_
   refine RunC.seq ?_
   refine RunC.cond_false rfl rfl ?_
   refine RunC.exit ?_
   cases Option.some.inj h2_
   have hx := ho2 _ rfl
   exact ⟨trivial, trivial, hx⟩
 ·rintro τ4 Γ4 ⟨hw4, hd4, rfl⟩
  refine RunC.wl hw4 hd4 ?_
  replace h : x_slices_IndexFunc_int64_int64_1Fi_allIn_1_k1 = some q0 := h
  unfold x_slices_IndexFunc_int64_int64_1Fi_allIn_1_k1 at h
  refine zQ ?_
  refine zA (r := i64 (-1)) rfl rfl rfl rfl rfl ?_
  refine zN ?_
  refine RunC.ret ?_
  have hq := Option.some.inj h
  subst q0
  exact bodyQ.pure (.inr rfl) rfl (Res.one rfl (RV.tmp rfl))
noncomputable def x_slices_ContainsFunc_int64_int64_1Fi_allIn_1 (a0 : List Int) (a1 : Int) (a2 : Int) : Option (Bool) :=
 obind (x_slices_IndexFunc_int64_int64_1Fi_allIn_1 a0 a1 a2) fun (r1 : Int) =>
 some (decide (0 ≤ r1))
theorem x_slices_ContainsFunc_int64_int64_1Fi_allIn_1_ok (a0 : List Int) (a1 : Int) (a2 : Int) (q0 : Bool) (h : x_slices_ContainsFunc_int64_int64_1Fi_allIn_1 a0 a1 a2 = some q0) : Ev Try.prog 148 [sl a0.length (a0.map i64), fn (.func 149) [] [ptr [i64 a1], ptr [i64 a2]]] [] (b q0) [] := by
 refine Ev.start Try.func148 rfl rfl 0 (τ := [(0, sl a0.length (a0.map i64)), (1, fn (.func 149) [] [ptr [i64 a1], ptr [i64 a2]])]) rfl (Γ' := []) rfl (n := 19) rfl (g := 0) rfl (fun _ => rfl) ?_
 unfold x_slices_ContainsFunc_int64_int64_1Fi_allIn_1 at h
 refine zQ ?_
 refine zA (r := b false) rfl rfl rfl rfl rfl ?_
 refine zN ?_
 refine RunC.seq ?_
 obtain ⟨r1, hf1, h⟩ := obind_some h
 refine RunC.regionW ?_
 refine zM (r := sl a0.length (a0.map i64)) rfl rfl rfl rfl rfl ?_
 refine zM (r := fn (.func 149) [] [ptr [i64 a1], ptr [i64 a2]]) rfl rfl rfl rfl rfl ?_
 refine ROps.d (r := i64 r1) (fs := []) (Γ' := []) rfl rfl rfl (TOp.callB (CallAs.func ent155 rfl rfl) (Bors.cons (Bor.sl (fun _ => rfl)) (Bors.cons (Bor.fn Bors.nil (Bors.cons (Bor.ptr (Bors.cons (Bor.pure rfl) Bors.nil)) (Bors.cons (Bor.ptr (Bors.cons (Bor.pure rfl) Bors.nil)) Bors.nil))) Bors.nil)) rfl rfl (x_slices_IndexFunc_int64_int64_1Fi_allIn_1_ok a0 a1 a2 r1 hf1)) rfl ?_
 refine zL (r := b (decide (0 ≤ r1))) rfl rfl rfl (LOp.geq rfl rfl rfl) ?_
 refine zA (r := b (decide (0 ≤ r1))) rfl rfl rfl rfl rfl ?_
 refine zN ?_
 refine RunC.ret ?_
 have hq := Option.some.inj h
 subst q0
 exact bodyQ.pure (.inr rfl) rfl (Res.one rfl (RV.tmp rfl))
noncomputable def i_allIn (a0 : List Int) (a1 : Int) (a2 : Int) : Option (Bool) :=
 obind (x_slices_ContainsFunc_int64_int64_1Fi_allIn_1 a0 a1 a2) fun (r1 : Bool) =>
 some (!r1)
theorem i_allIn_ok (a0 : List Int) (a1 : Int) (a2 : Int) (q0 : Bool) (h : i_allIn a0 a1 a2 = some q0) : Ev Try.prog 139 [sl a0.length (a0.map i64), i64 a1, i64 a2] [] (b q0) [] := by
 refine Ev.start Try.func139 rfl rfl 0 (τ := [(0, sl a0.length (a0.map i64)), (1, i64 a1), (2, i64 a2)]) rfl (Γ' := []) rfl (n := 23) rfl (g := 0) rfl (fun _ => rfl) ?_
 unfold i_allIn at h
 refine zQ ?_
 refine ROps.d (r := ptr [i64 a1]) (fs := []) (Γ' := []) rfl rfl rfl (TOp.box_s rfl rfl rfl) rfl ?_
 refine ROps.d (r := ptr [i64 a2]) (fs := []) (Γ' := []) rfl rfl rfl (TOp.box_s rfl rfl rfl) rfl ?_
 refine zA (r := b false) rfl rfl rfl rfl rfl ?_
 refine zN ?_
 refine RunC.seq ?_
 obtain ⟨r1, hf1, h⟩ := obind_some h
 refine RunC.regionW ?_
 refine zM (r := sl a0.length (a0.map i64)) rfl rfl rfl rfl rfl ?_
 refine zL (r := fn (.func 149) [] [ptr [i64 a1], ptr [i64 a2]]) rfl rfl rfl (LOp.makeFunc rfl rfl) ?_
 refine ROps.d (r := b r1) (fs := []) (Γ' := []) rfl rfl rfl (TOp.callB (CallAs.func ent148 rfl rfl) (Bors.cons (Bor.sl (fun _ => rfl)) (Bors.cons (Bor.fn Bors.nil (Bors.cons (Bor.ptr (Bors.cons (Bor.pure rfl) Bors.nil)) (Bors.cons (Bor.ptr (Bors.cons (Bor.pure rfl) Bors.nil)) Bors.nil))) Bors.nil)) rfl rfl (x_slices_ContainsFunc_int64_int64_1Fi_allIn_1_ok a0 a1 a2 r1 hf1)) rfl ?_
 refine zL (r := b (!r1)) rfl rfl rfl (LOp.not rfl rfl) ?_
 refine zA (r := b (!r1)) rfl rfl rfl rfl rfl ?_
 refine zN ?_
 refine RunC.ret ?_
 have hq := Option.some.inj h
 subst q0
 exact bodyQ.pure (.inr rfl) rfl (Res.one rfl (RV.tmp rfl))
noncomputable def x_math_IsNaN (a0 : F) : Option (Bool) :=
 some (!feq .f64 a0 a0)
theorem x_math_IsNaN_ok (a0 : F) (q0 : Bool) (h : x_math_IsNaN a0 = some q0) : Ev Try.prog 140 [f64 a0] [] (b q0) [] := by
 refine Ev.start Try.func140 rfl rfl 0 (τ := [(0, f64 a0)]) rfl (Γ' := []) rfl (n := 13) rfl (g := 0) rfl (fun _ => rfl) ?_
 unfold x_math_IsNaN at h
 refine zQ ?_
 refine zA (r := b false) rfl rfl rfl rfl rfl ?_
 refine zN ?_
 refine zQ ?_
 refine zM (r := f64 a0) rfl rfl rfl rfl rfl ?_
 refine zM (r := f64 a0) rfl rfl rfl rfl rfl ?_
 refine zL (r := b (!feq .f64 a0 a0)) rfl rfl rfl (LOp.fne rfl (OpF.tmp rfl) (OpF.tmp rfl)) ?_
 refine zA (r := b (!feq .f64 a0 a0)) rfl rfl rfl rfl rfl ?_
 refine zN ?_
 refine RunC.ret ?_
 have hq := Option.some.inj h
 subst q0
 exact bodyQ.pure (.inr rfl) rfl (Res.one rfl (RV.tmp rfl))
noncomputable def x_math_Abs (a0 : F) : Option (F) :=
 olet (fabs a0) fun (x1 : F) =>
 some x1
theorem x_math_Abs_ok (a0 : F) (q0 : F) (h : x_math_Abs a0 = some q0) : Ev Try.prog 143 [f64 a0] [] (f64 q0) [] := by
 refine Ev.start Try.func143 rfl rfl 0 (τ := [(0, f64 a0)]) rfl (Γ' := []) rfl (n := 15) rfl (g := 0) rfl (fun _ => rfl) ?_
 unfold x_math_Abs at h
 refine zQ ?_
 refine zL (r := f64 (some 0)) rfl rfl rfl (LOp.le (LOp.assign rfl rfl) (ALe.fl (by kernel_rfl) (by kernel_rfl))) ?_
 refine zN ?_
 refine RunC.seq ?_
 obtain ⟨x1, hx1, h⟩ := olet_some h
 refine RunC.regionW ?_
 refine zM (r := f64 a0) rfl rfl rfl rfl rfl ?_
 refine zL (r := bt .f64 .u64 a0) rfl rfl rfl (LOp.fbits ext151 rfl (OpF.tmp rfl)) ?_
 refine zL (r := bt .f64 .u64 x1) rfl rfl rfl (LOp.eqr (LOp.andNot_bt rfl rfl rfl) (congrArg (bt .f64 .u64) hx1)) ?_
 refine zL (r := f64 x1) rfl rfl rfl (LOp.ffrom ext150 rfl rfl) ?_
 refine zA (r := f64 x1) rfl rfl rfl rfl rfl ?_
 refine zN ?_
 refine RunC.ret ?_
 have hq := Option.some.inj h
 subst q0
 exact bodyQ.pure (.inr rfl) rfl (Res.one rfl (RV.tmp rfl))
noncomputable def x_math_IsInf_k1 (y3 : F) : Option (Bool) :=
 some (flt .f64 (some 9218868437227405311) y3)
noncomputable def x_math_IsInf (a0 : F) (a1 : Int) : Option (Bool) :=
 bsel (decide (a1 = 0)) (
  obind (x_math_Abs a0) fun (r1 : F) =>
  x_math_IsInf_k1 r1) (
  bsel (decide (a1 < 0)) (
   olet (fneg .f64 a0) fun (x2 : F) =>
   x_math_IsInf_k1 x2) (
   x_math_IsInf_k1 a0))
theorem x_math_IsInf_ok (a0 : F) (a1 : Int) (q0 : Bool) (h : x_math_IsInf a0 a1 = some q0) : Ev Try.prog 141 [f64 a0, i64 a1] [] (b q0) [] := by
 refine Ev.start Try.func141 rfl rfl 0 (τ := [(0, f64 a0), (1, i64 a1)]) rfl (Γ' := []) rfl (n := 31) rfl (g := 0) rfl (fun _ => rfl) ?_
 unfold x_math_IsInf at h
 refine zQ ?_
 refine zA (r := b false) rfl rfl rfl rfl rfl ?_
 refine zN ?_
 refine RunC.seq ?_
 refine RunC.cutN (fun τ Γ => ∃ (y3 : F), WeakLe τ [(0, f64 y3)] ∧ DeadLe Γ [] ∧ x_math_IsInf_k1 y3 = some q0) ?_ ?_
 ·refine RunC.seq ?_
  rcases bsel_some h with ⟨hc1, h⟩ | ⟨hc1, h⟩
  ·refine RunC.regionW ?_
   refine zM (r := i64 a1) rfl rfl rfl rfl rfl ?_
   refine zL (r := b true) rfl rfl rfl (LOp.eqb (LOp.eql rfl rfl rfl) hc1) ?_
   refine zN ?_
   refine RunC.cond_true rfl rfl ?_
   obtain ⟨r1, hf2, h⟩ := obind_some h
   refine RunC.regionW ?_
   refine zM (r := f64 a0) rfl rfl rfl rfl rfl ?_
   refine ROps.d (r := f64 r1) (fs := []) (Γ' := []) rfl rfl rfl (TOp.callB (CallAs.func ent143 rfl rfl) (Bors.cons (Bor.pure rfl) Bors.nil) rfl rfl (x_math_Abs_ok a0 r1 hf2)) rfl ?_
   refine zA (r := f64 r1) rfl rfl rfl rfl rfl ?_
   refine zN ?_
   exact ⟨r1, ⟨aR, trivial⟩, trivial, h⟩
  ·refine RunC.regionW ?_
   refine zM (r := i64 a1) rfl rfl rfl rfl rfl ?_
   refine zL (r := b false) rfl rfl rfl (LOp.eqb (LOp.eql rfl rfl rfl) hc1) ?_
   refine zN ?_
   refine RunC.cond_false rfl rfl ?_
   refine RunC.seq ?_
   rcases bsel_some h with ⟨hc3, h⟩ | ⟨hc3, h⟩
   ·refine RunC.regionW ?_
    refine zM (r := i64 a1) rfl rfl rfl rfl rfl ?_
    refine zL (r := b true) rfl rfl rfl (LOp.eqb (LOp.lss rfl rfl rfl) hc3) ?_
    refine zN ?_
    refine RunC.cond_true rfl rfl ?_
    obtain ⟨x2, hx4, h⟩ := olet_some h
    refine RunC.regionW ?_
    refine zM (r := f64 a0) rfl rfl rfl rfl rfl ?_
    refine zL (r := f64 x2) rfl rfl rfl (LOp.eqr (LOp.fneg rfl (OpF.tmp rfl)) (congrArg (f .f64) hx4)) ?_
    refine zA (r := f64 x2) rfl rfl rfl rfl rfl ?_
    refine zN ?_
    exact ⟨x2, ⟨aR, trivial⟩, trivial, h⟩
   ·refine RunC.regionW ?_
    refine zM (r := i64 a1) rfl rfl rfl rfl rfl ?_
    refine zL (r := b false) rfl rfl rfl (LOp.eqb (LOp.lss rfl rfl rfl) hc3) ?_
    refine zN ?_
    refine RunC.cond_false rfl rfl ?_
    refine RunC.skip ?_
    exact ⟨a0, ⟨aR, trivial⟩, trivial, h⟩
 ·rintro τ2 Γ2 ⟨y3, hw2, hd2, h⟩
  refine RunC.wl hw2 hd2 ?_
  unfold x_math_IsInf_k1 at h
  refine zQ ?_
  refine zM (r := f64 y3) rfl rfl rfl rfl rfl ?_
  refine zL (r := b (flt .f64 (some 9218868437227405311) y3)) rfl rfl rfl (LOp.fgt rfl (OpF.tmp rfl) (OpF.const rfl (by kernel_rfl) (by kernel_rfl))) ?_
  refine zA (r := b (flt .f64 (some 9218868437227405311) y3)) rfl rfl rfl rfl rfl ?_
  refine zN ?_
  refine RunC.ret ?_
  have hq := Option.some.inj h
  subst q0
  exact bodyQ.pure (.inr rfl) rfl (Res.one rfl (RV.tmp rfl))
noncomputable def i_isFinite64 (a0 : F) : Option (Bool) :=
 obind (x_math_IsNaN a0) fun (r1 : Bool) =>
 bsel r1 (
  some false) (
  obind (x_math_IsInf a0 0) fun (r2 : Bool) =>
  some (!r2))
theorem i_isFinite64_ok (a0 : F) (q0 : Bool) (h : i_isFinite64 a0 = some q0) : Ev Try.prog 123 [f64 a0] [] (b q0) [] := by
 refine Ev.start Try.func123 rfl rfl 0 (τ := [(0, f64 a0)]) rfl (Γ' := []) rfl (n := 23) rfl (g := 0) rfl (fun _ => rfl) ?_
 unfold i_isFinite64 at h
 refine zQ ?_
 refine zA (r := b false) rfl rfl rfl rfl rfl ?_
 refine zN ?_
 refine RunC.seq ?_
 obtain ⟨r1, hf1, h⟩ := obind_some h
 rcases bsel_some h with ⟨hc2, h⟩ | ⟨hc2, h⟩
 ·refine RunC.regionW ?_
  refine zM (r := f64 a0) rfl rfl rfl rfl rfl ?_
  refine ROps.d (r := b true) (fs := []) (Γ' := []) rfl rfl rfl (TOp.eqb (TOp.callB (CallAs.func ent140 rfl rfl) (Bors.cons (Bor.pure rfl) Bors.nil) rfl rfl (x_math_IsNaN_ok a0 r1 hf1)) hc2) rfl ?_
  refine zL (r := b false) rfl rfl rfl (LOp.eqb (LOp.not rfl rfl) rfl) ?_
  refine zM (r := b false) rfl rfl rfl rfl rfl ?_
  refine ROps.s rfl rfl rfl ?_
  refine ROps.s rfl rfl rfl ?_
  refine ROps.s rfl rfl rfl ?_
  refine zL (r := b false) rfl rfl rfl (LOp.pick_false rfl rfl rfl) ?_
  refine zA (r := b false) rfl rfl rfl rfl rfl ?_
  refine zN ?_
  refine RunC.ret ?_
  have hq := Option.some.inj h
  subst q0
  exact bodyQ.pure (.inr rfl) rfl (Res.one rfl (RV.tmp rfl))
 ·obtain ⟨r2, hf3, h⟩ := obind_some h
  refine RunC.regionW ?_
  refine zM (r := f64 a0) rfl rfl rfl rfl rfl ?_
  refine ROps.d (r := b false) (fs := []) (Γ' := []) rfl rfl rfl (TOp.eqb (TOp.callB (CallAs.func ent140 rfl rfl) (Bors.cons (Bor.pure rfl) Bors.nil) rfl rfl (x_math_IsNaN_ok a0 r1 hf1)) hc2) rfl ?_
  refine zL (r := b true) rfl rfl rfl (LOp.eqb (LOp.not rfl rfl) rfl) ?_
  refine zM (r := b true) rfl rfl rfl rfl rfl ?_
  refine zM (r := f64 a0) rfl rfl rfl rfl rfl ?_
  refine ROps.d (r := b r2) (fs := []) (Γ' := []) rfl rfl rfl (TOp.callB (CallAs.func ent141 rfl rfl) (Bors.cons (Bor.pure rfl) (Bors.cons (Bor.pure rfl) Bors.nil)) rfl rfl (x_math_IsInf_ok a0 0 r2 hf3)) rfl ?_
  refine zL (r := b (!r2)) rfl rfl rfl (LOp.not rfl rfl) ?_
  refine zL (r := b (!r2)) rfl rfl rfl (LOp.pick_true rfl rfl rfl) ?_
  refine zA (r := b (!r2)) rfl rfl rfl rfl rfl ?_
  refine zN ?_
  refine RunC.ret ?_
  have hq := Option.some.inj h
  subst q0
  exact bodyQ.pure (.inr rfl) rfl (Res.one rfl (RV.tmp rfl))
noncomputable def i_IsFinite (a0 : F) : Option (Bool) :=
 olet (fwiden a0) fun (x1 : F) =>
 obind (i_isFinite64 x1) fun (r2 : Bool) =>
 some r2
theorem i_IsFinite_ok (a0 : F) (q0 : Bool) (h : i_IsFinite a0 = some q0) : Ev Try.prog 85 [f32 a0] [] (b q0) [] := by
 refine Ev.start Try.func85 rfl rfl 0 (τ := [(0, f32 a0)]) rfl (Γ' := []) rfl (n := 13) rfl (g := 0) rfl (fun _ => rfl) ?_
 unfold i_IsFinite at h
 refine zQ ?_
 refine zA (r := b false) rfl rfl rfl rfl rfl ?_
 refine zN ?_
 refine RunC.seq ?_
 obtain ⟨x1, hx1, h⟩ := olet_some h
 obtain ⟨r2, hf2, h⟩ := obind_some h
 refine RunC.regionW ?_
 refine zM (r := f32 a0) rfl rfl rfl rfl rfl ?_
 refine ROps.d (r := f64 x1) (fs := []) (Γ' := []) rfl rfl rfl (TOp.eqr (TOp.widen (src := 26) (dst := 62) ⟨_, pun26⟩ pun62 rfl (OpF.tmp rfl)) (congrArg (f .f64) hx1)) rfl ?_
 refine ROps.d (r := b r2) (fs := []) (Γ' := []) rfl rfl rfl (TOp.callB (CallAs.func ent123 rfl rfl) (Bors.cons (Bor.pure rfl) Bors.nil) rfl rfl (i_isFinite64_ok x1 r2 hf2)) rfl ?_
 refine zA (r := b r2) rfl rfl rfl rfl rfl ?_
 refine zN ?_
 refine RunC.ret ?_
 have hq := Option.some.inj h
 subst q0
 exact bodyQ.pure (.inr rfl) rfl (Res.one rfl (RV.tmp rfl))
noncomputable def i_areFinite_1 (a0 : F) : Option (Bool) :=
 obind (i_IsFinite a0) fun (r1 : Bool) =>
 some (!r1)
theorem i_areFinite_1_ok (a0 : F) (q0 : Bool) (h : i_areFinite_1 a0 = some q0) : Ev Try.prog 126 [f32 a0] [] (b q0) [] := by
 refine Ev.start Try.func126 rfl rfl 0 (τ := [(0, f32 a0)]) rfl (Γ' := []) rfl (n := 13) rfl (g := 0) rfl (fun _ => rfl) ?_
 unfold i_areFinite_1 at h
 refine zQ ?_
 refine zA (r := b false) rfl rfl rfl rfl rfl ?_
 refine zN ?_
 refine RunC.seq ?_
 obtain ⟨r1, hf1, h⟩ := obind_some h
 refine RunC.regionW ?_
 refine zM (r := f32 a0) rfl rfl rfl rfl rfl ?_
 refine ROps.d (r := b r1) (fs := []) (Γ' := []) rfl rfl rfl (TOp.callB (CallAs.func ent85 rfl rfl) (Bors.cons (Bor.pure rfl) Bors.nil) rfl rfl (i_IsFinite_ok a0 r1 hf1)) rfl ?_
 refine zL (r := b (!r1)) rfl rfl rfl (LOp.not rfl rfl) ?_
 refine zA (r := b (!r1)) rfl rfl rfl rfl rfl ?_
 refine zN ?_
 refine RunC.ret ?_
 have hq := Option.some.inj h
 subst q0
 exact bodyQ.pure (.inr rfl) rfl (Res.one rfl (RV.tmp rfl))
noncomputable def x_slices_IndexFunc_float32_float32_1Fi_areFinite_1_b1 (a0 : List F) (v1 : Int) : Option (LR (Int) (Unit) (Int)) :=
 bsel (decide (v1 < (a0.length : Int))) (
  obind (at? a0 v1) fun (e2 : F) =>
  obind (i_areFinite_1 e2) fun (r3 : Bool) =>
  bsel r3 (
   some (LR.ret v1)) (
   olet (IntKind.i64.wrap (v1 + 1)) fun (x4 : Int) =>
   some (LR.next x4))) (
  some (LR.out ()))
noncomputable def x_slices_IndexFunc_float32_float32_1Fi_areFinite_1_s1 (a0 : List F) : (Int) → Option (LR (Int) (Unit) (Int)) := fun s => x_slices_IndexFunc_float32_float32_1Fi_areFinite_1_b1 a0 s
noncomputable def x_slices_IndexFunc_float32_float32_1Fi_areFinite_1_k1  : Option (Int) :=
 some (-1)
noncomputable def x_slices_IndexFunc_float32_float32_1Fi_areFinite_1 (a0 : List F) : Option (Int) :=
 obind (loopM (x_slices_IndexFunc_float32_float32_1Fi_areFinite_1_s1 a0) 0) fun z => osum z (fun _ => x_slices_IndexFunc_float32_float32_1Fi_areFinite_1_k1) (fun r => some r)
theorem x_slices_IndexFunc_float32_float32_1Fi_areFinite_1_ok (a0 : List F) (q0 : Int) (h : x_slices_IndexFunc_float32_float32_1Fi_areFinite_1 a0 = some q0) : Ev Try.prog 142 [sl a0.length (a0.map f32), fn (.func 126) [] []] [] (i64 q0) [] := by
 refine Ev.start Try.func142 rfl rfl 0 (τ := [(0, sl a0.length (a0.map f32)), (1, fn (.func 126) [] [])]) rfl (Γ' := []) rfl (n := 39) rfl (g := 0) rfl (fun _ => rfl) ?_
 unfold x_slices_IndexFunc_float32_float32_1Fi_areFinite_1 at h
 refine zQ ?_
 refine zA (r := i64 0) rfl rfl rfl rfl rfl ?_
 refine zN ?_
 refine RunC.seq ?_
 refine zQ ?_
 refine zM (r := sl a0.length (a0.map f32)) rfl rfl rfl rfl rfl ?_
 refine zL (r := i64 (a0.length : Int)) rfl rfl rfl (LOp.len_sl und23 rfl rfl) ?_
 refine zM (r := i64 0) rfl rfl rfl rfl rfl ?_
 refine zN ?_
 obtain ⟨z2, hz_2, h⟩ := obind_some h
 refine RunC.cutN (fun τ Γ => WeakLe τ [] ∧ DeadLe Γ [] ∧ z2 = .inl ()) ?_ ?_
 ·refine RunC.block (RunC.loop (RunL.loopM (x := z2) (x_slices_IndexFunc_float32_float32_1Fi_areFinite_1_s1 a0) (fun (s : Int) τ Γ => WeakLe τ [(0, sl a0.length (a0.map f32)), (1, fn (.func 126) [] []), (7, i64 (a0.length : Int)), (8, i64 s)] ∧ DeadLe Γ []) ?_ _ _ _ hz_2 ⟨⟨aR, aR, aR, aR, trivial⟩, trivial⟩))
  rintro v1 τ2 Γ2 y2_ ⟨hw2, hd2⟩ h2_ ho2 hr2
  refine RunC.wl (τ' := [(0, sl a0.length (a0.map f32)), (1, fn (.func 126) [] []), (7, i64 (a0.length : Int)), (8, i64 v1)]) (Γ' := []) hw2 hd2 ?_
  replace h2_ : x_slices_IndexFunc_float32_float32_1Fi_areFinite_1_b1 a0 v1 = some y2_ := h2_
  unfold x_slices_IndexFunc_float32_float32_1Fi_areFinite_1_b1 at h2_
  refine RunC.seq ?_
  rcases bsel_some h2_ with ⟨hc1, h2_⟩ | ⟨hc1, h2_⟩
  ·refine RunC.regionW ?_
   refine zL (r := b true) rfl rfl rfl (LOp.eqb (LOp.lss rfl rfl rfl) hc1) ?_
   refine zN ?_
   refine RunC.seq ?_
   refine RunC.cond_true rfl rfl ?_
   refine RunC.skip ?_
   refine RunC.seq ?_
   refine RunC.block ?_
   refine zQ ?_
   refine zM (r := i64 v1) rfl rfl rfl rfl rfl ?_
   refine zA (r := i64 v1) rfl rfl rfl rfl rfl ?_
   refine zN ?_
   refine RunC.seq ?_
   obtain ⟨e2, he2, h2_⟩ := obind_some h2_
   obtain ⟨r3, hf3, h2_⟩ := obind_some h2_
   rcases bsel_some h2_ with ⟨hc4, h2_⟩ | ⟨hc4, h2_⟩
   ·refine RunC.regionW ?_
    refine zM (r := fn (.func 126) [] []) rfl rfl rfl rfl rfl ?_
    refine zM (r := sl a0.length (a0.map f32)) rfl rfl rfl rfl rfl ?_
    refine zM (r := i64 v1) rfl rfl rfl rfl rfl ?_
    refine zL (r := ptr [f32 e2]) rfl rfl rfl (LOp.le (LOp.ix (f := f32) und23 siz26 rfl rfl rfl rfl he2) ALe.ptr) ?_
    refine zL (r := f32 e2) rfl rfl rfl (LOp.load1 agg26 rfl rfl) ?_
    refine ROps.d (r := b true) (fs := []) (Γ' := []) rfl rfl rfl (TOp.eqb (TOp.callB (CallAs.fn ent126 rfl rfl rfl rfl) (Bors.cons (Bor.pure rfl) Bors.nil) rfl rfl (i_areFinite_1_ok e2 r3 hf3)) hc4) rfl ?_
    refine zN ?_
    refine RunC.cond_true rfl rfl ?_
    refine zQ ?_
    refine zM (r := i64 v1) rfl rfl rfl rfl rfl ?_
    refine zA (r := i64 v1) rfl rfl rfl rfl rfl ?_
    refine zN ?_
    refine RunC.ret ?_
    cases Option.some.inj h2_
    have hx3_ := hr2 _ rfl
    subst hx3_
    have hq := Option.some.inj h
    subst q0
    exact bodyQ.pure (.inr rfl) rfl (Res.one rfl (RV.tmp rfl))
   ·refine RunC.regionW ?_
    refine zM (r := fn (.func 126) [] []) rfl rfl rfl rfl rfl ?_
    refine zM (r := sl a0.length (a0.map f32)) rfl rfl rfl rfl rfl ?_
    refine zM (r := i64 v1) rfl rfl rfl rfl rfl ?_
    refine zL (r := ptr [f32 e2]) rfl rfl rfl (LOp.le (LOp.ix (f := f32) und23 siz26 rfl rfl rfl rfl he2) ALe.ptr) ?_
    refine zL (r := f32 e2) rfl rfl rfl (LOp.load1 agg26 rfl rfl) ?_
    refine ROps.d (r := b false) (fs := []) (Γ' := []) rfl rfl rfl (TOp.eqb (TOp.callB (CallAs.fn ent126 rfl rfl rfl rfl) (Bors.cons (Bor.pure rfl) Bors.nil) rfl rfl (i_areFinite_1_ok e2 r3 hf3)) hc4) rfl ?_
    refine zN ?_
    refine RunC.cond_false rfl rfl ?_
    refine RunC.skip ?_
    obtain ⟨x4, hx5, h2_⟩ := olet_some h2_
    refine RunC.regionW ?_
    refine zL (r := i64 x4) rfl rfl rfl (LOp.eqr (LOp.add rfl rfl rfl) (congrArg (ik .i64) hx5)) ?_
    refine zM (r := i64 x4) rfl rfl rfl rfl rfl ?_
    refine zN ?_
    cases Option.some.inj h2_
    exact ⟨_, rfl, ⟨aR, aR, aR, aR, trivial⟩, trivial⟩
  ·refine RunC.regionW ?_
   refine zL (r := b false) rfl rfl rfl (LOp.eqb (LOp.lss rfl rfl rfl) hc1) ?_
   refine zN ?_
   refine RunC.seq ?_
   refine RunC.cond_false rfl rfl ?_
   refine RunC.exit ?_
   cases Option.some.inj h2_
   have hx := ho2 _ rfl
   exact ⟨trivial, trivial, hx⟩
 ·rintro τ4 Γ4 ⟨hw4, hd4, rfl⟩
  refine RunC.wl hw4 hd4 ?_
  replace h : x_slices_IndexFunc_float32_float32_1Fi_areFinite_1_k1 = some q0 := h
  unfold x_slices_IndexFunc_float32_float32_1Fi_areFinite_1_k1 at h
  refine zQ ?_
  refine zA (r := i64 (-1)) rfl rfl rfl rfl rfl ?_
  refine zN ?_
  refine RunC.ret ?_
  have hq := Option.some.inj h
  subst q0
  exact bodyQ.pure (.inr rfl) rfl (Res.one rfl (RV.tmp rfl))
noncomputable def x_slices_ContainsFunc_float32_float32_1Fi_areFinite_1 (a0 : List F) : Option (Bool) :=
 obind (x_slices_IndexFunc_float32_float32_1Fi_areFinite_1 a0) fun (r1 : Int) =>
 some (decide (0 ≤ r1))
theorem x_slices_ContainsFunc_float32_float32_1Fi_areFinite_1_ok (a0 : List F) (q0 : Bool) (h : x_slices_ContainsFunc_float32_float32_1Fi_areFinite_1 a0 = some q0) : Ev Try.prog 125 [sl a0.length (a0.map f32), fn (.func 126) [] []] [] (b q0) [] := by
 refine Ev.start Try.func125 rfl rfl 0 (τ := [(0, sl a0.length (a0.map f32)), (1, fn (.func 126) [] [])]) rfl (Γ' := []) rfl (n := 19) rfl (g := 0) rfl (fun _ => rfl) ?_
 unfold x_slices_ContainsFunc_float32_float32_1Fi_areFinite_1 at h
 refine zQ ?_
 refine zA (r := b false) rfl rfl rfl rfl rfl ?_
 refine zN ?_
 refine RunC.seq ?_
 obtain ⟨r1, hf1, h⟩ := obind_some h
 refine RunC.regionW ?_
 refine zM (r := sl a0.length (a0.map f32)) rfl rfl rfl rfl rfl ?_
 refine zM (r := fn (.func 126) [] []) rfl rfl rfl rfl rfl ?_
 refine ROps.d (r := i64 r1) (fs := []) (Γ' := []) rfl rfl rfl (TOp.callB (CallAs.func ent142 rfl rfl) (Bors.cons (Bor.sl (fun _ => rfl)) (Bors.cons (Bor.fn Bors.nil Bors.nil) Bors.nil)) rfl rfl (x_slices_IndexFunc_float32_float32_1Fi_areFinite_1_ok a0 r1 hf1)) rfl ?_
 refine zL (r := b (decide (0 ≤ r1))) rfl rfl rfl (LOp.geq rfl rfl rfl) ?_
 refine zA (r := b (decide (0 ≤ r1))) rfl rfl rfl rfl rfl ?_
 refine zN ?_
 refine RunC.ret ?_
 have hq := Option.some.inj h
 subst q0
 exact bodyQ.pure (.inr rfl) rfl (Res.one rfl (RV.tmp rfl))
noncomputable def i_areFinite (a0 : List F) : Option (Bool) :=
 obind (x_slices_ContainsFunc_float32_float32_1Fi_areFinite_1 a0) fun (r1 : Bool) =>
 some (!r1)
theorem i_areFinite_ok (a0 : List F) (q0 : Bool) (h : i_areFinite a0 = some q0) : Ev Try.prog 90 [sl a0.length (a0.map f32)] [] (b q0) [] := by
 refine Ev.start Try.func90 rfl rfl 0 (τ := [(0, sl a0.length (a0.map f32))]) rfl (Γ' := []) rfl (n := 13) rfl (g := 0) rfl (fun _ => rfl) ?_
 unfold i_areFinite at h
 refine zQ ?_
 refine zA (r := b false) rfl rfl rfl rfl rfl ?_
 refine zN ?_
 refine RunC.seq ?_
 obtain ⟨r1, hf1, h⟩ := obind_some h
 refine RunC.regionW ?_
 refine zM (r := sl a0.length (a0.map f32)) rfl rfl rfl rfl rfl ?_
 refine ROps.d (r := b r1) (fs := []) (Γ' := []) rfl rfl rfl (TOp.callB (CallAs.func ent125 rfl rfl) (Bors.cons (Bor.sl (fun _ => rfl)) (Bors.cons (Bor.fn Bors.nil Bors.nil) Bors.nil)) rfl rfl (x_slices_ContainsFunc_float32_float32_1Fi_areFinite_1_ok a0 r1 hf1)) rfl ?_
 refine zL (r := b (!r1)) rfl rfl rfl (LOp.not rfl rfl) ?_
 refine zA (r := b (!r1)) rfl rfl rfl rfl rfl ?_
 refine zN ?_
 refine RunC.ret ?_
 have hq := Option.some.inj h
 subst q0
 exact bodyQ.pure (.inr rfl) rfl (Res.one rfl (RV.tmp rfl))
noncomputable def i_ValidSparse_b2 (a1 : List Int) (a2 : List Int) (v11 : Int) (v14 : Int) : Option (LR (Int) (Unit) (Bool)) :=
 olet (IntKind.i64.wrap (v11 + 1)) fun (x15 : Int) =>
 obind (at? a1 x15) fun (e16 : Int) =>
 bsel (decide (v14 < e16)) (
  olet (IntKind.i64.wrap (v14 - 1)) fun (x17 : Int) =>
  obind (at? a2 x17) fun (e18 : Int) =>
  obind (at? a2 v14) fun (e19 : Int) =>
  bsel (decide (e19 ≤ e18)) (
   some (LR.ret false)) (
   olet (IntKind.i64.wrap (v14 + 1)) fun (x20 : Int) =>
   some (LR.next x20))) (
  some (LR.out ()))
noncomputable def i_ValidSparse_s2 (a1 : List Int) (a2 : List Int) (v11 : Int) : (Int) → Option (LR (Int) (Unit) (Bool)) := fun s => i_ValidSparse_b2 a1 a2 v11 s
noncomputable def i_ValidSparse_k2 (v11 : Int) : Option (LR (Int) (Unit) (Bool)) :=
 olet (IntKind.i64.wrap (v11 + 1)) fun (x21 : Int) =>
 some (LR.next x21)
noncomputable def i_ValidSparse_b3 (a0 : Int) (a1 : List Int) (a2 : List Int) (v11 : Int) : Option (LR (Int) (Unit) (Bool)) :=
 bsel (decide (v11 < a0)) (
  obind (at? a1 v11) fun (e12 : Int) =>
  olet (IntKind.i64.wrap (e12 + 1)) fun (x13 : Int) =>
  obind (loopM (i_ValidSparse_s2 a1 a2 v11) x13) fun z => osum z (fun e => i_ValidSparse_k2 v11) (fun r => some (LR.ret r))) (
  some (LR.out ()))
noncomputable def i_ValidSparse_s3 (a0 : Int) (a1 : List Int) (a2 : List Int) : (Int) → Option (LR (Int) (Unit) (Bool)) := fun s => i_ValidSparse_b3 a0 a1 a2 s
noncomputable def i_ValidSparse_k3  : Option (Bool) :=
 some true
noncomputable def i_ValidSparse (a0 : Int) (a1 : List Int) (a2 : List Int) (a3 : List F) : Option (Bool) :=
 obind (i_length_int64 a2) fun (r1 : Int) =>
 obind (i_inRange a0 1 32) fun (r2 : Bool) =>
 bsel r2 (
  obind (i_length_int64 a1) fun (r3 : Int) =>
  olet (IntKind.i64.wrap (a0 + 1)) fun (x4 : Int) =>
  bsel (!decide (r3 = x4)) (
   some false) (
   bsel (decide (512 < r1)) (
    some false) (
    bsel (!decide ((a3.length : Int) = (a2.length : Int))) (
     some false) (
     obind (at? a1 0) fun (e5 : Int) =>
     bsel (!decide (e5 = 0)) (
      some false) (
      obind (at? a1 a0) fun (e6 : Int) =>
      bsel (!decide (e6 = r1)) (
       some false) (
       obind (x_slices_IsSorted_int64_int64 a1) fun (r7 : Bool) =>
       bsel r7 (
        olet (IntKind.i64.wrap (a0 - 1)) fun (x8 : Int) =>
        obind (i_allIn a2 0 x8) fun (r9 : Bool) =>
        bsel r9 (
         obind (i_areFinite a3) fun (r10 : Bool) =>
         bsel r10 (
          obind (loopM (i_ValidSparse_s3 a0 a1 a2) 0) fun z => osum z (fun _ => i_ValidSparse_k3) (fun r => some r)) (
          some false)) (
         some false)) (
        some false))))))) (
  some false)
theorem i_ValidSparse_ok (a0 : Int) (a1 : List Int) (a2 : List Int) (a3 : List F) (q0 : Bool) (h : i_ValidSparse a0 a1 a2 a3 = some q0) : Ev Try.prog 120 [agg [i64 a0, sl a1.length (a1.map i64), sl a2.length (a2.map i64), sl a3.length (a3.map f32)]] [] (b q0) [] := by
 refine Ev.start Try.func120 rfl rfl 0 (τ := [(0, agg [i64 a0, sl a1.length (a1.map i64), sl a2.length (a2.map i64), sl a3.length (a3.map f32)])]) rfl (Γ' := []) rfl (n := 211) rfl (g := 0) rfl (fun _ => rfl) ?_
 unfold i_ValidSparse at h
 refine zQ ?_
 refine ROps.d (r := ptr [i64 a0, sl a1.length (a1.map i64), sl a2.length (a2.map i64), sl a3.length (a3.map f32)]) (fs := []) (Γ' := []) rfl rfl rfl (TOp.box_s rfl rfl rfl) rfl ?_
 refine zA (r := b false) rfl rfl rfl rfl rfl ?_
 refine zN ?_
 refine RunC.seq ?_
 obtain ⟨r1, hf1, h⟩ := obind_some h
 refine RunC.regionW ?_
 refine zL (r := ptr [sl a2.length (a2.map i64), sl a3.length (a3.map f32)]) rfl rfl rfl (LOp.fap und30 rfl siz22 rfl rfl rfl) ?_
 refine zL (r := sl a2.length (a2.map i64)) rfl rfl rfl (LOp.load1 agg22 rfl rfl) ?_
 refine ROps.d (r := i64 r1) (fs := []) (Γ' := []) rfl rfl rfl (TOp.callB (CallAs.func ent137 rfl rfl) (Bors.cons (Bor.sl (fun _ => rfl)) Bors.nil) rfl rfl (i_length_int64_ok a2 r1 hf1)) rfl ?_
 refine zA (r := i64 r1) rfl rfl rfl rfl rfl ?_
 refine zN ?_
 refine RunC.seq ?_
 refine RunC.seq ?_
 obtain ⟨r2, hf2, h⟩ := obind_some h
 rcases bsel_some h with ⟨hc3, h⟩ | ⟨hc3, h⟩
 ·obtain ⟨r3, hf4, h⟩ := obind_some h
  obtain ⟨x4, hx5, h⟩ := olet_some h
  rcases bsel_some h with ⟨hc6, h⟩ | ⟨hc6, h⟩
  ·refine RunC.region_draw (Γ' := []) 43 mixed 
    (TR.l (r := ptr [i64 a0, sl a1.length (a1.map i64), sl a2.length (a2.map i64), sl a3.length (a3.map f32)]) rfl rfl (LOp.fap und30 rfl siz2 rfl rfl rfl) <|
    (TR.l (r := i64 a0) rfl rfl (LOp.load1 agg2 rfl rfl) <|
    (TR.d (r := b true) (fs := []) rfl rfl (TOp.eqb (TOp.callB (CallAs.func ent86 rfl rfl) (Bors.cons (Bor.pure rfl) (Bors.cons (Bor.pure rfl) (Bors.cons (Bor.pure rfl) Bors.nil))) rfl rfl (i_inRange_ok a0 1 32 r2 hf2)) hc3) <|
    (TR.l (r := b false) rfl rfl (LOp.eqb (LOp.not rfl rfl) rfl) <|
    (TR.l (r := b false) rfl rfl (LOp.move rfl rfl) <|
    (TR.l (r := ptr [sl a1.length (a1.map i64), sl a2.length (a2.map i64), sl a3.length (a3.map f32)]) rfl rfl (LOp.fap und30 rfl siz22 rfl rfl rfl) <|
    (TR.l (r := sl a1.length (a1.map i64)) rfl rfl (LOp.load1 agg22 rfl rfl) <|
    (TR.d (r := i64 r3) (fs := []) rfl rfl (TOp.callB (CallAs.func ent137 rfl rfl) (Bors.cons (Bor.sl (fun _ => rfl)) Bors.nil) rfl rfl (i_length_int64_ok a1 r3 hf4)) <|
    (TR.l (r := ptr [i64 a0, sl a1.length (a1.map i64), sl a2.length (a2.map i64), sl a3.length (a3.map f32)]) rfl rfl (LOp.fap und30 rfl siz2 rfl rfl rfl) <|
    (TR.l (r := i64 a0) rfl rfl (LOp.load1 agg2 rfl rfl) <|
    (TR.l (r := i64 x4) rfl rfl (LOp.eqr (LOp.add rfl rfl rfl) (congrArg (ik .i64) hx5)) <|
    (TR.l (r := b true) rfl rfl (LOp.eqb (LOp.neq rfl rfl rfl) hc6) <|
    (TR.l (r := b true) rfl rfl (LOp.pick_false rfl rfl rfl) <|
    (TR.l (r := b true) rfl rfl (LOp.move rfl rfl) <|
    (TR.s rfl rfl <|
    (TR.s rfl rfl <|
    (TR.l (r := b true) rfl rfl (LOp.pick_true rfl rfl rfl) <|
    (TR.l (r := b true) rfl rfl (LOp.move rfl rfl) <|
    (TR.s rfl rfl <|
    (TR.s rfl rfl <|
    (TR.s rfl rfl <|
    (TR.s rfl rfl <|
    (TR.s rfl rfl <|
    (TR.s rfl rfl <|
    (TR.s rfl rfl <|
    (TR.l (r := b true) rfl rfl (LOp.pick_true rfl rfl rfl) <|
    (TR.l (r := b true) rfl rfl (LOp.move rfl rfl) <|
    (TR.s rfl rfl <|
    (TR.s rfl rfl <|
    (TR.s rfl rfl <|
    (TR.s rfl rfl <|
    (TR.s rfl rfl <|
    (TR.l (r := b true) rfl rfl (LOp.pick_true rfl rfl rfl) <|
    (TR.l (r := b true) rfl rfl (LOp.move rfl rfl) <|
    (TR.s rfl rfl <|
    (TR.s rfl rfl <|
    (TR.s rfl rfl <|
    (TR.s rfl rfl <|
    (TR.s rfl rfl <|
    (TR.s rfl rfl <|
    (TR.s rfl rfl <|
    (TR.s rfl rfl <|
    (TR.l (r := b true) rfl rfl (LOp.pick_true rfl rfl rfl) <|
    TR.nil))))))))))))))))))))))))))))))))))))))))))) rfl (by kernel_rfl) rfl fills_nil rfl ?_
   iterate 43 refine ROps.dropS ?_
   refine ROps.drop0 ?_
   refine zN ?_
   refine RunC.wl (τ' := [(1, ptr [i64 a0, sl a1.length (a1.map i64), sl a2.length (a2.map i64), sl a3.length (a3.map f32)]), (51, b true)]) (Γ' := []) ⟨aR, aR, trivial⟩ trivial ?_
   refine RunC.cond_true rfl rfl ?_
   refine zQ ?_
   refine zA (r := b false) rfl rfl rfl rfl rfl ?_
   refine zN ?_
   refine RunC.ret ?_
   have hq := Option.some.inj h
   subst q0
   exact bodyQ.pure (.inr rfl) rfl (Res.one rfl (RV.tmp rfl))
  ·rcases bsel_some h with ⟨hc7, h⟩ | ⟨hc7, h⟩
   ·refine RunC.region_draw (Γ' := []) 43 mixed 
     (TR.l (r := ptr [i64 a0, sl a1.length (a1.map i64), sl a2.length (a2.map i64), sl a3.length (a3.map f32)]) rfl rfl (LOp.fap und30 rfl siz2 rfl rfl rfl) <|
     (TR.l (r := i64 a0) rfl rfl (LOp.load1 agg2 rfl rfl) <|
     (TR.d (r := b true) (fs := []) rfl rfl (TOp.eqb (TOp.callB (CallAs.func ent86 rfl rfl) (Bors.cons (Bor.pure rfl) (Bors.cons (Bor.pure rfl) (Bors.cons (Bor.pure rfl) Bors.nil))) rfl rfl (i_inRange_ok a0 1 32 r2 hf2)) hc3) <|
     (TR.l (r := b false) rfl rfl (LOp.eqb (LOp.not rfl rfl) rfl) <|
     (TR.l (r := b false) rfl rfl (LOp.move rfl rfl) <|
     (TR.l (r := ptr [sl a1.length (a1.map i64), sl a2.length (a2.map i64), sl a3.length (a3.map f32)]) rfl rfl (LOp.fap und30 rfl siz22 rfl rfl rfl) <|
     (TR.l (r := sl a1.length (a1.map i64)) rfl rfl (LOp.load1 agg22 rfl rfl) <|
     (TR.d (r := i64 r3) (fs := []) rfl rfl (TOp.callB (CallAs.func ent137 rfl rfl) (Bors.cons (Bor.sl (fun _ => rfl)) Bors.nil) rfl rfl (i_length_int64_ok a1 r3 hf4)) <|
     (TR.l (r := ptr [i64 a0, sl a1.length (a1.map i64), sl a2.length (a2.map i64), sl a3.length (a3.map f32)]) rfl rfl (LOp.fap und30 rfl siz2 rfl rfl rfl) <|
     (TR.l (r := i64 a0) rfl rfl (LOp.load1 agg2 rfl rfl) <|
     (TR.l (r := i64 x4) rfl rfl (LOp.eqr (LOp.add rfl rfl rfl) (congrArg (ik .i64) hx5)) <|
     (TR.l (r := b false) rfl rfl (LOp.eqb (LOp.neq rfl rfl rfl) hc6) <|
     (TR.l (r := b false) rfl rfl (LOp.pick_false rfl rfl rfl) <|
     (TR.l (r := b false) rfl rfl (LOp.move rfl rfl) <|
     (TR.l (r := i64 r1) rfl rfl (LOp.move rfl rfl) <|
     (TR.l (r := b true) rfl rfl (LOp.eqb (LOp.gtr rfl rfl rfl) hc7) <|
     (TR.l (r := b true) rfl rfl (LOp.pick_false rfl rfl rfl) <|
     (TR.l (r := b true) rfl rfl (LOp.move rfl rfl) <|
     (TR.s rfl rfl <|
     (TR.s rfl rfl <|
     (TR.s rfl rfl <|
     (TR.s rfl rfl <|
     (TR.s rfl rfl <|
     (TR.s rfl rfl <|
     (TR.s rfl rfl <|
     (TR.l (r := b true) rfl rfl (LOp.pick_true rfl rfl rfl) <|
     (TR.l (r := b true) rfl rfl (LOp.move rfl rfl) <|
     (TR.s rfl rfl <|
     (TR.s rfl rfl <|
     (TR.s rfl rfl <|
     (TR.s rfl rfl <|
     (TR.s rfl rfl <|
     (TR.l (r := b true) rfl rfl (LOp.pick_true rfl rfl rfl) <|
     (TR.l (r := b true) rfl rfl (LOp.move rfl rfl) <|
     (TR.s rfl rfl <|
     (TR.s rfl rfl <|
     (TR.s rfl rfl <|
     (TR.s rfl rfl <|
     (TR.s rfl rfl <|
     (TR.s rfl rfl <|
     (TR.s rfl rfl <|
     (TR.s rfl rfl <|
     (TR.l (r := b true) rfl rfl (LOp.pick_true rfl rfl rfl) <|
     TR.nil))))))))))))))))))))))))))))))))))))))))))) rfl (by kernel_rfl) rfl fills_nil rfl ?_
    iterate 43 refine ROps.dropS ?_
    refine ROps.drop0 ?_
    refine zN ?_
    refine RunC.wl (τ' := [(1, ptr [i64 a0, sl a1.length (a1.map i64), sl a2.length (a2.map i64), sl a3.length (a3.map f32)]), (51, b true)]) (Γ' := []) ⟨aR, aR, trivial⟩ trivial ?_
    refine RunC.cond_true rfl rfl ?_
    refine zQ ?_
    refine zA (r := b false) rfl rfl rfl rfl rfl ?_
    refine zN ?_
    refine RunC.ret ?_
    have hq := Option.some.inj h
    subst q0
    exact bodyQ.pure (.inr rfl) rfl (Res.one rfl (RV.tmp rfl))
   ·rcases bsel_some h with ⟨hc8, h⟩ | ⟨hc8, h⟩
    ·refine RunC.region_draw (Γ' := []) 43 mixed 
      (TR.l (r := ptr [i64 a0, sl a1.length (a1.map i64), sl a2.length (a2.map i64), sl a3.length (a3.map f32)]) rfl rfl (LOp.fap und30 rfl siz2 rfl rfl rfl) <|
      (TR.l (r := i64 a0) rfl rfl (LOp.load1 agg2 rfl rfl) <|
      (TR.d (r := b true) (fs := []) rfl rfl (TOp.eqb (TOp.callB (CallAs.func ent86 rfl rfl) (Bors.cons (Bor.pure rfl) (Bors.cons (Bor.pure rfl) (Bors.cons (Bor.pure rfl) Bors.nil))) rfl rfl (i_inRange_ok a0 1 32 r2 hf2)) hc3) <|
      (TR.l (r := b false) rfl rfl (LOp.eqb (LOp.not rfl rfl) rfl) <|
      (TR.l (r := b false) rfl rfl (LOp.move rfl rfl) <|
      (TR.l (r := ptr [sl a1.length (a1.map i64), sl a2.length (a2.map i64), sl a3.length (a3.map f32)]) rfl rfl (LOp.fap und30 rfl siz22 rfl rfl rfl) <|
      (TR.l (r := sl a1.length (a1.map i64)) rfl rfl (LOp.load1 agg22 rfl rfl) <|
      (TR.d (r := i64 r3) (fs := []) rfl rfl (TOp.callB (CallAs.func ent137 rfl rfl) (Bors.cons (Bor.sl (fun _ => rfl)) Bors.nil) rfl rfl (i_length_int64_ok a1 r3 hf4)) <|
      (TR.l (r := ptr [i64 a0, sl a1.length (a1.map i64), sl a2.length (a2.map i64), sl a3.length (a3.map f32)]) rfl rfl (LOp.fap und30 rfl siz2 rfl rfl rfl) <|
      (TR.l (r := i64 a0) rfl rfl (LOp.load1 agg2 rfl rfl) <|
      (TR.l (r := i64 x4) rfl rfl (LOp.eqr (LOp.add rfl rfl rfl) (congrArg (ik .i64) hx5)) <|
      (TR.l (r := b false) rfl rfl (LOp.eqb (LOp.neq rfl rfl rfl) hc6) <|
      (TR.l (r := b false) rfl rfl (LOp.pick_false rfl rfl rfl) <|
      (TR.l (r := b false) rfl rfl (LOp.move rfl rfl) <|
      (TR.l (r := i64 r1) rfl rfl (LOp.move rfl rfl) <|
      (TR.l (r := b false) rfl rfl (LOp.eqb (LOp.gtr rfl rfl rfl) hc7) <|
      (TR.l (r := b false) rfl rfl (LOp.pick_false rfl rfl rfl) <|
      (TR.l (r := b false) rfl rfl (LOp.move rfl rfl) <|
      (TR.l (r := ptr [sl a3.length (a3.map f32)]) rfl rfl (LOp.fap und30 rfl siz23 rfl rfl rfl) <|
      (TR.l (r := sl a3.length (a3.map f32)) rfl rfl (LOp.load1 agg23 rfl rfl) <|
      (TR.l (r := i64 (a3.length : Int)) rfl rfl (LOp.len_sl und23 rfl rfl) <|
      (TR.l (r := ptr [sl a2.length (a2.map i64), sl a3.length (a3.map f32)]) rfl rfl (LOp.fap und30 rfl siz22 rfl rfl rfl) <|
      (TR.l (r := sl a2.length (a2.map i64)) rfl rfl (LOp.load1 agg22 rfl rfl) <|
      (TR.l (r := i64 (a2.length : Int)) rfl rfl (LOp.len_sl und22 rfl rfl) <|
      (TR.l (r := b true) rfl rfl (LOp.eqb (LOp.neq rfl rfl rfl) hc8) <|
      (TR.l (r := b true) rfl rfl (LOp.pick_false rfl rfl rfl) <|
      (TR.l (r := b true) rfl rfl (LOp.move rfl rfl) <|
      (TR.s rfl rfl <|
      (TR.s rfl rfl <|
      (TR.s rfl rfl <|
      (TR.s rfl rfl <|
      (TR.s rfl rfl <|
      (TR.l (r := b true) rfl rfl (LOp.pick_true rfl rfl rfl) <|
      (TR.l (r := b true) rfl rfl (LOp.move rfl rfl) <|
      (TR.s rfl rfl <|
      (TR.s rfl rfl <|
      (TR.s rfl rfl <|
      (TR.s rfl rfl <|
      (TR.s rfl rfl <|
      (TR.s rfl rfl <|
      (TR.s rfl rfl <|
      (TR.s rfl rfl <|
      (TR.l (r := b true) rfl rfl (LOp.pick_true rfl rfl rfl) <|
      TR.nil))))))))))))))))))))))))))))))))))))))))))) rfl (by kernel_rfl) rfl fills_nil rfl ?_
     iterate 43 refine ROps.dropS ?_
     refine ROps.drop0 ?_
     refine zN ?_
     refine RunC.wl (τ' := [(1, ptr [i64 a0, sl a1.length (a1.map i64), sl a2.length (a2.map i64), sl a3.length (a3.map f32)]), (51, b true)]) (Γ' := []) ⟨aR, aR, trivial⟩ trivial ?_
     refine RunC.cond_true rfl rfl ?_
     refine zQ ?_
     refine zA (r := b false) rfl rfl rfl rfl rfl ?_
     refine zN ?_
     refine RunC.ret ?_
     have hq := Option.some.inj h
     subst q0
     exact bodyQ.pure (.inr rfl) rfl (Res.one rfl (RV.tmp rfl))
    ·obtain ⟨e5, he9, h⟩ := obind_some h
     rcases bsel_some h with ⟨hc10, h⟩ | ⟨hc10, h⟩
     ·refine RunC.region_draw (Γ' := []) 43 mixed 
       (TR.l (r := ptr [i64 a0, sl a1.length (a1.map i64), sl a2.length (a2.map i64), sl a3.length (a3.map f32)]) rfl rfl (LOp.fap und30 rfl siz2 rfl rfl rfl) <|
       (TR.l (r := i64 a0) rfl rfl (LOp.load1 agg2 rfl rfl) <|
       (TR.d (r := b true) (fs := []) rfl rfl (TOp.eqb (TOp.callB (CallAs.func ent86 rfl rfl) (Bors.cons (Bor.pure rfl) (Bors.cons (Bor.pure rfl) (Bors.cons (Bor.pure rfl) Bors.nil))) rfl rfl (i_inRange_ok a0 1 32 r2 hf2)) hc3) <|
       (TR.l (r := b false) rfl rfl (LOp.eqb (LOp.not rfl rfl) rfl) <|
       (TR.l (r := b false) rfl rfl (LOp.move rfl rfl) <|
       (TR.l (r := ptr [sl a1.length (a1.map i64), sl a2.length (a2.map i64), sl a3.length (a3.map f32)]) rfl rfl (LOp.fap und30 rfl siz22 rfl rfl rfl) <|
       (TR.l (r := sl a1.length (a1.map i64)) rfl rfl (LOp.load1 agg22 rfl rfl) <|
       (TR.d (r := i64 r3) (fs := []) rfl rfl (TOp.callB (CallAs.func ent137 rfl rfl) (Bors.cons (Bor.sl (fun _ => rfl)) Bors.nil) rfl rfl (i_length_int64_ok a1 r3 hf4)) <|
       (TR.l (r := ptr [i64 a0, sl a1.length (a1.map i64), sl a2.length (a2.map i64), sl a3.length (a3.map f32)]) rfl rfl (LOp.fap und30 rfl siz2 rfl rfl rfl) <|
       (TR.l (r := i64 a0) rfl rfl (LOp.load1 agg2 rfl rfl) <|
       (TR.l (r := i64 x4) rfl rfl (LOp.eqr (LOp.add rfl rfl rfl) (congrArg (ik .i64) hx5)) <|
       (TR.l (r := b false) rfl rfl (LOp.eqb (LOp.neq rfl rfl rfl) hc6) <|
       (TR.l (r := b false) rfl rfl (LOp.pick_false rfl rfl rfl) <|
       (TR.l (r := b false) rfl rfl (LOp.move rfl rfl) <|
       (TR.l (r := i64 r1) rfl rfl (LOp.move rfl rfl) <|
       (TR.l (r := b false) rfl rfl (LOp.eqb (LOp.gtr rfl rfl rfl) hc7) <|
       (TR.l (r := b false) rfl rfl (LOp.pick_false rfl rfl rfl) <|
       (TR.l (r := b false) rfl rfl (LOp.move rfl rfl) <|
       (TR.l (r := ptr [sl a3.length (a3.map f32)]) rfl rfl (LOp.fap und30 rfl siz23 rfl rfl rfl) <|
       (TR.l (r := sl a3.length (a3.map f32)) rfl rfl (LOp.load1 agg23 rfl rfl) <|
       (TR.l (r := i64 (a3.length : Int)) rfl rfl (LOp.len_sl und23 rfl rfl) <|
       (TR.l (r := ptr [sl a2.length (a2.map i64), sl a3.length (a3.map f32)]) rfl rfl (LOp.fap und30 rfl siz22 rfl rfl rfl) <|
       (TR.l (r := sl a2.length (a2.map i64)) rfl rfl (LOp.load1 agg22 rfl rfl) <|
       (TR.l (r := i64 (a2.length : Int)) rfl rfl (LOp.len_sl und22 rfl rfl) <|
       (TR.l (r := b false) rfl rfl (LOp.eqb (LOp.neq rfl rfl rfl) hc8) <|
       (TR.l (r := b false) rfl rfl (LOp.pick_false rfl rfl rfl) <|
       (TR.l (r := b false) rfl rfl (LOp.move rfl rfl) <|
       (TR.l (r := ptr [sl a1.length (a1.map i64), sl a2.length (a2.map i64), sl a3.length (a3.map f32)]) rfl rfl (LOp.fap und30 rfl siz22 rfl rfl rfl) <|
       (TR.l (r := sl a1.length (a1.map i64)) rfl rfl (LOp.load1 agg22 rfl rfl) <|
       (TR.l (r := ptr [i64 e5]) rfl rfl (LOp.le (LOp.ix (f := i64) und22 siz2 rfl rfl rfl rfl he9) ALe.ptr) <|
       (TR.l (r := i64 e5) rfl rfl (LOp.load1 agg2 rfl rfl) <|
       (TR.l (r := b true) rfl rfl (LOp.eqb (LOp.neq rfl rfl rfl) hc10) <|
       (TR.l (r := b true) rfl rfl (LOp.pick_false rfl rfl rfl) <|
       (TR.l (r := b true) rfl rfl (LOp.move rfl rfl) <|
       (TR.s rfl rfl <|
       (TR.s rfl rfl <|
       (TR.s rfl rfl <|
       (TR.s rfl rfl <|
       (TR.s rfl rfl <|
       (TR.s rfl rfl <|
       (TR.s rfl rfl <|
       (TR.s rfl rfl <|
       (TR.l (r := b true) rfl rfl (LOp.pick_true rfl rfl rfl) <|
       TR.nil))))))))))))))))))))))))))))))))))))))))))) rfl (by kernel_rfl) rfl fills_nil rfl ?_
      iterate 43 refine ROps.dropS ?_
      refine ROps.drop0 ?_
      refine zN ?_
      refine RunC.wl (τ' := [(1, ptr [i64 a0, sl a1.length (a1.map i64), sl a2.length (a2.map i64), sl a3.length (a3.map f32)]), (51, b true)]) (Γ' := []) ⟨aR, aR, trivial⟩ trivial ?_
      refine RunC.cond_true rfl rfl ?_
      refine zQ ?_
      refine zA (r := b false) rfl rfl rfl rfl rfl ?_
      refine zN ?_
      refine RunC.ret ?_
      have hq := Option.some.inj h
      subst q0
      exact bodyQ.pure (.inr rfl) rfl (Res.one rfl (RV.tmp rfl))
     ·obtain ⟨e6, he11, h⟩ := obind_some h
      rcases bsel_some h with ⟨hc12, h⟩ | ⟨hc12, h⟩
      ·refine RunC.region_draw (Γ' := []) 43 mixed 
        (TR.l (r := ptr [i64 a0, sl a1.length (a1.map i64), sl a2.length (a2.map i64), sl a3.length (a3.map f32)]) rfl rfl (LOp.fap und30 rfl siz2 rfl rfl rfl) <|
        (TR.l (r := i64 a0) rfl rfl (LOp.load1 agg2 rfl rfl) <|
        (TR.d (r := b true) (fs := []) rfl rfl (TOp.eqb (TOp.callB (CallAs.func ent86 rfl rfl) (Bors.cons (Bor.pure rfl) (Bors.cons (Bor.pure rfl) (Bors.cons (Bor.pure rfl) Bors.nil))) rfl rfl (i_inRange_ok a0 1 32 r2 hf2)) hc3) <|
        (TR.l (r := b false) rfl rfl (LOp.eqb (LOp.not rfl rfl) rfl) <|
        (TR.l (r := b false) rfl rfl (LOp.move rfl rfl) <|
        (TR.l (r := ptr [sl a1.length (a1.map i64), sl a2.length (a2.map i64), sl a3.length (a3.map f32)]) rfl rfl (LOp.fap und30 rfl siz22 rfl rfl rfl) <|
        (TR.l (r := sl a1.length (a1.map i64)) rfl rfl (LOp.load1 agg22 rfl rfl) <|
        (TR.d (r := i64 r3) (fs := []) rfl rfl (TOp.callB (CallAs.func ent137 rfl rfl) (Bors.cons (Bor.sl (fun _ => rfl)) Bors.nil) rfl rfl (i_length_int64_ok a1 r3 hf4)) <|
        (TR.l (r := ptr [i64 a0, sl a1.length (a1.map i64), sl a2.length (a2.map i64), sl a3.length (a3.map f32)]) rfl rfl (LOp.fap und30 rfl siz2 rfl rfl rfl) <|
        (TR.l (r := i64 a0) rfl rfl (LOp.load1 agg2 rfl rfl) <|
        (TR.l (r := i64 x4) rfl rfl (LOp.eqr (LOp.add rfl rfl rfl) (congrArg (ik .i64) hx5)) <|
        (TR.l (r := b false) rfl rfl (LOp.eqb (LOp.neq rfl rfl rfl) hc6) <|
        (TR.l (r := b false) rfl rfl (LOp.pick_false rfl rfl rfl) <|
        (TR.l (r := b false) rfl rfl (LOp.move rfl rfl) <|
        (TR.l (r := i64 r1) rfl rfl (LOp.move rfl rfl) <|
        (TR.l (r := b false) rfl rfl (LOp.eqb (LOp.gtr rfl rfl rfl) hc7) <|
        (TR.l (r := b false) rfl rfl (LOp.pick_false rfl rfl rfl) <|
        (TR.l (r := b false) rfl rfl (LOp.move rfl rfl) <|
        (TR.l (r := ptr [sl a3.length (a3.map f32)]) rfl rfl (LOp.fap und30 rfl siz23 rfl rfl rfl) <|
        (TR.l (r := sl a3.length (a3.map f32)) rfl rfl (LOp.load1 agg23 rfl rfl) <|
        (TR.l (r := i64 (a3.length : Int)) rfl rfl (LOp.len_sl und23 rfl rfl) <|
        (TR.l (r := ptr [sl a2.length (a2.map i64), sl a3.length (a3.map f32)]) rfl rfl (LOp.fap und30 rfl siz22 rfl rfl rfl) <|
        (TR.l (r := sl a2.length (a2.map i64)) rfl rfl (LOp.load1 agg22 rfl rfl) <|
        (TR.l (r := i64 (a2.length : Int)) rfl rfl (LOp.len_sl und22 rfl rfl) <|
        (TR.l (r := b false) rfl rfl (LOp.eqb (LOp.neq rfl rfl rfl) hc8) <|
        (TR.l (r := b false) rfl rfl (LOp.pick_false rfl rfl rfl) <|
        (TR.l (r := b false) rfl rfl (LOp.move rfl rfl) <|
        (TR.l (r := ptr [sl a1.length (a1.map i64), sl a2.length (a2.map i64), sl a3.length (a3.map f32)]) rfl rfl (LOp.fap und30 rfl siz22 rfl rfl rfl) <|
        (TR.l (r := sl a1.length (a1.map i64)) rfl rfl (LOp.load1 agg22 rfl rfl) <|
        (TR.l (r := ptr [i64 e5]) rfl rfl (LOp.le (LOp.ix (f := i64) und22 siz2 rfl rfl rfl rfl he9) ALe.ptr) <|
        (TR.l (r := i64 e5) rfl rfl (LOp.load1 agg2 rfl rfl) <|
        (TR.l (r := b false) rfl rfl (LOp.eqb (LOp.neq rfl rfl rfl) hc10) <|
        (TR.l (r := b false) rfl rfl (LOp.pick_false rfl rfl rfl) <|
        (TR.l (r := b false) rfl rfl (LOp.move rfl rfl) <|
        (TR.l (r := ptr [sl a1.length (a1.map i64), sl a2.length (a2.map i64), sl a3.length (a3.map f32)]) rfl rfl (LOp.fap und30 rfl siz22 rfl rfl rfl) <|
        (TR.l (r := sl a1.length (a1.map i64)) rfl rfl (LOp.load1 agg22 rfl rfl) <|
        (TR.l (r := ptr [i64 a0, sl a1.length (a1.map i64), sl a2.length (a2.map i64), sl a3.length (a3.map f32)]) rfl rfl (LOp.fap und30 rfl siz2 rfl rfl rfl) <|
        (TR.l (r := i64 a0) rfl rfl (LOp.load1 agg2 rfl rfl) <|
        (TR.l (r := ptr [i64 e6]) rfl rfl (LOp.le (LOp.ix (f := i64) und22 siz2 rfl rfl rfl rfl he11) ALe.ptr) <|
        (TR.l (r := i64 e6) rfl rfl (LOp.load1 agg2 rfl rfl) <|
        (TR.l (r := i64 r1) rfl rfl (LOp.move rfl rfl) <|
        (TR.l (r := b true) rfl rfl (LOp.eqb (LOp.neq rfl rfl rfl) hc12) <|
        (TR.l (r := b true) rfl rfl (LOp.pick_false rfl rfl rfl) <|
        TR.nil))))))))))))))))))))))))))))))))))))))))))) rfl (by kernel_rfl) rfl fills_nil rfl ?_
       iterate 43 refine ROps.dropS ?_
       refine ROps.drop0 ?_
       refine zN ?_
       refine RunC.wl (τ' := [(1, ptr [i64 a0, sl a1.length (a1.map i64), sl a2.length (a2.map i64), sl a3.length (a3.map f32)]), (51, b true)]) (Γ' := []) ⟨aR, aR, trivial⟩ trivial ?_
       refine RunC.cond_true rfl rfl ?_
       refine zQ ?_
       refine zA (r := b false) rfl rfl rfl rfl rfl ?_
       refine zN ?_
       refine RunC.ret ?_
       have hq := Option.some.inj h
       subst q0
       exact bodyQ.pure (.inr rfl) rfl (Res.one rfl (RV.tmp rfl))
      ·refine RunC.region_draw (Γ' := []) 43 mixed 
        (TR.l (r := ptr [i64 a0, sl a1.length (a1.map i64), sl a2.length (a2.map i64), sl a3.length (a3.map f32)]) rfl rfl (LOp.fap und30 rfl siz2 rfl rfl rfl) <|
        (TR.l (r := i64 a0) rfl rfl (LOp.load1 agg2 rfl rfl) <|
        (TR.d (r := b true) (fs := []) rfl rfl (TOp.eqb (TOp.callB (CallAs.func ent86 rfl rfl) (Bors.cons (Bor.pure rfl) (Bors.cons (Bor.pure rfl) (Bors.cons (Bor.pure rfl) Bors.nil))) rfl rfl (i_inRange_ok a0 1 32 r2 hf2)) hc3) <|
        (TR.l (r := b false) rfl rfl (LOp.eqb (LOp.not rfl rfl) rfl) <|
        (TR.l (r := b false) rfl rfl (LOp.move rfl rfl) <|
        (TR.l (r := ptr [sl a1.length (a1.map i64), sl a2.length (a2.map i64), sl a3.length (a3.map f32)]) rfl rfl (LOp.fap und30 rfl siz22 rfl rfl rfl) <|
        (TR.l (r := sl a1.length (a1.map i64)) rfl rfl (LOp.load1 agg22 rfl rfl) <|
        (TR.d (r := i64 r3) (fs := []) rfl rfl (TOp.callB (CallAs.func ent137 rfl rfl) (Bors.cons (Bor.sl (fun _ => rfl)) Bors.nil) rfl rfl (i_length_int64_ok a1 r3 hf4)) <|
        (TR.l (r := ptr [i64 a0, sl a1.length (a1.map i64), sl a2.length (a2.map i64), sl a3.length (a3.map f32)]) rfl rfl (LOp.fap und30 rfl siz2 rfl rfl rfl) <|
        (TR.l (r := i64 a0) rfl rfl (LOp.load1 agg2 rfl rfl) <|
        (TR.l (r := i64 x4) rfl rfl (LOp.eqr (LOp.add rfl rfl rfl) (congrArg (ik .i64) hx5)) <|
        (TR.l (r := b false) rfl rfl (LOp.eqb (LOp.neq rfl rfl rfl) hc6) <|
        (TR.l (r := b false) rfl rfl (LOp.pick_false rfl rfl rfl) <|
        (TR.l (r := b false) rfl rfl (LOp.move rfl rfl) <|
        (TR.l (r := i64 r1) rfl rfl (LOp.move rfl rfl) <|
        (TR.l (r := b false) rfl rfl (LOp.eqb (LOp.gtr rfl rfl rfl) hc7) <|
        (TR.l (r := b false) rfl rfl (LOp.pick_false rfl rfl rfl) <|
        (TR.l (r := b false) rfl rfl (LOp.move rfl rfl) <|
        (TR.l (r := ptr [sl a3.length (a3.map f32)]) rfl rfl (LOp.fap und30 rfl siz23 rfl rfl rfl) <|
        (TR.l (r := sl a3.length (a3.map f32)) rfl rfl (LOp.load1 agg23 rfl rfl) <|
        (TR.l (r := i64 (a3.length : Int)) rfl rfl (LOp.len_sl und23 rfl rfl) <|
        (TR.l (r := ptr [sl a2.length (a2.map i64), sl a3.length (a3.map f32)]) rfl rfl (LOp.fap und30 rfl siz22 rfl rfl rfl) <|
        (TR.l (r := sl a2.length (a2.map i64)) rfl rfl (LOp.load1 agg22 rfl rfl) <|
        (TR.l (r := i64 (a2.length : Int)) rfl rfl (LOp.len_sl und22 rfl rfl) <|
        (TR.l (r := b false) rfl rfl (LOp.eqb (LOp.neq rfl rfl rfl) hc8) <|
        (TR.l (r := b false) rfl rfl (LOp.pick_false rfl rfl rfl) <|
        (TR.l (r := b false) rfl rfl (LOp.move rfl rfl) <|
        (TR.l (r := ptr [sl a1.length (a1.map i64), sl a2.length (a2.map i64), sl a3.length (a3.map f32)]) rfl rfl (LOp.fap und30 rfl siz22 rfl rfl rfl) <|
        (TR.l (r := sl a1.length (a1.map i64)) rfl rfl (LOp.load1 agg22 rfl rfl) <|
        (TR.l (r := ptr [i64 e5]) rfl rfl (LOp.le (LOp.ix (f := i64) und22 siz2 rfl rfl rfl rfl he9) ALe.ptr) <|
        (TR.l (r := i64 e5) rfl rfl (LOp.load1 agg2 rfl rfl) <|
        (TR.l (r := b false) rfl rfl (LOp.eqb (LOp.neq rfl rfl rfl) hc10) <|
        (TR.l (r := b false) rfl rfl (LOp.pick_false rfl rfl rfl) <|
        (TR.l (r := b false) rfl rfl (LOp.move rfl rfl) <|
        (TR.l (r := ptr [sl a1.length (a1.map i64), sl a2.length (a2.map i64), sl a3.length (a3.map f32)]) rfl rfl (LOp.fap und30 rfl siz22 rfl rfl rfl) <|
        (TR.l (r := sl a1.length (a1.map i64)) rfl rfl (LOp.load1 agg22 rfl rfl) <|
        (TR.l (r := ptr [i64 a0, sl a1.length (a1.map i64), sl a2.length (a2.map i64), sl a3.length (a3.map f32)]) rfl rfl (LOp.fap und30 rfl siz2 rfl rfl rfl) <|
        (TR.l (r := i64 a0) rfl rfl (LOp.load1 agg2 rfl rfl) <|
        (TR.l (r := ptr [i64 e6]) rfl rfl (LOp.le (LOp.ix (f := i64) und22 siz2 rfl rfl rfl rfl he11) ALe.ptr) <|
        (TR.l (r := i64 e6) rfl rfl (LOp.load1 agg2 rfl rfl) <|
        (TR.l (r := i64 r1) rfl rfl (LOp.move rfl rfl) <|
        (TR.l (r := b false) rfl rfl (LOp.eqb (LOp.neq rfl rfl rfl) hc12) <|
        (TR.l (r := b false) rfl rfl (LOp.pick_false rfl rfl rfl) <|
        TR.nil))))))))))))))))))))))))))))))))))))))))))) rfl (by kernel_rfl) rfl fills_nil rfl ?_
       iterate 43 refine ROps.dropS ?_
       refine ROps.drop0 ?_
       refine zN ?_
       refine RunC.wl (τ' := [(1, ptr [i64 a0, sl a1.length (a1.map i64), sl a2.length (a2.map i64), sl a3.length (a3.map f32)]), (51, b false)]) (Γ' := []) ⟨aR, aR, trivial⟩ trivial ?_
       refine RunC.cond_false rfl rfl ?_
       refine RunC.skip ?_
       refine RunC.seq ?_
       refine RunC.seq ?_
       obtain ⟨r7, hf13, h⟩ := obind_some h
       rcases bsel_some h with ⟨hc14, h⟩ | ⟨hc14, h⟩
       ·obtain ⟨x8, hx15, h⟩ := olet_some h
        obtain ⟨r9, hf16, h⟩ := obind_some h
        rcases bsel_some h with ⟨hc17, h⟩ | ⟨hc17, h⟩
        ·obtain ⟨r10, hf18, h⟩ := obind_some h
         rcases bsel_some h with ⟨hc19, h⟩ | ⟨hc19, h⟩
         ·refine RunC.regionW ?_
          refine zL (r := ptr [sl a1.length (a1.map i64), sl a2.length (a2.map i64), sl a3.length (a3.map f32)]) rfl rfl rfl (LOp.fap und30 rfl siz22 rfl rfl rfl) ?_
          refine zL (r := sl a1.length (a1.map i64)) rfl rfl rfl (LOp.load1 agg22 rfl rfl) ?_
          refine ROps.d (r := b true) (fs := []) (Γ' := []) rfl rfl rfl (TOp.eqb (TOp.callB (CallAs.func ent138 rfl rfl) (Bors.cons (Bor.sl (fun _ => rfl)) Bors.nil) rfl rfl (x_slices_IsSorted_int64_int64_ok a1 r7 hf13)) hc14) rfl ?_
          refine zL (r := b false) rfl rfl rfl (LOp.eqb (LOp.not rfl rfl) rfl) ?_
          refine zM (r := b false) rfl rfl rfl rfl rfl ?_
          refine zL (r := ptr [sl a2.length (a2.map i64), sl a3.length (a3.map f32)]) rfl rfl rfl (LOp.fap und30 rfl siz22 rfl rfl rfl) ?_
          refine zL (r := sl a2.length (a2.map i64)) rfl rfl rfl (LOp.load1 agg22 rfl rfl) ?_
          refine zL (r := ptr [i64 a0, sl a1.length (a1.map i64), sl a2.length (a2.map i64), sl a3.length (a3.map f32)]) rfl rfl rfl (LOp.fap und30 rfl siz2 rfl rfl rfl) ?_
          refine zL (r := i64 a0) rfl rfl rfl (LOp.load1 agg2 rfl rfl) ?_
          refine zL (r := i64 x8) rfl rfl rfl (LOp.eqr (LOp.sub rfl rfl rfl) (congrArg (ik .i64) hx15)) ?_
          refine ROps.d (r := b true) (fs := []) (Γ' := []) rfl rfl rfl (TOp.eqb (TOp.callB (CallAs.func ent139 rfl rfl) (Bors.cons (Bor.sl (fun _ => rfl)) (Bors.cons (Bor.pure rfl) (Bors.cons (Bor.pure rfl) Bors.nil))) rfl rfl (i_allIn_ok a2 0 x8 r9 hf16)) hc17) rfl ?_
          refine zL (r := b false) rfl rfl rfl (LOp.eqb (LOp.not rfl rfl) rfl) ?_
          refine zL (r := b false) rfl rfl rfl (LOp.pick_false rfl rfl rfl) ?_
          refine zM (r := b false) rfl rfl rfl rfl rfl ?_
          refine zL (r := ptr [sl a3.length (a3.map f32)]) rfl rfl rfl (LOp.fap und30 rfl siz23 rfl rfl rfl) ?_
          refine zL (r := sl a3.length (a3.map f32)) rfl rfl rfl (LOp.load1 agg23 rfl rfl) ?_
          refine ROps.d (r := b true) (fs := []) (Γ' := []) rfl rfl rfl (TOp.eqb (TOp.callB (CallAs.func ent90 rfl rfl) (Bors.cons (Bor.sl (fun _ => rfl)) Bors.nil) rfl rfl (i_areFinite_ok a3 r10 hf18)) hc19) rfl ?_
          refine zL (r := b false) rfl rfl rfl (LOp.eqb (LOp.not rfl rfl) rfl) ?_
          refine zL (r := b false) rfl rfl rfl (LOp.pick_false rfl rfl rfl) ?_
          refine zN ?_
          refine RunC.wl (τ' := [(1, ptr [i64 a0, sl a1.length (a1.map i64), sl a2.length (a2.map i64), sl a3.length (a3.map f32)]), (70, b false)]) (Γ' := []) ⟨aR, aR, trivial⟩ trivial ?_
          refine RunC.cond_false rfl rfl ?_
          refine RunC.skip ?_
          refine RunC.seq ?_
          refine zQ ?_
          refine zL (r := ptr [i64 a0, sl a1.length (a1.map i64), sl a2.length (a2.map i64), sl a3.length (a3.map f32)]) rfl rfl rfl (LOp.fap und30 rfl siz2 rfl rfl rfl) ?_
          refine zL (r := i64 a0) rfl rfl rfl (LOp.load1 agg2 rfl rfl) ?_
          refine zM (r := i64 0) rfl rfl rfl rfl rfl ?_
          refine zN ?_
          obtain ⟨z4, hz_4, h⟩ := obind_some h
          refine RunC.cutN (fun τ Γ => WeakLe τ [] ∧ DeadLe Γ [] ∧ z4 = .inl ()) ?_ ?_
          ·refine RunC.block (RunC.loop (RunL.loopM (x := z4) (i_ValidSparse_s3 a0 a1 a2) (fun (s : Int) τ Γ => WeakLe τ [(1, ptr [i64 a0, sl a1.length (a1.map i64), sl a2.length (a2.map i64), sl a3.length (a3.map f32)]), (72, i64 a0), (73, i64 s)] ∧ DeadLe Γ []) ?_ _ _ _ hz_4 ⟨⟨aR, aR, aR, trivial⟩, trivial⟩))
           rintro v11 τ4 Γ4 y4_ ⟨hw4, hd4⟩ h4_ ho4 hr4
           refine RunC.wl (τ' := [(1, ptr [i64 a0, sl a1.length (a1.map i64), sl a2.length (a2.map i64), sl a3.length (a3.map f32)]), (72, i64 a0), (73, i64 v11)]) (Γ' := []) hw4 hd4 ?_
           replace h4_ : i_ValidSparse_b3 a0 a1 a2 v11 = some y4_ := h4_
           unfold i_ValidSparse_b3 at h4_
           refine RunC.seq ?_
           rcases bsel_some h4_ with ⟨hc20, h4_⟩ | ⟨hc20, h4_⟩
           ·refine RunC.regionW ?_
            refine zL (r := b true) rfl rfl rfl (LOp.eqb (LOp.lss rfl rfl rfl) hc20) ?_
            refine zN ?_
            refine RunC.seq ?_
            refine RunC.cond_true rfl rfl ?_
            refine RunC.skip ?_
            refine RunC.seq ?_
            refine RunC.block ?_
            refine zQ ?_
            refine zM (r := i64 v11) rfl rfl rfl rfl rfl ?_
            refine zA (r := i64 v11) rfl rfl rfl rfl rfl ?_
            refine zN ?_
            refine RunC.seq ?_
            obtain ⟨e12, he21, h4_⟩ := obind_some h4_
            obtain ⟨x13, hx22, h4_⟩ := olet_some h4_
            refine RunC.regionW ?_
            refine zL (r := ptr [sl a1.length (a1.map i64), sl a2.length (a2.map i64), sl a3.length (a3.map f32)]) rfl rfl rfl (LOp.fap und30 rfl siz22 rfl rfl rfl) ?_
            refine zL (r := sl a1.length (a1.map i64)) rfl rfl rfl (LOp.load1 agg22 rfl rfl) ?_
            refine zM (r := i64 v11) rfl rfl rfl rfl rfl ?_
            refine zL (r := ptr [i64 e12]) rfl rfl rfl (LOp.le (LOp.ix (f := i64) und22 siz2 rfl rfl rfl rfl he21) ALe.ptr) ?_
            refine zL (r := i64 e12) rfl rfl rfl (LOp.load1 agg2 rfl rfl) ?_
            refine zL (r := i64 x13) rfl rfl rfl (LOp.eqr (LOp.add rfl rfl rfl) (congrArg (ik .i64) hx22)) ?_
            refine zA (r := i64 x13) rfl rfl rfl rfl rfl ?_
            refine zN ?_
            obtain ⟨z5, hz_5, h4_⟩ := obind_some h4_
            refine RunC.cutN (fun τ Γ => WeakLe τ [(1, ptr [i64 a0, sl a1.length (a1.map i64), sl a2.length (a2.map i64), sl a3.length (a3.map f32)]), (72, i64 a0), (73, i64 v11)] ∧ DeadLe Γ [] ∧ z5 = .inl ()) ?_ ?_
            ·refine RunC.block (RunC.loop (RunL.loopM (x := z5) (i_ValidSparse_s2 a1 a2 v11) (fun (s : Int) τ Γ => WeakLe τ [(1, ptr [i64 a0, sl a1.length (a1.map i64), sl a2.length (a2.map i64), sl a3.length (a3.map f32)]), (4, i64 v11), (5, i64 s), (72, i64 a0), (73, i64 v11)] ∧ DeadLe Γ []) ?_ _ _ _ hz_5 ⟨⟨aR, aR, aR, aR, aR, trivial⟩, trivial⟩))
             rintro v14 τ5 Γ5 y5_ ⟨hw5, hd5⟩ h5_ ho5 hr5
             refine RunC.wl (τ' := [(1, ptr [i64 a0, sl a1.length (a1.map i64), sl a2.length (a2.map i64), sl a3.length (a3.map f32)]), (4, i64 v11), (5, i64 v14), (72, i64 a0), (73, i64 v11)]) (Γ' := []) hw5 hd5 ?_
             replace h5_ : i_ValidSparse_b2 a1 a2 v11 v14 = some y5_ := h5_
             unfold i_ValidSparse_b2 at h5_
             refine RunC.seq ?_
             refine RunC.seq ?_
             obtain ⟨x15, hx23, h5_⟩ := olet_some h5_
             obtain ⟨e16, he24, h5_⟩ := obind_some h5_
             rcases bsel_some h5_ with ⟨hc25, h5_⟩ | ⟨hc25, h5_⟩
             ·refine RunC.regionW ?_
              refine zM (r := i64 v14) rfl rfl rfl rfl rfl ?_
              refine zL (r := ptr [sl a1.length (a1.map i64), sl a2.length (a2.map i64), sl a3.length (a3.map f32)]) rfl rfl rfl (LOp.fap und30 rfl siz22 rfl rfl rfl) ?_
              refine zL (r := sl a1.length (a1.map i64)) rfl rfl rfl (LOp.load1 agg22 rfl rfl) ?_
              refine zM (r := i64 v11) rfl rfl rfl rfl rfl ?_
              refine zL (r := i64 x15) rfl rfl rfl (LOp.eqr (LOp.add rfl rfl rfl) (congrArg (ik .i64) hx23)) ?_
              refine zL (r := ptr [i64 e16]) rfl rfl rfl (LOp.le (LOp.ix (f := i64) und22 siz2 rfl rfl rfl rfl he24) ALe.ptr) ?_
              refine zL (r := i64 e16) rfl rfl rfl (LOp.load1 agg2 rfl rfl) ?_
              refine zL (r := b true) rfl rfl rfl (LOp.eqb (LOp.lss rfl rfl rfl) hc25) ?_
              refine zN ?_
              refine RunC.cond_true rfl rfl ?_
              refine RunC.skip ?_
              refine RunC.seq ?_
              refine RunC.block ?_
              refine RunC.seq ?_
              obtain ⟨x17, hx26, h5_⟩ := olet_some h5_
              obtain ⟨e18, he27, h5_⟩ := obind_some h5_
              obtain ⟨e19, he28, h5_⟩ := obind_some h5_
              rcases bsel_some h5_ with ⟨hc29, h5_⟩ | ⟨hc29, h5_⟩
              ·refine RunC.region_draw (Γ' := []) 12 mixed 
                (TR.l (r := ptr [sl a2.length (a2.map i64), sl a3.length (a3.map f32)]) rfl rfl (LOp.fap und30 rfl siz22 rfl rfl rfl) <|
                (TR.l (r := sl a2.length (a2.map i64)) rfl rfl (LOp.load1 agg22 rfl rfl) <|
                (TR.l (r := i64 v14) rfl rfl (LOp.move rfl rfl) <|
                (TR.l (r := i64 x17) rfl rfl (LOp.eqr (LOp.sub rfl rfl rfl) (congrArg (ik .i64) hx26)) <|
                (TR.l (r := ptr [i64 e18]) rfl rfl (LOp.le (LOp.ix (f := i64) und22 siz2 rfl rfl rfl rfl he27) ALe.ptr) <|
                (TR.l (r := i64 e18) rfl rfl (LOp.load1 agg2 rfl rfl) <|
                (TR.l (r := ptr [sl a2.length (a2.map i64), sl a3.length (a3.map f32)]) rfl rfl (LOp.fap und30 rfl siz22 rfl rfl rfl) <|
                (TR.l (r := sl a2.length (a2.map i64)) rfl rfl (LOp.load1 agg22 rfl rfl) <|
                (TR.l (r := i64 v14) rfl rfl (LOp.move rfl rfl) <|
                (TR.l (r := ptr [i64 e19]) rfl rfl (LOp.le (LOp.ix (f := i64) und22 siz2 rfl rfl rfl rfl he28) ALe.ptr) <|
                (TR.l (r := i64 e19) rfl rfl (LOp.load1 agg2 rfl rfl) <|
                (TR.l (r := b true) rfl rfl (LOp.eqb (LOp.geq rfl rfl rfl) hc29) <|
                TR.nil)))))))))))) rfl (by kernel_rfl) rfl fills_nil rfl ?_
               iterate 12 refine ROps.dropS ?_
               refine ROps.drop0 ?_
               refine zN ?_
               refine RunC.wl (τ' := [(1, ptr [i64 a0, sl a1.length (a1.map i64), sl a2.length (a2.map i64), sl a3.length (a3.map f32)]), (4, i64 v11), (5, i64 v14), (72, i64 a0), (73, i64 v11), (103, b true)]) (Γ' := []) ⟨aR, aR, aR, aR, aR, aR, trivial⟩ trivial ?_
               refine RunC.cond_true rfl rfl ?_
               refine zQ ?_
               refine zA (r := b false) rfl rfl rfl rfl rfl ?_
               refine zN ?_
               refine RunC.ret ?_
               cases Option.some.inj h5_
               have hx6_ := hr5 _ rfl
               subst hx6_
               cases Option.some.inj h4_
               have hx7_ := hr4 _ rfl
               subst hx7_
               have hq := Option.some.inj h
               subst q0
               exact bodyQ.pure (.inr rfl) rfl (Res.one rfl (RV.tmp rfl))
              ·refine RunC.region_draw (Γ' := []) 12 mixed 
                (TR.l (r := ptr [sl a2.length (a2.map i64), sl a3.length (a3.map f32)]) rfl rfl (LOp.fap und30 rfl siz22 rfl rfl rfl) <|
                (TR.l (r := sl a2.length (a2.map i64)) rfl rfl (LOp.load1 agg22 rfl rfl) <|
                (TR.l (r := i64 v14) rfl rfl (LOp.move rfl rfl) <|
                (TR.l (r := i64 x17) rfl rfl (LOp.eqr (LOp.sub rfl rfl rfl) (congrArg (ik .i64) hx26)) <|
                (TR.l (r := ptr [i64 e18]) rfl rfl (LOp.le (LOp.ix (f := i64) und22 siz2 rfl rfl rfl rfl he27) ALe.ptr) <|
                (TR.l (r := i64 e18) rfl rfl (LOp.load1 agg2 rfl rfl) <|
                (TR.l (r := ptr [sl a2.length (a2.map i64), sl a3.length (a3.map f32)]) rfl rfl (LOp.fap und30 rfl siz22 rfl rfl rfl) <|
                (TR.l (r := sl a2.length (a2.map i64)) rfl rfl (LOp.load1 agg22 rfl rfl) <|
                (TR.l (r := i64 v14) rfl rfl (LOp.move rfl rfl) <|
                (TR.l (r := ptr [i64 e19]) rfl rfl (LOp.le (LOp.ix (f := i64) und22 siz2 rfl rfl rfl rfl he28) ALe.ptr) <|
                (TR.l (r := i64 e19) rfl rfl (LOp.load1 agg2 rfl rfl) <|
                (TR.l (r := b false) rfl rfl (LOp.eqb (LOp.geq rfl rfl rfl) hc29) <|
                TR.nil)))))))))))) rfl (by kernel_rfl) rfl fills_nil rfl ?_
               iterate 12 refine ROps.dropS ?_
               refine ROps.drop0 ?_
               refine zN ?_
               refine RunC.wl (τ' := [(1, ptr [i64 a0, sl a1.length (a1.map i64), sl a2.length (a2.map i64), sl a3.length (a3.map f32)]), (4, i64 v11), (5, i64 v14), (72, i64 a0), (73, i64 v11), (103, b false)]) (Γ' := []) ⟨aR, aR, aR, aR, aR, aR, trivial⟩ trivial ?_
               refine RunC.cond_false rfl rfl ?_
               refine RunC.skip ?_
               obtain ⟨x20, hx30, h5_⟩ := olet_some h5_
               refine RunC.regionW ?_
               refine zM (r := i64 v14) rfl rfl rfl rfl rfl ?_
               refine zL (r := i64 x20) rfl rfl rfl (LOp.eqr (LOp.add rfl rfl rfl) (congrArg (ik .i64) hx30)) ?_
               refine zA (r := i64 x20) rfl rfl rfl rfl rfl ?_
               refine zN ?_
               cases Option.some.inj h5_
               exact ⟨_, rfl, ⟨aR, aR, aR, aR, aR, trivial⟩, trivial⟩
             ·refine RunC.regionW ?_
              refine zM (r := i64 v14) rfl rfl rfl rfl rfl ?_
              refine zL (r := ptr [sl a1.length (a1.map i64), sl a2.length (a2.map i64), sl a3.length (a3.map f32)]) rfl rfl rfl (LOp.fap und30 rfl siz22 rfl rfl rfl) ?_
              refine zL (r := sl a1.length (a1.map i64)) rfl rfl rfl (LOp.load1 agg22 rfl rfl) ?_
              refine zM (r := i64 v11) rfl rfl rfl rfl rfl ?_
              refine zL (r := i64 x15) rfl rfl rfl (LOp.eqr (LOp.add rfl rfl rfl) (congrArg (ik .i64) hx23)) ?_
              refine zL (r := ptr [i64 e16]) rfl rfl rfl (LOp.le (LOp.ix (f := i64) und22 siz2 rfl rfl rfl rfl he24) ALe.ptr) ?_
              refine zL (r := i64 e16) rfl rfl rfl (LOp.load1 agg2 rfl rfl) ?_
              refine zL (r := b false) rfl rfl rfl (LOp.eqb (LOp.lss rfl rfl rfl) hc25) ?_
              refine zN ?_
              refine RunC.cond_false rfl rfl ?_
              refine RunC.exit ?_
              cases Option.some.inj h5_
              have hx := ho5 _ rfl
              exact ⟨⟨aR, aR, aR, trivial⟩, trivial, hx⟩
            ·rintro τ8 Γ8 ⟨hw8, hd8, rfl⟩
             refine RunC.wl hw8 hd8 ?_
             replace h4_ : i_ValidSparse_k2 v11 = some y4_ := h4_
             unfold i_ValidSparse_k2 at h4_
             obtain ⟨x21, hx31, h4_⟩ := olet_some h4_
             refine RunC.regionW ?_
             refine zL (r := i64 x21) rfl rfl rfl (LOp.eqr (LOp.add rfl rfl rfl) (congrArg (ik .i64) hx31)) ?_
             refine zM (r := i64 x21) rfl rfl rfl rfl rfl ?_
             refine zN ?_
             cases Option.some.inj h4_
             exact ⟨_, rfl, ⟨aR, aR, aR, trivial⟩, trivial⟩
           ·refine RunC.regionW ?_
            refine zL (r := b false) rfl rfl rfl (LOp.eqb (LOp.lss rfl rfl rfl) hc20) ?_
            refine zN ?_
            refine RunC.seq ?_
            refine RunC.cond_false rfl rfl ?_
            refine RunC.exit ?_
            cases Option.some.inj h4_
            have hx := ho4 _ rfl
            exact ⟨trivial, trivial, hx⟩
          ·rintro τ9 Γ9 ⟨hw9, hd9, rfl⟩
           refine RunC.wl hw9 hd9 ?_
           replace h : i_ValidSparse_k3 = some q0 := h
           unfold i_ValidSparse_k3 at h
           refine zQ ?_
           refine zA (r := b true) rfl rfl rfl rfl rfl ?_
           refine zN ?_
           refine RunC.ret ?_
           have hq := Option.some.inj h
           subst q0
           exact bodyQ.pure (.inr rfl) rfl (Res.one rfl (RV.tmp rfl))
         ·refine RunC.regionW ?_
          refine zL (r := ptr [sl a1.length (a1.map i64), sl a2.length (a2.map i64), sl a3.length (a3.map f32)]) rfl rfl rfl (LOp.fap und30 rfl siz22 rfl rfl rfl) ?_
          refine zL (r := sl a1.length (a1.map i64)) rfl rfl rfl (LOp.load1 agg22 rfl rfl) ?_
          refine ROps.d (r := b true) (fs := []) (Γ' := []) rfl rfl rfl (TOp.eqb (TOp.callB (CallAs.func ent138 rfl rfl) (Bors.cons (Bor.sl (fun _ => rfl)) Bors.nil) rfl rfl (x_slices_IsSorted_int64_int64_ok a1 r7 hf13)) hc14) rfl ?_
          refine zL (r := b false) rfl rfl rfl (LOp.eqb (LOp.not rfl rfl) rfl) ?_
          refine zM (r := b false) rfl rfl rfl rfl rfl ?_
          refine zL (r := ptr [sl a2.length (a2.map i64), sl a3.length (a3.map f32)]) rfl rfl rfl (LOp.fap und30 rfl siz22 rfl rfl rfl) ?_
          refine zL (r := sl a2.length (a2.map i64)) rfl rfl rfl (LOp.load1 agg22 rfl rfl) ?_
          refine zL (r := ptr [i64 a0, sl a1.length (a1.map i64), sl a2.length (a2.map i64), sl a3.length (a3.map f32)]) rfl rfl rfl (LOp.fap und30 rfl siz2 rfl rfl rfl) ?_
          refine zL (r := i64 a0) rfl rfl rfl (LOp.load1 agg2 rfl rfl) ?_
          refine zL (r := i64 x8) rfl rfl rfl (LOp.eqr (LOp.sub rfl rfl rfl) (congrArg (ik .i64) hx15)) ?_
          refine ROps.d (r := b true) (fs := []) (Γ' := []) rfl rfl rfl (TOp.eqb (TOp.callB (CallAs.func ent139 rfl rfl) (Bors.cons (Bor.sl (fun _ => rfl)) (Bors.cons (Bor.pure rfl) (Bors.cons (Bor.pure rfl) Bors.nil))) rfl rfl (i_allIn_ok a2 0 x8 r9 hf16)) hc17) rfl ?_
          refine zL (r := b false) rfl rfl rfl (LOp.eqb (LOp.not rfl rfl) rfl) ?_
          refine zL (r := b false) rfl rfl rfl (LOp.pick_false rfl rfl rfl) ?_
          refine zM (r := b false) rfl rfl rfl rfl rfl ?_
          refine zL (r := ptr [sl a3.length (a3.map f32)]) rfl rfl rfl (LOp.fap und30 rfl siz23 rfl rfl rfl) ?_
          refine zL (r := sl a3.length (a3.map f32)) rfl rfl rfl (LOp.load1 agg23 rfl rfl) ?_
          refine ROps.d (r := b false) (fs := []) (Γ' := []) rfl rfl rfl (TOp.eqb (TOp.callB (CallAs.func ent90 rfl rfl) (Bors.cons (Bor.sl (fun _ => rfl)) Bors.nil) rfl rfl (i_areFinite_ok a3 r10 hf18)) hc19) rfl ?_
          refine zL (r := b true) rfl rfl rfl (LOp.eqb (LOp.not rfl rfl) rfl) ?_
          refine zL (r := b true) rfl rfl rfl (LOp.pick_false rfl rfl rfl) ?_
          refine zN ?_
          refine RunC.wl (τ' := [(1, ptr [i64 a0, sl a1.length (a1.map i64), sl a2.length (a2.map i64), sl a3.length (a3.map f32)]), (70, b true)]) (Γ' := []) ⟨aR, aR, trivial⟩ trivial ?_
          refine RunC.cond_true rfl rfl ?_
          refine zQ ?_
          refine zA (r := b false) rfl rfl rfl rfl rfl ?_
          refine zN ?_
          refine RunC.ret ?_
          have hq := Option.some.inj h
          subst q0
          exact bodyQ.pure (.inr rfl) rfl (Res.one rfl (RV.tmp rfl))
        ·refine RunC.regionW ?_
         refine zL (r := ptr [sl a1.length (a1.map i64), sl a2.length (a2.map i64), sl a3.length (a3.map f32)]) rfl rfl rfl (LOp.fap und30 rfl siz22 rfl rfl rfl) ?_
         refine zL (r := sl a1.length (a1.map i64)) rfl rfl rfl (LOp.load1 agg22 rfl rfl) ?_
         refine ROps.d (r := b true) (fs := []) (Γ' := []) rfl rfl rfl (TOp.eqb (TOp.callB (CallAs.func ent138 rfl rfl) (Bors.cons (Bor.sl (fun _ => rfl)) Bors.nil) rfl rfl (x_slices_IsSorted_int64_int64_ok a1 r7 hf13)) hc14) rfl ?_
         refine zL (r := b false) rfl rfl rfl (LOp.eqb (LOp.not rfl rfl) rfl) ?_
         refine zM (r := b false) rfl rfl rfl rfl rfl ?_
         refine zL (r := ptr [sl a2.length (a2.map i64), sl a3.length (a3.map f32)]) rfl rfl rfl (LOp.fap und30 rfl siz22 rfl rfl rfl) ?_
         refine zL (r := sl a2.length (a2.map i64)) rfl rfl rfl (LOp.load1 agg22 rfl rfl) ?_
         refine zL (r := ptr [i64 a0, sl a1.length (a1.map i64), sl a2.length (a2.map i64), sl a3.length (a3.map f32)]) rfl rfl rfl (LOp.fap und30 rfl siz2 rfl rfl rfl) ?_
         refine zL (r := i64 a0) rfl rfl rfl (LOp.load1 agg2 rfl rfl) ?_
         refine zL (r := i64 x8) rfl rfl rfl (LOp.eqr (LOp.sub rfl rfl rfl) (congrArg (ik .i64) hx15)) ?_
         refine ROps.d (r := b false) (fs := []) (Γ' := []) rfl rfl rfl (TOp.eqb (TOp.callB (CallAs.func ent139 rfl rfl) (Bors.cons (Bor.sl (fun _ => rfl)) (Bors.cons (Bor.pure rfl) (Bors.cons (Bor.pure rfl) Bors.nil))) rfl rfl (i_allIn_ok a2 0 x8 r9 hf16)) hc17) rfl ?_
         refine zL (r := b true) rfl rfl rfl (LOp.eqb (LOp.not rfl rfl) rfl) ?_
         refine zL (r := b true) rfl rfl rfl (LOp.pick_false rfl rfl rfl) ?_
         refine zM (r := b true) rfl rfl rfl rfl rfl ?_
         refine ROps.s rfl rfl rfl ?_
         refine ROps.s rfl rfl rfl ?_
         refine ROps.s rfl rfl rfl ?_
         refine ROps.s rfl rfl rfl ?_
         refine zL (r := b true) rfl rfl rfl (LOp.pick_true rfl rfl rfl) ?_
         refine zN ?_
         refine RunC.wl (τ' := [(1, ptr [i64 a0, sl a1.length (a1.map i64), sl a2.length (a2.map i64), sl a3.length (a3.map f32)]), (70, b true)]) (Γ' := []) ⟨aR, aR, trivial⟩ trivial ?_
         refine RunC.cond_true rfl rfl ?_
         refine zQ ?_
         refine zA (r := b false) rfl rfl rfl rfl rfl ?_
         refine zN ?_
         refine RunC.ret ?_
         have hq := Option.some.inj h
         subst q0
         exact bodyQ.pure (.inr rfl) rfl (Res.one rfl (RV.tmp rfl))
       ·refine RunC.regionW ?_
        refine zL (r := ptr [sl a1.length (a1.map i64), sl a2.length (a2.map i64), sl a3.length (a3.map f32)]) rfl rfl rfl (LOp.fap und30 rfl siz22 rfl rfl rfl) ?_
        refine zL (r := sl a1.length (a1.map i64)) rfl rfl rfl (LOp.load1 agg22 rfl rfl) ?_
        refine ROps.d (r := b false) (fs := []) (Γ' := []) rfl rfl rfl (TOp.eqb (TOp.callB (CallAs.func ent138 rfl rfl) (Bors.cons (Bor.sl (fun _ => rfl)) Bors.nil) rfl rfl (x_slices_IsSorted_int64_int64_ok a1 r7 hf13)) hc14) rfl ?_
        refine zL (r := b true) rfl rfl rfl (LOp.eqb (LOp.not rfl rfl) rfl) ?_
        refine zM (r := b true) rfl rfl rfl rfl rfl ?_
        refine ROps.s rfl rfl rfl ?_
        refine ROps.s rfl rfl rfl ?_
        refine ROps.s rfl rfl rfl ?_
        refine ROps.s rfl rfl rfl ?_
        refine ROps.s rfl rfl rfl ?_
        refine ROps.s rfl rfl rfl ?_
        refine ROps.s rfl rfl rfl ?_
        refine zL (r := b true) rfl rfl rfl (LOp.pick_true rfl rfl rfl) ?_
        refine zM (r := b true) rfl rfl rfl rfl rfl ?_
        refine ROps.s rfl rfl rfl ?_
        refine ROps.s rfl rfl rfl ?_
        refine ROps.s rfl rfl rfl ?_
        refine ROps.s rfl rfl rfl ?_
        refine zL (r := b true) rfl rfl rfl (LOp.pick_true rfl rfl rfl) ?_
        refine zN ?_
        refine RunC.wl (τ' := [(1, ptr [i64 a0, sl a1.length (a1.map i64), sl a2.length (a2.map i64), sl a3.length (a3.map f32)]), (70, b true)]) (Γ' := []) ⟨aR, aR, trivial⟩ trivial ?_
        refine RunC.cond_true rfl rfl ?_
        refine zQ ?_
        refine zA (r := b false) rfl rfl rfl rfl rfl ?_
        refine zN ?_
        refine RunC.ret ?_
        have hq := Option.some.inj h
        subst q0
        exact bodyQ.pure (.inr rfl) rfl (Res.one rfl (RV.tmp rfl))
 ·refine RunC.region_draw (Γ' := []) 43 mixed 
   (TR.l (r := ptr [i64 a0, sl a1.length (a1.map i64), sl a2.length (a2.map i64), sl a3.length (a3.map f32)]) rfl rfl (LOp.fap und30 rfl siz2 rfl rfl rfl) <|
   (TR.l (r := i64 a0) rfl rfl (LOp.load1 agg2 rfl rfl) <|
   (TR.d (r := b false) (fs := []) rfl rfl (TOp.eqb (TOp.callB (CallAs.func ent86 rfl rfl) (Bors.cons (Bor.pure rfl) (Bors.cons (Bor.pure rfl) (Bors.cons (Bor.pure rfl) Bors.nil))) rfl rfl (i_inRange_ok a0 1 32 r2 hf2)) hc3) <|
   (TR.l (r := b true) rfl rfl (LOp.eqb (LOp.not rfl rfl) rfl) <|
   (TR.l (r := b true) rfl rfl (LOp.move rfl rfl) <|
   (TR.s rfl rfl <|
   (TR.s rfl rfl <|
   (TR.s rfl rfl <|
   (TR.s rfl rfl <|
   (TR.s rfl rfl <|
   (TR.s rfl rfl <|
   (TR.s rfl rfl <|
   (TR.l (r := b true) rfl rfl (LOp.pick_true rfl rfl rfl) <|
   (TR.l (r := b true) rfl rfl (LOp.move rfl rfl) <|
   (TR.s rfl rfl <|
   (TR.s rfl rfl <|
   (TR.l (r := b true) rfl rfl (LOp.pick_true rfl rfl rfl) <|
   (TR.l (r := b true) rfl rfl (LOp.move rfl rfl) <|
   (TR.s rfl rfl <|
   (TR.s rfl rfl <|
   (TR.s rfl rfl <|
   (TR.s rfl rfl <|
   (TR.s rfl rfl <|
   (TR.s rfl rfl <|
   (TR.s rfl rfl <|
   (TR.l (r := b true) rfl rfl (LOp.pick_true rfl rfl rfl) <|
   (TR.l (r := b true) rfl rfl (LOp.move rfl rfl) <|
   (TR.s rfl rfl <|
   (TR.s rfl rfl <|
   (TR.s rfl rfl <|
   (TR.s rfl rfl <|
   (TR.s rfl rfl <|
   (TR.l (r := b true) rfl rfl (LOp.pick_true rfl rfl rfl) <|
   (TR.l (r := b true) rfl rfl (LOp.move rfl rfl) <|
   (TR.s rfl rfl <|
   (TR.s rfl rfl <|
   (TR.s rfl rfl <|
   (TR.s rfl rfl <|
   (TR.s rfl rfl <|
   (TR.s rfl rfl <|
   (TR.s rfl rfl <|
   (TR.s rfl rfl <|
   (TR.l (r := b true) rfl rfl (LOp.pick_true rfl rfl rfl) <|
   TR.nil))))))))))))))))))))))))))))))))))))))))))) rfl (by kernel_rfl) rfl fills_nil rfl ?_
  iterate 43 refine ROps.dropS ?_
  refine ROps.drop0 ?_
  refine zN ?_
  refine RunC.wl (τ' := [(1, ptr [i64 a0, sl a1.length (a1.map i64), sl a2.length (a2.map i64), sl a3.length (a3.map f32)]), (51, b true)]) (Γ' := []) ⟨aR, aR, trivial⟩ trivial ?_
  refine RunC.cond_true rfl rfl ?_
  refine zQ ?_
  refine zA (r := b false) rfl rfl rfl rfl rfl ?_
  refine zN ?_
  refine RunC.ret ?_
  have hq := Option.some.inj h
  subst q0
  exact bodyQ.pure (.inr rfl) rfl (Res.one rfl (RV.tmp rfl))
noncomputable def i_length_float32 (a0 : List F) : Option (Int) :=
 some (a0.length : Int)
theorem i_length_float32_ok (a0 : List F) (q0 : Int) (h : i_length_float32 a0 = some q0) : Ev Try.prog 122 [sl a0.length (a0.map f32)] [] (i64 q0) [] := by
 refine Ev.start Try.func122 rfl rfl 0 (τ := [(0, sl a0.length (a0.map f32))]) rfl (Γ' := []) rfl (n := 11) rfl (g := 0) rfl (fun _ => rfl) ?_
 unfold i_length_float32 at h
 refine zQ ?_
 refine zA (r := i64 0) rfl rfl rfl rfl rfl ?_
 refine zN ?_
 refine zQ ?_
 refine zM (r := sl a0.length (a0.map f32)) rfl rfl rfl rfl rfl ?_
 refine zL (r := i64 (a0.length : Int)) rfl rfl rfl (LOp.len_sl und23 rfl rfl) ?_
 refine zA (r := i64 (a0.length : Int)) rfl rfl rfl rfl rfl ?_
 refine zN ?_
 refine RunC.ret ?_
 have hq := Option.some.inj h
 subst q0
 exact bodyQ.pure (.inr rfl) rfl (Res.one rfl (RV.tmp rfl))
noncomputable def i_IsVector (a0 : List F) : Option (Bool) :=
 obind (i_length_float32 a0) fun (r1 : Int) =>
 obind (i_inRange r1 1 256) fun (r2 : Bool) =>
 bsel r2 (
  obind (i_areFinite a0) fun (r3 : Bool) =>
  some r3) (
  some false)
theorem i_IsVector_ok (a0 : List F) (q0 : Bool) (h : i_IsVector a0 = some q0) : Ev Try.prog 121 [sl a0.length (a0.map f32)] [] (b q0) [] := by
 refine Ev.start Try.func121 rfl rfl 0 (τ := [(0, sl a0.length (a0.map f32))]) rfl (Γ' := []) rfl (n := 21) rfl (g := 0) rfl (fun _ => rfl) ?_
 unfold i_IsVector at h
 refine zQ ?_
 refine zA (r := b false) rfl rfl rfl rfl rfl ?_
 refine zN ?_
 refine RunC.seq ?_
 obtain ⟨r1, hf1, h⟩ := obind_some h
 obtain ⟨r2, hf2, h⟩ := obind_some h
 rcases bsel_some h with ⟨hc3, h⟩ | ⟨hc3, h⟩
 ·obtain ⟨r3, hf4, h⟩ := obind_some h
  refine RunC.regionW ?_
  refine zM (r := sl a0.length (a0.map f32)) rfl rfl rfl rfl rfl ?_
  refine ROps.d (r := i64 r1) (fs := []) (Γ' := []) rfl rfl rfl (TOp.callB (CallAs.func ent122 rfl rfl) (Bors.cons (Bor.sl (fun _ => rfl)) Bors.nil) rfl rfl (i_length_float32_ok a0 r1 hf1)) rfl ?_
  refine ROps.d (r := b true) (fs := []) (Γ' := []) rfl rfl rfl (TOp.eqb (TOp.callB (CallAs.func ent86 rfl rfl) (Bors.cons (Bor.pure rfl) (Bors.cons (Bor.pure rfl) (Bors.cons (Bor.pure rfl) Bors.nil))) rfl rfl (i_inRange_ok r1 1 256 r2 hf2)) hc3) rfl ?_
  refine zM (r := b true) rfl rfl rfl rfl rfl ?_
  refine zM (r := sl a0.length (a0.map f32)) rfl rfl rfl rfl rfl ?_
  refine ROps.d (r := b r3) (fs := []) (Γ' := []) rfl rfl rfl (TOp.callB (CallAs.func ent90 rfl rfl) (Bors.cons (Bor.sl (fun _ => rfl)) Bors.nil) rfl rfl (i_areFinite_ok a0 r3 hf4)) rfl ?_
  refine zL (r := b r3) rfl rfl rfl (LOp.pick_true rfl rfl rfl) ?_
  refine zA (r := b r3) rfl rfl rfl rfl rfl ?_
  refine zN ?_
  refine RunC.ret ?_
  have hq := Option.some.inj h
  subst q0
  exact bodyQ.pure (.inr rfl) rfl (Res.one rfl (RV.tmp rfl))
 ·refine RunC.regionW ?_
  refine zM (r := sl a0.length (a0.map f32)) rfl rfl rfl rfl rfl ?_
  refine ROps.d (r := i64 r1) (fs := []) (Γ' := []) rfl rfl rfl (TOp.callB (CallAs.func ent122 rfl rfl) (Bors.cons (Bor.sl (fun _ => rfl)) Bors.nil) rfl rfl (i_length_float32_ok a0 r1 hf1)) rfl ?_
  refine ROps.d (r := b false) (fs := []) (Γ' := []) rfl rfl rfl (TOp.eqb (TOp.callB (CallAs.func ent86 rfl rfl) (Bors.cons (Bor.pure rfl) (Bors.cons (Bor.pure rfl) (Bors.cons (Bor.pure rfl) Bors.nil))) rfl rfl (i_inRange_ok r1 1 256 r2 hf2)) hc3) rfl ?_
  refine zM (r := b false) rfl rfl rfl rfl rfl ?_
  refine ROps.s rfl rfl rfl ?_
  refine ROps.s rfl rfl rfl ?_
  refine zL (r := b false) rfl rfl rfl (LOp.pick_false rfl rfl rfl) ?_
  refine zA (r := b false) rfl rfl rfl rfl rfl ?_
  refine zN ?_
  refine RunC.ret ?_
  have hq := Option.some.inj h
  subst q0
  exact bodyQ.pure (.inr rfl) rfl (Res.one rfl (RV.tmp rfl))
noncomputable def i_Sparse_takes (a0 : Int) (a1 : List Int) (a2 : List Int) (a3 : List F) (a4 : List F) : Option (Bool) :=
 obind (i_ValidSparse a0 a1 a2 a3) fun (r1 : Bool) =>
 bsel r1 (
  obind (i_IsVector a4) fun (r2 : Bool) =>
  bsel r2 (
   obind (i_length_float32 a4) fun (r3 : Int) =>
   some (decide (r3 = a0))) (
   some false)) (
  some false)
theorem i_Sparse_takes_ok (a0 : Int) (a1 : List Int) (a2 : List Int) (a3 : List F) (a4 : List F) (q0 : Bool) (h : i_Sparse_takes a0 a1 a2 a3 a4 = some q0) : Ev Try.prog 84 [agg [i64 a0, sl a1.length (a1.map i64), sl a2.length (a2.map i64), sl a3.length (a3.map f32)], sl a4.length (a4.map f32)] [] (b q0) [] := by
 refine Ev.start Try.func84 rfl rfl 0 (τ := [(0, agg [i64 a0, sl a1.length (a1.map i64), sl a2.length (a2.map i64), sl a3.length (a3.map f32)]), (1, sl a4.length (a4.map f32))]) rfl (Γ' := []) rfl (n := 37) rfl (g := 0) rfl (fun _ => rfl) ?_
 unfold i_Sparse_takes at h
 refine zQ ?_
 refine ROps.d (r := ptr [i64 a0, sl a1.length (a1.map i64), sl a2.length (a2.map i64), sl a3.length (a3.map f32)]) (fs := []) (Γ' := []) rfl rfl rfl (TOp.box_s rfl rfl rfl) rfl ?_
 refine zA (r := b false) rfl rfl rfl rfl rfl ?_
 refine zN ?_
 refine RunC.seq ?_
 obtain ⟨r1, hf1, h⟩ := obind_some h
 rcases bsel_some h with ⟨hc2, h⟩ | ⟨hc2, h⟩
 ·obtain ⟨r2, hf3, h⟩ := obind_some h
  rcases bsel_some h with ⟨hc4, h⟩ | ⟨hc4, h⟩
  ·obtain ⟨r3, hf5, h⟩ := obind_some h
   refine RunC.region_draw (Γ' := []) 14 mixed 
    (TR.l (r := agg [i64 a0, sl a1.length (a1.map i64), sl a2.length (a2.map i64), sl a3.length (a3.map f32)]) rfl rfl (LOp.loadAgg agg30 siz30 rfl rfl rfl rfl) <|
    (TR.d (r := b true) (fs := []) rfl rfl (TOp.eqb (TOp.callB (CallAs.func ent120 rfl rfl) (Bors.cons (Bor.agg (Bors.cons (Bor.pure rfl) (Bors.cons (Bor.sl (fun _ => rfl)) (Bors.cons (Bor.sl (fun _ => rfl)) (Bors.cons (Bor.sl (fun _ => rfl)) Bors.nil))))) Bors.nil) rfl rfl (i_ValidSparse_ok a0 a1 a2 a3 r1 hf1)) hc2) <|
    (TR.l (r := b true) rfl rfl (LOp.move rfl rfl) <|
    (TR.l (r := sl a4.length (a4.map f32)) rfl rfl (LOp.move rfl rfl) <|
    (TR.d (r := b true) (fs := []) rfl rfl (TOp.eqb (TOp.callB (CallAs.func ent121 rfl rfl) (Bors.cons (Bor.sl (fun _ => rfl)) Bors.nil) rfl rfl (i_IsVector_ok a4 r2 hf3)) hc4) <|
    (TR.l (r := b true) rfl rfl (LOp.pick_true rfl rfl rfl) <|
    (TR.l (r := b true) rfl rfl (LOp.move rfl rfl) <|
    (TR.l (r := sl a4.length (a4.map f32)) rfl rfl (LOp.move rfl rfl) <|
    (TR.d (r := i64 r3) (fs := []) rfl rfl (TOp.callB (CallAs.func ent122 rfl rfl) (Bors.cons (Bor.sl (fun _ => rfl)) Bors.nil) rfl rfl (i_length_float32_ok a4 r3 hf5)) <|
    (TR.l (r := ptr [i64 a0, sl a1.length (a1.map i64), sl a2.length (a2.map i64), sl a3.length (a3.map f32)]) rfl rfl (LOp.fap und30 rfl siz2 rfl rfl rfl) <|
    (TR.l (r := i64 a0) rfl rfl (LOp.load1 agg2 rfl rfl) <|
    (TR.l (r := b (decide (r3 = a0))) rfl rfl (LOp.eql rfl rfl rfl) <|
    (TR.l (r := b (decide (r3 = a0))) rfl rfl (LOp.pick_true rfl rfl rfl) <|
    (TR.l (r := b (decide (r3 = a0))) rfl rfl (LOp.assign rfl rfl) <|
    TR.nil)))))))))))))) rfl (by kernel_rfl) rfl fills_nil rfl ?_
   iterate 14 refine ROps.dropS ?_
   refine ROps.drop0 ?_
   refine zN ?_
   refine RunC.ret ?_
   have hq := Option.some.inj h
   subst q0
   exact bodyQ.pure (.inr rfl) rfl (Res.one rfl (RV.tmp rfl))
  ·refine RunC.region_draw (Γ' := []) 14 mixed 
    (TR.l (r := agg [i64 a0, sl a1.length (a1.map i64), sl a2.length (a2.map i64), sl a3.length (a3.map f32)]) rfl rfl (LOp.loadAgg agg30 siz30 rfl rfl rfl rfl) <|
    (TR.d (r := b true) (fs := []) rfl rfl (TOp.eqb (TOp.callB (CallAs.func ent120 rfl rfl) (Bors.cons (Bor.agg (Bors.cons (Bor.pure rfl) (Bors.cons (Bor.sl (fun _ => rfl)) (Bors.cons (Bor.sl (fun _ => rfl)) (Bors.cons (Bor.sl (fun _ => rfl)) Bors.nil))))) Bors.nil) rfl rfl (i_ValidSparse_ok a0 a1 a2 a3 r1 hf1)) hc2) <|
    (TR.l (r := b true) rfl rfl (LOp.move rfl rfl) <|
    (TR.l (r := sl a4.length (a4.map f32)) rfl rfl (LOp.move rfl rfl) <|
    (TR.d (r := b false) (fs := []) rfl rfl (TOp.eqb (TOp.callB (CallAs.func ent121 rfl rfl) (Bors.cons (Bor.sl (fun _ => rfl)) Bors.nil) rfl rfl (i_IsVector_ok a4 r2 hf3)) hc4) <|
    (TR.l (r := b false) rfl rfl (LOp.pick_true rfl rfl rfl) <|
    (TR.l (r := b false) rfl rfl (LOp.move rfl rfl) <|
    (TR.s rfl rfl <|
    (TR.s rfl rfl <|
    (TR.s rfl rfl <|
    (TR.s rfl rfl <|
    (TR.s rfl rfl <|
    (TR.l (r := b false) rfl rfl (LOp.pick_false rfl rfl rfl) <|
    (TR.l (r := b false) rfl rfl (LOp.assign rfl rfl) <|
    TR.nil)))))))))))))) rfl (by kernel_rfl) rfl fills_nil rfl ?_
   iterate 14 refine ROps.dropS ?_
   refine ROps.drop0 ?_
   refine zN ?_
   refine RunC.ret ?_
   have hq := Option.some.inj h
   subst q0
   exact bodyQ.pure (.inr rfl) rfl (Res.one rfl (RV.tmp rfl))
 ·refine RunC.region_draw (Γ' := []) 14 mixed 
   (TR.l (r := agg [i64 a0, sl a1.length (a1.map i64), sl a2.length (a2.map i64), sl a3.length (a3.map f32)]) rfl rfl (LOp.loadAgg agg30 siz30 rfl rfl rfl rfl) <|
   (TR.d (r := b false) (fs := []) rfl rfl (TOp.eqb (TOp.callB (CallAs.func ent120 rfl rfl) (Bors.cons (Bor.agg (Bors.cons (Bor.pure rfl) (Bors.cons (Bor.sl (fun _ => rfl)) (Bors.cons (Bor.sl (fun _ => rfl)) (Bors.cons (Bor.sl (fun _ => rfl)) Bors.nil))))) Bors.nil) rfl rfl (i_ValidSparse_ok a0 a1 a2 a3 r1 hf1)) hc2) <|
   (TR.l (r := b false) rfl rfl (LOp.move rfl rfl) <|
   (TR.s rfl rfl <|
   (TR.s rfl rfl <|
   (TR.l (r := b false) rfl rfl (LOp.pick_false rfl rfl rfl) <|
   (TR.l (r := b false) rfl rfl (LOp.move rfl rfl) <|
   (TR.s rfl rfl <|
   (TR.s rfl rfl <|
   (TR.s rfl rfl <|
   (TR.s rfl rfl <|
   (TR.s rfl rfl <|
   (TR.l (r := b false) rfl rfl (LOp.pick_false rfl rfl rfl) <|
   (TR.l (r := b false) rfl rfl (LOp.assign rfl rfl) <|
   TR.nil)))))))))))))) rfl (by kernel_rfl) rfl fills_nil rfl ?_
  iterate 14 refine ROps.dropS ?_
  refine ROps.drop0 ?_
  refine zN ?_
  refine RunC.ret ?_
  have hq := Option.some.inj h
  subst q0
  exact bodyQ.pure (.inr rfl) rfl (Res.one rfl (RV.tmp rfl))
noncomputable def x_slices_Clone_float32_float32 (a0 : List F) : Option ((List F)) :=
 need (apok 4 0 a0.length) <|
 some (([] : List F) ++ a0)
theorem x_slices_Clone_float32_float32_ok (a0 : List F) (q0 : List F) (h : x_slices_Clone_float32_float32 a0 = some q0) : Ev Try.prog 37 [sl a0.length (a0.map f32)] [] (oref 0 0 0 q0.length) [⟨0, some (q0.map f32)⟩] := by
 refine Ev.start Try.func37 rfl rfl 1 (τ := [(0, sl a0.length (a0.map f32))]) rfl (Γ' := [⟨0, none⟩]) rfl (n := 17) rfl (g := 0) rfl (fun _ => rfl) ?_
 unfold x_slices_Clone_float32_float32 at h
 refine zQ ?_
 refine zA (r := nilsl) rfl rfl rfl rfl rfl ?_
 refine zN ?_
 refine RunC.seq ?_
 refine zQ ?_
 refine zM (r := sl a0.length (a0.map f32)) rfl rfl rfl rfl rfl ?_
 refine ROps.eqnil rfl pun23 rfl rfl rfl rfl rfl ?_ ?_
 ·intro hnil1
  refine zN ?_
  refine RunC.cond_true rfl rfl ?_
  refine zQ ?_
  refine zA (r := nilsl) rfl rfl rfl rfl rfl ?_
  refine zN ?_
  refine RunC.nil_slot (Γ' := [⟨1, some (([] : List F).map f32)⟩]) 2 0 rfl rfl rfl ?_
  refine RunC.ret ?_
  have hnl := List.map_eq_nil_iff.1 hnil1
  have hq : some ([] : List F) = some q0 := by
   rw [← h]; subst hnl; simp [need, apok]
  have hq := Option.some.inj hq
  subst q0
  exact bodyQ.mk (r' := oref 0 1 0 (([] : List F).length)) [(0, 1)] (.inr rfl) rfl (show List.Nodup [0] from by decide) rfl rfl (Res.eq (Res.one rfl (RV.tmp rfl)) (by rw [(show ([] : List F).length = 0 from rfl)] <;> rfl)) (SelL.arr0 (f := f32) (fun _ => rfl) rfl trivial)
 ·refine zN ?_
  refine RunC.cond_false rfl rfl ?_
  refine RunC.skip ?_
  refine RunC.seq ?_
  obtain ⟨hm2, h⟩ := need_some h
  refine RunC.regionW ?_
  refine ROps.d (r := oref 0 1 0 0) (fs := [(0, (([] : List F).map f32))]) (Γ' := [⟨1, some (([] : List F).map f32)⟩]) rfl rfl rfl (TOp.buildSlice_o (g := ⟨0, none⟩) (za := f32 (some 0)) (qs := []) 0 rfl und23 siz26 zer26 rfl zel26 rfl rfl trivial rfl) rfl ?_
  refine zM (r := sl a0.length (a0.map f32)) rfl rfl rfl rfl rfl ?_
  refine ROps.app (f := f32) (xs := ([] : List F)) (ys := a0) (Γ' := [⟨2, some ((([] : List F) ++ a0).map f32)⟩]) rfl pun23 inf26 rfl rfl rfl rfl rfl rfl rfl rfl rfl (by simp) (ReadAs.sl (by simp)) (ones_map (fun _ => rfl)) (ap_by hm2) (ap_mx hm2) rfl ?_
  refine zA (r := oref 0 2 0 (0 + a0.length)) rfl rfl rfl rfl rfl ?_
  refine zN ?_
  refine RunC.ret ?_
  have hq := Option.some.inj h
  subst q0
  exact bodyQ.mk (r' := oref 0 2 0 ((([] : List F) ++ a0).length)) [(0, 2)] (.inr rfl) rfl (show List.Nodup [0] from by decide) rfl rfl (Res.eq (Res.one rfl (RV.tmp rfl)) (by rw [(show (([] : List F) ++ a0).length = (0 + a0.length) from (app_len rfl rfl))] <;> rfl)) (SelL.arr0 (f := f32) (fun _ => rfl) rfl trivial)
noncomputable def i_isLowerRoot_b1 (a0 : Int) (a1 : List Int) (a2 : List Int) (a3 : List F) (v2 : Int) : Option (LR (Int) (Unit) (Bool)) :=
 bsel (decide (v2 < a0)) (
  olet (IntKind.i64.wrap (v2 + 1)) fun (x3 : Int) =>
  obind (at? a1 x3) fun (e4 : Int) =>
  olet (IntKind.i64.wrap (e4 - 1)) fun (x5 : Int) =>
  obind (at? a1 v2) fun (e6 : Int) =>
  bsel (decide (x5 < e6)) (
   some (LR.ret false)) (
   obind (at? a2 x5) fun (e7 : Int) =>
   bsel (!decide (e7 = v2)) (
    some (LR.ret false)) (
    obind (at? a3 x5) fun (e8 : F) =>
    bsel (fle .f32 e8 (some 0)) (
     some (LR.ret false)) (
     olet (IntKind.i64.wrap (v2 + 1)) fun (x9 : Int) =>
     some (LR.next x9))))) (
  some (LR.out ()))
noncomputable def i_isLowerRoot_s1 (a0 : Int) (a1 : List Int) (a2 : List Int) (a3 : List F) : (Int) → Option (LR (Int) (Unit) (Bool)) := fun s => i_isLowerRoot_b1 a0 a1 a2 a3 s
noncomputable def i_isLowerRoot_k1  : Option (Bool) :=
 some true
noncomputable def i_isLowerRoot (a0 : Int) (a1 : List Int) (a2 : List Int) (a3 : List F) : Option (Bool) :=
 obind (i_ValidSparse a0 a1 a2 a3) fun (r1 : Bool) =>
 bsel r1 (
  obind (loopM (i_isLowerRoot_s1 a0 a1 a2 a3) 0) fun z => osum z (fun _ => i_isLowerRoot_k1) (fun r => some r)) (
  some false)
theorem i_isLowerRoot_ok (a0 : Int) (a1 : List Int) (a2 : List Int) (a3 : List F) (q0 : Bool) (h : i_isLowerRoot a0 a1 a2 a3 = some q0) : Ev Try.prog 93 [agg [i64 a0, sl a1.length (a1.map i64), sl a2.length (a2.map i64), sl a3.length (a3.map f32)]] [] (b q0) [] := by
 refine Ev.start Try.func93 rfl rfl 0 (τ := [(0, agg [i64 a0, sl a1.length (a1.map i64), sl a2.length (a2.map i64), sl a3.length (a3.map f32)])]) rfl (Γ' := []) rfl (n := 91) rfl (g := 0) rfl (fun _ => rfl) ?_
 unfold i_isLowerRoot at h
 refine zQ ?_
 refine ROps.d (r := ptr [i64 a0, sl a1.length (a1.map i64), sl a2.length (a2.map i64), sl a3.length (a3.map f32)]) (fs := []) (Γ' := []) rfl rfl rfl (TOp.box_s rfl rfl rfl) rfl ?_
 refine zA (r := b false) rfl rfl rfl rfl rfl ?_
 refine zN ?_
 refine RunC.seq ?_
 refine RunC.seq ?_
 obtain ⟨r1, hf1, h⟩ := obind_some h
 rcases bsel_some h with ⟨hc2, h⟩ | ⟨hc2, h⟩
 ·refine RunC.regionW ?_
  refine zL (r := agg [i64 a0, sl a1.length (a1.map i64), sl a2.length (a2.map i64), sl a3.length (a3.map f32)]) rfl rfl rfl (LOp.loadAgg agg30 siz30 rfl rfl rfl rfl) ?_
  refine ROps.d (r := b true) (fs := []) (Γ' := []) rfl rfl rfl (TOp.eqb (TOp.callB (CallAs.func ent120 rfl rfl) (Bors.cons (Bor.agg (Bors.cons (Bor.pure rfl) (Bors.cons (Bor.sl (fun _ => rfl)) (Bors.cons (Bor.sl (fun _ => rfl)) (Bors.cons (Bor.sl (fun _ => rfl)) Bors.nil))))) Bors.nil) rfl rfl (i_ValidSparse_ok a0 a1 a2 a3 r1 hf1)) hc2) rfl ?_
  refine zL (r := b false) rfl rfl rfl (LOp.eqb (LOp.not rfl rfl) rfl) ?_
  refine zN ?_
  refine RunC.cond_false rfl rfl ?_
  refine RunC.skip ?_
  refine RunC.seq ?_
  refine zQ ?_
  refine zL (r := ptr [i64 a0, sl a1.length (a1.map i64), sl a2.length (a2.map i64), sl a3.length (a3.map f32)]) rfl rfl rfl (LOp.fap und30 rfl siz2 rfl rfl rfl) ?_
  refine zL (r := i64 a0) rfl rfl rfl (LOp.load1 agg2 rfl rfl) ?_
  refine zM (r := i64 0) rfl rfl rfl rfl rfl ?_
  refine zN ?_
  obtain ⟨z2, hz_2, h⟩ := obind_some h
  refine RunC.cutN (fun τ Γ => WeakLe τ [] ∧ DeadLe Γ [] ∧ z2 = .inl ()) ?_ ?_
  ·refine RunC.block (RunC.loop (RunL.loopM (x := z2) (i_isLowerRoot_s1 a0 a1 a2 a3) (fun (s : Int) τ Γ => WeakLe τ [(1, ptr [i64 a0, sl a1.length (a1.map i64), sl a2.length (a2.map i64), sl a3.length (a3.map f32)]), (9, i64 a0), (10, i64 s)] ∧ DeadLe Γ []) ?_ _ _ _ hz_2 ⟨⟨aR, aR, aR, trivial⟩, trivial⟩))
   rintro v2 τ2 Γ2 y2_ ⟨hw2, hd2⟩ h2_ ho2 hr2
   refine RunC.wl (τ' := [(1, ptr [i64 a0, sl a1.length (a1.map i64), sl a2.length (a2.map i64), sl a3.length (a3.map f32)]), (9, i64 a0), (10, i64 v2)]) (Γ' := []) hw2 hd2 ?_
   replace h2_ : i_isLowerRoot_b1 a0 a1 a2 a3 v2 = some y2_ := h2_
   unfold i_isLowerRoot_b1 at h2_
   refine RunC.seq ?_
   rcases bsel_some h2_ with ⟨hc3, h2_⟩ | ⟨hc3, h2_⟩
   ·refine RunC.regionW ?_
    refine zL (r := b true) rfl rfl rfl (LOp.eqb (LOp.lss rfl rfl rfl) hc3) ?_
    refine zN ?_
    refine RunC.seq ?_
    refine RunC.cond_true rfl rfl ?_
    refine RunC.skip ?_
    refine RunC.seq ?_
    refine RunC.block ?_
    refine zQ ?_
    refine zM (r := i64 v2) rfl rfl rfl rfl rfl ?_
    refine zA (r := i64 v2) rfl rfl rfl rfl rfl ?_
    refine zN ?_
    refine RunC.seq ?_
    obtain ⟨x3, hx4, h2_⟩ := olet_some h2_
    obtain ⟨e4, he5, h2_⟩ := obind_some h2_
    obtain ⟨x5, hx6, h2_⟩ := olet_some h2_
    refine RunC.regionW ?_
    refine zL (r := ptr [sl a1.length (a1.map i64), sl a2.length (a2.map i64), sl a3.length (a3.map f32)]) rfl rfl rfl (LOp.fap und30 rfl siz22 rfl rfl rfl) ?_
    refine zL (r := sl a1.length (a1.map i64)) rfl rfl rfl (LOp.load1 agg22 rfl rfl) ?_
    refine zM (r := i64 v2) rfl rfl rfl rfl rfl ?_
    refine zL (r := i64 x3) rfl rfl rfl (LOp.eqr (LOp.add rfl rfl rfl) (congrArg (ik .i64) hx4)) ?_
    refine zL (r := ptr [i64 e4]) rfl rfl rfl (LOp.le (LOp.ix (f := i64) und22 siz2 rfl rfl rfl rfl he5) ALe.ptr) ?_
    refine zL (r := i64 e4) rfl rfl rfl (LOp.load1 agg2 rfl rfl) ?_
    refine zL (r := i64 x5) rfl rfl rfl (LOp.eqr (LOp.sub rfl rfl rfl) (congrArg (ik .i64) hx6)) ?_
    refine zA (r := i64 x5) rfl rfl rfl rfl rfl ?_
    refine zN ?_
    refine RunC.seq ?_
    obtain ⟨e6, he7, h2_⟩ := obind_some h2_
    rcases bsel_some h2_ with ⟨hc8, h2_⟩ | ⟨hc8, h2_⟩
    ·refine RunC.regionW ?_
     refine zM (r := i64 x5) rfl rfl rfl rfl rfl ?_
     refine zL (r := ptr [sl a1.length (a1.map i64), sl a2.length (a2.map i64), sl a3.length (a3.map f32)]) rfl rfl rfl (LOp.fap und30 rfl siz22 rfl rfl rfl) ?_
     refine zL (r := sl a1.length (a1.map i64)) rfl rfl rfl (LOp.load1 agg22 rfl rfl) ?_
     refine zM (r := i64 v2) rfl rfl rfl rfl rfl ?_
     refine zL (r := ptr [i64 e6]) rfl rfl rfl (LOp.le (LOp.ix (f := i64) und22 siz2 rfl rfl rfl rfl he7) ALe.ptr) ?_
     refine zL (r := i64 e6) rfl rfl rfl (LOp.load1 agg2 rfl rfl) ?_
     refine zL (r := b true) rfl rfl rfl (LOp.eqb (LOp.lss rfl rfl rfl) hc8) ?_
     refine zM (r := b true) rfl rfl rfl rfl rfl ?_
     refine ROps.s rfl rfl rfl ?_
     refine ROps.s rfl rfl rfl ?_
     refine ROps.s rfl rfl rfl ?_
     refine ROps.s rfl rfl rfl ?_
     refine ROps.s rfl rfl rfl ?_
     refine ROps.s rfl rfl rfl ?_
     refine ROps.s rfl rfl rfl ?_
     refine zL (r := b true) rfl rfl rfl (LOp.pick_true rfl rfl rfl) ?_
     refine zM (r := b true) rfl rfl rfl rfl rfl ?_
     refine ROps.s rfl rfl rfl ?_
     refine ROps.s rfl rfl rfl ?_
     refine ROps.s rfl rfl rfl ?_
     refine ROps.s rfl rfl rfl ?_
     refine ROps.s rfl rfl rfl ?_
     refine ROps.s rfl rfl rfl ?_
     refine zL (r := b true) rfl rfl rfl (LOp.pick_true rfl rfl rfl) ?_
     refine zN ?_
     refine RunC.wl (τ' := [(1, ptr [i64 a0, sl a1.length (a1.map i64), sl a2.length (a2.map i64), sl a3.length (a3.map f32)]), (9, i64 a0), (10, i64 v2), (43, b true)]) (Γ' := []) ⟨aR, aR, aR, aR, trivial⟩ trivial ?_
     refine RunC.cond_true rfl rfl ?_
     refine zQ ?_
     refine zA (r := b false) rfl rfl rfl rfl rfl ?_
     refine zN ?_
     refine RunC.ret ?_
     cases Option.some.inj h2_
     have hx3_ := hr2 _ rfl
     subst hx3_
     have hq := Option.some.inj h
     subst q0
     exact bodyQ.pure (.inr rfl) rfl (Res.one rfl (RV.tmp rfl))
    ·obtain ⟨e7, he9, h2_⟩ := obind_some h2_
     rcases bsel_some h2_ with ⟨hc10, h2_⟩ | ⟨hc10, h2_⟩
     ·refine RunC.regionW ?_
      refine zM (r := i64 x5) rfl rfl rfl rfl rfl ?_
      refine zL (r := ptr [sl a1.length (a1.map i64), sl a2.length (a2.map i64), sl a3.length (a3.map f32)]) rfl rfl rfl (LOp.fap und30 rfl siz22 rfl rfl rfl) ?_
      refine zL (r := sl a1.length (a1.map i64)) rfl rfl rfl (LOp.load1 agg22 rfl rfl) ?_
      refine zM (r := i64 v2) rfl rfl rfl rfl rfl ?_
      refine zL (r := ptr [i64 e6]) rfl rfl rfl (LOp.le (LOp.ix (f := i64) und22 siz2 rfl rfl rfl rfl he7) ALe.ptr) ?_
      refine zL (r := i64 e6) rfl rfl rfl (LOp.load1 agg2 rfl rfl) ?_
      refine zL (r := b false) rfl rfl rfl (LOp.eqb (LOp.lss rfl rfl rfl) hc8) ?_
      refine zM (r := b false) rfl rfl rfl rfl rfl ?_
      refine zL (r := ptr [sl a2.length (a2.map i64), sl a3.length (a3.map f32)]) rfl rfl rfl (LOp.fap und30 rfl siz22 rfl rfl rfl) ?_
      refine zL (r := sl a2.length (a2.map i64)) rfl rfl rfl (LOp.load1 agg22 rfl rfl) ?_
      refine zM (r := i64 x5) rfl rfl rfl rfl rfl ?_
      refine zL (r := ptr [i64 e7]) rfl rfl rfl (LOp.le (LOp.ix (f := i64) und22 siz2 rfl rfl rfl rfl he9) ALe.ptr) ?_
      refine zL (r := i64 e7) rfl rfl rfl (LOp.load1 agg2 rfl rfl) ?_
      refine zM (r := i64 v2) rfl rfl rfl rfl rfl ?_
      refine zL (r := b true) rfl rfl rfl (LOp.eqb (LOp.neq rfl rfl rfl) hc10) ?_
      refine zL (r := b true) rfl rfl rfl (LOp.pick_false rfl rfl rfl) ?_
      refine zM (r := b true) rfl rfl rfl rfl rfl ?_
      refine ROps.s rfl rfl rfl ?_
      refine ROps.s rfl rfl rfl ?_
      refine ROps.s rfl rfl rfl ?_
      refine ROps.s rfl rfl rfl ?_
      refine ROps.s rfl rfl rfl ?_
      refine ROps.s rfl rfl rfl ?_
      refine zL (r := b true) rfl rfl rfl (LOp.pick_true rfl rfl rfl) ?_
      refine zN ?_
      refine RunC.wl (τ' := [(1, ptr [i64 a0, sl a1.length (a1.map i64), sl a2.length (a2.map i64), sl a3.length (a3.map f32)]), (9, i64 a0), (10, i64 v2), (28, ptr [sl a2.length (a2.map i64), sl a3.length (a3.map f32)]), (29, sl a2.length (a2.map i64)), (30, i64 x5), (31, ptr [i64 e7]), (32, i64 e7), (33, i64 v2), (34, b true), (43, b true)]) (Γ' := []) ⟨aR, aR, aR, aR, aR, aR, aR, aR, aR, aR, aR, trivial⟩ trivial ?_
      refine RunC.cond_true rfl rfl ?_
      refine zQ ?_
      refine zA (r := b false) rfl rfl rfl rfl rfl ?_
      refine zN ?_
      refine RunC.ret ?_
      cases Option.some.inj h2_
      have hx4_ := hr2 _ rfl
      subst hx4_
      have hq := Option.some.inj h
      subst q0
      exact bodyQ.pure (.inr rfl) rfl (Res.one rfl (RV.tmp rfl))
     ·obtain ⟨e8, he11, h2_⟩ := obind_some h2_
      rcases bsel_some h2_ with ⟨hc12, h2_⟩ | ⟨hc12, h2_⟩
      ·refine RunC.regionW ?_
       refine zM (r := i64 x5) rfl rfl rfl rfl rfl ?_
       refine zL (r := ptr [sl a1.length (a1.map i64), sl a2.length (a2.map i64), sl a3.length (a3.map f32)]) rfl rfl rfl (LOp.fap und30 rfl siz22 rfl rfl rfl) ?_
       refine zL (r := sl a1.length (a1.map i64)) rfl rfl rfl (LOp.load1 agg22 rfl rfl) ?_
       refine zM (r := i64 v2) rfl rfl rfl rfl rfl ?_
       refine zL (r := ptr [i64 e6]) rfl rfl rfl (LOp.le (LOp.ix (f := i64) und22 siz2 rfl rfl rfl rfl he7) ALe.ptr) ?_
       refine zL (r := i64 e6) rfl rfl rfl (LOp.load1 agg2 rfl rfl) ?_
       refine zL (r := b false) rfl rfl rfl (LOp.eqb (LOp.lss rfl rfl rfl) hc8) ?_
       refine zM (r := b false) rfl rfl rfl rfl rfl ?_
       refine zL (r := ptr [sl a2.length (a2.map i64), sl a3.length (a3.map f32)]) rfl rfl rfl (LOp.fap und30 rfl siz22 rfl rfl rfl) ?_
       refine zL (r := sl a2.length (a2.map i64)) rfl rfl rfl (LOp.load1 agg22 rfl rfl) ?_
       refine zM (r := i64 x5) rfl rfl rfl rfl rfl ?_
       refine zL (r := ptr [i64 e7]) rfl rfl rfl (LOp.le (LOp.ix (f := i64) und22 siz2 rfl rfl rfl rfl he9) ALe.ptr) ?_
       refine zL (r := i64 e7) rfl rfl rfl (LOp.load1 agg2 rfl rfl) ?_
       refine zM (r := i64 v2) rfl rfl rfl rfl rfl ?_
       refine zL (r := b false) rfl rfl rfl (LOp.eqb (LOp.neq rfl rfl rfl) hc10) ?_
       refine zL (r := b false) rfl rfl rfl (LOp.pick_false rfl rfl rfl) ?_
       refine zM (r := b false) rfl rfl rfl rfl rfl ?_
       refine zL (r := ptr [sl a3.length (a3.map f32)]) rfl rfl rfl (LOp.fap und30 rfl siz23 rfl rfl rfl) ?_
       refine zL (r := sl a3.length (a3.map f32)) rfl rfl rfl (LOp.load1 agg23 rfl rfl) ?_
       refine zM (r := i64 x5) rfl rfl rfl rfl rfl ?_
       refine zL (r := ptr [f32 e8]) rfl rfl rfl (LOp.le (LOp.ix (f := f32) und23 siz26 rfl rfl rfl rfl he11) ALe.ptr) ?_
       refine zL (r := f32 e8) rfl rfl rfl (LOp.load1 agg26 rfl rfl) ?_
       refine zL (r := b true) rfl rfl rfl (LOp.eqb (LOp.fle rfl (OpF.tmp rfl) (OpF.const rfl (by kernel_rfl) (by kernel_rfl))) hc12) ?_
       refine zL (r := b true) rfl rfl rfl (LOp.pick_false rfl rfl rfl) ?_
       refine zN ?_
       refine RunC.wl (τ' := [(1, ptr [i64 a0, sl a1.length (a1.map i64), sl a2.length (a2.map i64), sl a3.length (a3.map f32)]), (9, i64 a0), (10, i64 v2), (28, ptr [sl a2.length (a2.map i64), sl a3.length (a3.map f32)]), (29, sl a2.length (a2.map i64)), (30, i64 x5), (31, ptr [i64 e7]), (32, i64 e7), (33, i64 v2), (34, b false), (37, ptr [sl a3.length (a3.map f32)]), (38, sl a3.length (a3.map f32)), (39, i64 x5), (40, ptr [f32 e8]), (41, f32 e8), (42, b true), (43, b true)]) (Γ' := []) ⟨aR, aR, aR, aR, aR, aR, aR, aR, aR, aR, aR, aR, aR, aR, aR, aR, aR, trivial⟩ trivial ?_
       refine RunC.cond_true rfl rfl ?_
       refine zQ ?_
       refine zA (r := b false) rfl rfl rfl rfl rfl ?_
       refine zN ?_
       refine RunC.ret ?_
       cases Option.some.inj h2_
       have hx5_ := hr2 _ rfl
       subst hx5_
       have hq := Option.some.inj h
       subst q0
       exact bodyQ.pure (.inr rfl) rfl (Res.one rfl (RV.tmp rfl))
      ·refine RunC.regionW ?_
       refine zM (r := i64 x5) rfl rfl rfl rfl rfl ?_
       refine zL (r := ptr [sl a1.length (a1.map i64), sl a2.length (a2.map i64), sl a3.length (a3.map f32)]) rfl rfl rfl (LOp.fap und30 rfl siz22 rfl rfl rfl) ?_
       refine zL (r := sl a1.length (a1.map i64)) rfl rfl rfl (LOp.load1 agg22 rfl rfl) ?_
       refine zM (r := i64 v2) rfl rfl rfl rfl rfl ?_
       refine zL (r := ptr [i64 e6]) rfl rfl rfl (LOp.le (LOp.ix (f := i64) und22 siz2 rfl rfl rfl rfl he7) ALe.ptr) ?_
       refine zL (r := i64 e6) rfl rfl rfl (LOp.load1 agg2 rfl rfl) ?_
       refine zL (r := b false) rfl rfl rfl (LOp.eqb (LOp.lss rfl rfl rfl) hc8) ?_
       refine zM (r := b false) rfl rfl rfl rfl rfl ?_
       refine zL (r := ptr [sl a2.length (a2.map i64), sl a3.length (a3.map f32)]) rfl rfl rfl (LOp.fap und30 rfl siz22 rfl rfl rfl) ?_
       refine zL (r := sl a2.length (a2.map i64)) rfl rfl rfl (LOp.load1 agg22 rfl rfl) ?_
       refine zM (r := i64 x5) rfl rfl rfl rfl rfl ?_
       refine zL (r := ptr [i64 e7]) rfl rfl rfl (LOp.le (LOp.ix (f := i64) und22 siz2 rfl rfl rfl rfl he9) ALe.ptr) ?_
       refine zL (r := i64 e7) rfl rfl rfl (LOp.load1 agg2 rfl rfl) ?_
       refine zM (r := i64 v2) rfl rfl rfl rfl rfl ?_
       refine zL (r := b false) rfl rfl rfl (LOp.eqb (LOp.neq rfl rfl rfl) hc10) ?_
       refine zL (r := b false) rfl rfl rfl (LOp.pick_false rfl rfl rfl) ?_
       refine zM (r := b false) rfl rfl rfl rfl rfl ?_
       refine zL (r := ptr [sl a3.length (a3.map f32)]) rfl rfl rfl (LOp.fap und30 rfl siz23 rfl rfl rfl) ?_
       refine zL (r := sl a3.length (a3.map f32)) rfl rfl rfl (LOp.load1 agg23 rfl rfl) ?_
       refine zM (r := i64 x5) rfl rfl rfl rfl rfl ?_
       refine zL (r := ptr [f32 e8]) rfl rfl rfl (LOp.le (LOp.ix (f := f32) und23 siz26 rfl rfl rfl rfl he11) ALe.ptr) ?_
       refine zL (r := f32 e8) rfl rfl rfl (LOp.load1 agg26 rfl rfl) ?_
       refine zL (r := b false) rfl rfl rfl (LOp.eqb (LOp.fle rfl (OpF.tmp rfl) (OpF.const rfl (by kernel_rfl) (by kernel_rfl))) hc12) ?_
       refine zL (r := b false) rfl rfl rfl (LOp.pick_false rfl rfl rfl) ?_
       refine zN ?_
       refine RunC.wl (τ' := [(1, ptr [i64 a0, sl a1.length (a1.map i64), sl a2.length (a2.map i64), sl a3.length (a3.map f32)]), (9, i64 a0), (10, i64 v2), (28, ptr [sl a2.length (a2.map i64), sl a3.length (a3.map f32)]), (29, sl a2.length (a2.map i64)), (30, i64 x5), (31, ptr [i64 e7]), (32, i64 e7), (33, i64 v2), (34, b false), (37, ptr [sl a3.length (a3.map f32)]), (38, sl a3.length (a3.map f32)), (39, i64 x5), (40, ptr [f32 e8]), (41, f32 e8), (42, b false), (43, b false)]) (Γ' := []) ⟨aR, aR, aR, aR, aR, aR, aR, aR, aR, aR, aR, aR, aR, aR, aR, aR, aR, trivial⟩ trivial ?_
       refine RunC.cond_false rfl rfl ?_
       refine RunC.skip ?_
       obtain ⟨x9, hx13, h2_⟩ := olet_some h2_
       refine RunC.regionW ?_
       refine zL (r := i64 x9) rfl rfl rfl (LOp.eqr (LOp.add rfl rfl rfl) (congrArg (ik .i64) hx13)) ?_
       refine zM (r := i64 x9) rfl rfl rfl rfl rfl ?_
       refine zN ?_
       cases Option.some.inj h2_
       exact ⟨_, rfl, ⟨aR, aR, aR, trivial⟩, trivial⟩
   ·refine RunC.regionW ?_
    refine zL (r := b false) rfl rfl rfl (LOp.eqb (LOp.lss rfl rfl rfl) hc3) ?_
    refine zN ?_
    refine RunC.seq ?_
    refine RunC.cond_false rfl rfl ?_
    refine RunC.exit ?_
    cases Option.some.inj h2_
    have hx := ho2 _ rfl
    exact ⟨trivial, trivial, hx⟩
  ·rintro τ6 Γ6 ⟨hw6, hd6, rfl⟩
   refine RunC.wl hw6 hd6 ?_
   replace h : i_isLowerRoot_k1 = some q0 := h
   unfold i_isLowerRoot_k1 at h
   refine zQ ?_
   refine zA (r := b true) rfl rfl rfl rfl rfl ?_
   refine zN ?_
   refine RunC.ret ?_
   have hq := Option.some.inj h
   subst q0
   exact bodyQ.pure (.inr rfl) rfl (Res.one rfl (RV.tmp rfl))
 ·refine RunC.regionW ?_
  refine zL (r := agg [i64 a0, sl a1.length (a1.map i64), sl a2.length (a2.map i64), sl a3.length (a3.map f32)]) rfl rfl rfl (LOp.loadAgg agg30 siz30 rfl rfl rfl rfl) ?_
  refine ROps.d (r := b false) (fs := []) (Γ' := []) rfl rfl rfl (TOp.eqb (TOp.callB (CallAs.func ent120 rfl rfl) (Bors.cons (Bor.agg (Bors.cons (Bor.pure rfl) (Bors.cons (Bor.sl (fun _ => rfl)) (Bors.cons (Bor.sl (fun _ => rfl)) (Bors.cons (Bor.sl (fun _ => rfl)) Bors.nil))))) Bors.nil) rfl rfl (i_ValidSparse_ok a0 a1 a2 a3 r1 hf1)) hc2) rfl ?_
  refine zL (r := b true) rfl rfl rfl (LOp.eqb (LOp.not rfl rfl) rfl) ?_
  refine zN ?_
  refine RunC.cond_true rfl rfl ?_
  refine zQ ?_
  refine zA (r := b false) rfl rfl rfl rfl rfl ?_
  refine zN ?_
  refine RunC.ret ?_
  have hq := Option.some.inj h
  subst q0
  exact bodyQ.pure (.inr rfl) rfl (Res.one rfl (RV.tmp rfl))
noncomputable def i_mul (a0 : F) (a1 : F) : Option (F) :=
 olet (fop .mul .f32 a0 a1) fun (x1 : F) =>
 some x1
theorem i_mul_ok (a0 : F) (a1 : F) (q0 : F) (h : i_mul a0 a1 = some q0) : Ev Try.prog 92 [f32 a0, f32 a1] [] (f32 q0) [] := by
 refine Ev.start Try.func92 rfl rfl 0 (τ := [(0, f32 a0), (1, f32 a1)]) rfl (Γ' := []) rfl (n := 17) rfl (g := 0) rfl (fun _ => rfl) ?_
 unfold i_mul at h
 refine zQ ?_
 refine zL (r := f32 (some 0)) rfl rfl rfl (LOp.le (LOp.assign rfl rfl) (ALe.fl (by kernel_rfl) (by kernel_rfl))) ?_
 refine zN ?_
 refine RunC.seq ?_
 obtain ⟨x1, hx1, h⟩ := olet_some h
 refine RunC.regionW ?_
 refine zM (r := f32 a0) rfl rfl rfl rfl rfl ?_
 refine zM (r := f32 a1) rfl rfl rfl rfl rfl ?_
 refine ROps.d (r := f32 x1) (fs := []) (Γ' := []) rfl rfl rfl (TOp.eqr (TOp.fop (.inr (.inr (.inl rfl))) rfl (OpF.tmp rfl) (OpF.tmp rfl)) (congrArg (f .f32) hx1)) rfl ?_
 refine zA (r := f32 x1) rfl rfl rfl rfl rfl ?_
 refine zN ?_
 refine RunC.ret ?_
 have hq := Option.some.inj h
 subst q0
 exact bodyQ.pure (.inr rfl) rfl (Res.one rfl (RV.tmp rfl))
noncomputable def i_SparseRootSolve_2_2p0_3p1_C0_C10o2 (a0 : Int) (a1 : F) (a2 : Int) (a3 : List F) : Option ((List F)) :=
 bsel (decide (a0 < a2)) (
  obind (at? a3 a2) fun (e1 : F) =>
  obind (at? a3 a0) fun (e2 : F) =>
  obind (i_mul a1 e2) fun (r3 : F) =>
  olet (fop .sub .f32 e1 r3) fun (x4 : F) =>
  obind (setAt? a3 a2 x4) fun (L5 : List F) =>
  some L5) (
  some a3)
theorem i_SparseRootSolve_2_2p0_3p1_C0_C10o2_ok (a0 : Int) (a1 : F) (a2 : Int) (a3 : List F) (q0 : List F) (h : i_SparseRootSolve_2_2p0_3p1_C0_C10o2 a0 a1 a2 a3 = some q0) : Ev Try.prog 96 [i64 a0, f32 a1, optr 0 0 0, optr 1 0 0] [⟨0, some [i64 a2]⟩, ⟨0, some [oref 2 0 0 a3.length]⟩, ⟨0, some (a3.map f32)⟩] (tup []) [⟨0, some [i64 a2]⟩, ⟨0, some [oref 2 0 0 a3.length]⟩, ⟨0, some (q0.map f32)⟩] := by
 refine Ev.start Try.func96 rfl rfl 0 (τ := [(0, i64 a0), (1, f32 a1), (2, optr 0 0 0), (3, optr 1 0 0)]) rfl (Γ' := [⟨0, some [i64 a2]⟩, ⟨0, some [oref 2 0 0 a3.length]⟩, ⟨0, some (a3.map f32)⟩]) rfl (n := 42) rfl (g := 3) rfl (by decide) ?_
 unfold i_SparseRootSolve_2_2p0_3p1_C0_C10o2 at h
 refine RunC.seq ?_
 rcases bsel_some h with ⟨hc1, h⟩ | ⟨hc1, h⟩
 ·refine RunC.regionW ?_
  refine zM (r := i64 a0) rfl rfl rfl rfl rfl ?_
  refine ROps.d (r := i64 a2) (fs := []) (Γ' := [⟨0, some [i64 a2]⟩, ⟨0, some [oref 2 0 0 a3.length]⟩, ⟨0, some (a3.map f32)⟩]) rfl rfl rfl (TOp.load1_o rfl rfl agg2 rfl rfl) rfl ?_
  refine zL (r := b true) rfl rfl rfl (LOp.eqb (LOp.lss rfl rfl rfl) hc1) ?_
  refine zN ?_
  refine RunC.cond_true rfl rfl ?_
  obtain ⟨e1, he2, h⟩ := obind_some h
  obtain ⟨e2, he3, h⟩ := obind_some h
  obtain ⟨r3, hf4, h⟩ := obind_some h
  obtain ⟨x4, hx5, h⟩ := olet_some h
  obtain ⟨L5, he6, h⟩ := obind_some h
  refine RunC.region_draw (Γ' := [⟨0, some [i64 a2]⟩, ⟨0, some [oref 2 0 0 a3.length]⟩, ⟨0, some (a3.map f32)⟩]) 12 mixed 
   (TR.d (r := oref 2 0 0 a3.length) (fs := []) rfl rfl (TOp.load1_o rfl rfl agg23 rfl rfl) <|
   (TR.d (r := i64 a2) (fs := []) rfl rfl (TOp.load1_o rfl rfl agg2 rfl rfl) <|
   (TR.d (r := optr 2 0 a2.toNat) (fs := []) rfl rfl (TOp.ixo und23 siz26 rfl rfl rfl (at_in he2 rfl) rfl) <|
   (TR.d (r := f32 e1) (fs := []) rfl rfl (TOp.load1_o rfl (at_cell he2) agg26 rfl rfl) <|
   (TR.l (r := f32 a1) rfl rfl (LOp.move rfl rfl) <|
   (TR.d (r := oref 2 0 0 a3.length) (fs := []) rfl rfl (TOp.load1_o rfl rfl agg23 rfl rfl) <|
   (TR.l (r := i64 a0) rfl rfl (LOp.move rfl rfl) <|
   (TR.d (r := optr 2 0 a0.toNat) (fs := []) rfl rfl (TOp.ixo und23 siz26 rfl rfl rfl (at_in he3 rfl) rfl) <|
   (TR.d (r := f32 e2) (fs := []) rfl rfl (TOp.load1_o rfl (at_cell he3) agg26 rfl rfl) <|
   (TR.d (r := f32 r3) (fs := []) rfl rfl (TOp.callB (CallAs.func ent92 rfl rfl) (Bors.cons (Bor.pure rfl) (Bors.cons (Bor.pure rfl) Bors.nil)) rfl rfl (i_mul_ok a1 e2 r3 hf4)) <|
   (TR.d (r := f32 x4) (fs := []) rfl rfl (TOp.eqr (TOp.fop (.inr (.inl rfl)) rfl (OpF.tmp rfl) (OpF.tmp rfl)) (congrArg (f .f32) hx5)) <|
   (TR.d (r := optr 2 0 a2.toNat) (fs := []) rfl rfl (TOp.ixo und23 siz26 rfl rfl rfl (set_in he6 rfl) rfl) <|
   TR.nil)))))))))))) rfl (by kernel_rfl) rfl fills_nil rfl ?_
  iterate 12 refine ROps.dropS ?_
  refine ROps.drop0 ?_
  refine ROps.st (f := f32) (i := a2) (Γ' := [⟨0, some [i64 a2]⟩, ⟨0, some [oref 2 0 0 a3.length]⟩, ⟨0, some (L5.map f32)⟩]) rfl siz26 rfl rfl rfl aR rfl rfl rfl he6 rfl ?_
  refine zN ?_
  have hq := Option.some.inj h
  subst q0
  exact bodyQ.mk (r' := tup []) [(0, 0), (1, 0), (2, 0)] (.inl rfl) rfl (show List.Nodup [0, 1, 2] from by decide) rfl rfl (Res.zero rfl) (SelL.cells rfl (by first | rfl | simp [ren, rens, sigma, rens_f32, rens_f64, rens_i64, rens_ik, rens_str, rens_cp]) rfl (SelL.cells rfl (by first | rfl | simp [ren, rens, sigma, rens_f32, rens_f64, rens_i64, rens_ik, rens_str, rens_cp]) rfl (SelL.arr (f := f32) (fun _ => rfl) rfl trivial)))
 ·refine RunC.regionW ?_
  refine zM (r := i64 a0) rfl rfl rfl rfl rfl ?_
  refine ROps.d (r := i64 a2) (fs := []) (Γ' := [⟨0, some [i64 a2]⟩, ⟨0, some [oref 2 0 0 a3.length]⟩, ⟨0, some (a3.map f32)⟩]) rfl rfl rfl (TOp.load1_o rfl rfl agg2 rfl rfl) rfl ?_
  refine zL (r := b false) rfl rfl rfl (LOp.eqb (LOp.lss rfl rfl rfl) hc1) ?_
  refine zN ?_
  refine RunC.cond_false rfl rfl ?_
  refine RunC.skip ?_
  have hq := Option.some.inj h
  subst q0
  exact bodyQ.mk (r' := tup []) [(0, 0), (1, 0), (2, 0)] (.inl rfl) rfl (show List.Nodup [0, 1, 2] from by decide) rfl rfl (Res.zero rfl) (SelL.cells rfl (by first | rfl | simp [ren, rens, sigma, rens_f32, rens_f64, rens_i64, rens_ik, rens_str, rens_cp]) rfl (SelL.cells rfl (by first | rfl | simp [ren, rens, sigma, rens_f32, rens_f64, rens_i64, rens_ik, rens_str, rens_cp]) rfl (SelL.arr (f := f32) (fun _ => rfl) rfl trivial)))
end Go.Proofs.Ytcoookgeialmnaa
