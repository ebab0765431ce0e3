/- Generated. -/
import Derived.Test.YtcoookgeialmnaaGreatG1
namespace Go.Proofs.YtcoookgeialmnaaGreat
open Go Go.AM Go.AM.AV
set_option maxRecDepth 20000
set_option maxHeartbeats 4000000
set_option linter.unusedVariables false
set_option linter.unusedSimpArgs false
noncomputable def i_SideTurns_k12 (v30 : Int) (L46 : List F) (L48 : List F) : Option (LR ((List F) × (List F) × Int) ((List F) × (List F)) (Int × Int × Int × Int × Bool × (List F) × (List F))) :=
 olet (IntKind.i64.wrap (v30 + 1)) fun (x50 : Int) =>
 some (LR.next (L46, L48, x50))
noncomputable def i_SideTurns_b13 (a1 : Int) (r3 : Int) (r4 : Int) (r5 : List F) (r6 : Int) (r7 : Int) (r8 : List F) (v22 : Int) (L26 : List F) (L28 : List F) (v30 : Int) : Option (LR ((List F) × (List F) × Int) ((List F) × (List F)) (Int × Int × Int × Int × Bool × (List F) × (List F))) :=
 bsel (decide (v30 < a1)) (
  obind (i_Matrix_column r3 r4 L26 v22) fun (r31 : List F) =>
  obind (i_Matrix_column r3 r4 L26 v30) fun (r32 : List F) =>
  obind (i_dot r31 r31) fun (r33 : F) =>
  obind (i_dot r32 r32) fun (r34 : F) =>
  obind (i_dot r31 r32) fun (r35 : F) =>
  obind (i_areFinite ([r33, r34, r35] : List F)) fun (r36 : Bool) =>
  bsel r36 (
   bsel (feq .f32 r35 (some 0)) (
    i_SideTurns_k12 v30 L26 L28) (
    olet (fop .sub .f32 r34 r33) fun (x37 : F) =>
    obind (i_mul (some 1073741824) r35) fun (r38 : F) =>
    olet (fop .quo .f32 x37 r38) fun (x39 : F) =>
    obind2 (i_turnFor x39) fun (r40 : F) (r41 : F) =>
    obind (i_Matrix_turnColumns_02o r3 r4 v22 v30 r40 r41 L26) fun (r42 : List F) =>
    need (decide (r42.length = r5.length)) <|
    obind (i_Matrix_turnColumns_02o r6 r7 v22 v30 r40 r41 L28) fun (r43 : List F) =>
    need (decide (r43.length = r8.length)) <|
    obind (i_ValidMatrix r3 r4 r42) fun (r44 : Bool) =>
    bsel r44 (
     obind (i_ValidMatrix r6 r7 r43) fun (r45 : Bool) =>
     bsel r45 (
      i_SideTurns_k12 v30 r42 r43) (
      some (LR.ret (0, 0, 0, 0, false, ([] : List F), ([] : List F))))) (
     some (LR.ret (0, 0, 0, 0, false, ([] : List F), ([] : List F)))))) (
   some (LR.ret (0, 0, 0, 0, false, ([] : List F), ([] : List F))))) (
  some (LR.out (L26, L28)))
noncomputable def i_SideTurns_s13 (a1 : Int) (r3 : Int) (r4 : Int) (r5 : List F) (r6 : Int) (r7 : Int) (r8 : List F) (v22 : Int) : ((List F) × (List F) × Int) → Option (LR ((List F) × (List F) × Int) ((List F) × (List F)) (Int × Int × Int × Int × Bool × (List F) × (List F))) := fun s => i_SideTurns_b13 a1 r3 r4 r5 r6 r7 r8 v22 s.1 s.2.1 s.2.2
noncomputable def i_SideTurns_k13 (v22 : Int) (L53 : List F) (L55 : List F) : Option (LR ((List F) × (List F) × Int) ((List F) × (List F)) (Int × Int × Int × Int × Bool × (List F) × (List F))) :=
 olet (IntKind.i64.wrap (v22 + 1)) fun (x57 : Int) =>
 some (LR.next (L53, L55, x57))
noncomputable def i_SideTurns_b14 (a1 : Int) (r3 : Int) (r4 : Int) (r5 : List F) (r6 : Int) (r7 : Int) (r8 : List F) (L18 : List F) (L20 : List F) (v22 : Int) : Option (LR ((List F) × (List F) × Int) ((List F) × (List F)) (Int × Int × Int × Int × Bool × (List F) × (List F))) :=
 bsel (decide (v22 < a1)) (
  olet (IntKind.i64.wrap (v22 + 1)) fun (x23 : Int) =>
  obind (loopM (i_SideTurns_s13 a1 r3 r4 r5 r6 r7 r8 v22) (L18, L20, x23)) fun z => osum z (fun e => i_SideTurns_k13 v22 e.1 e.2) (fun r => some (LR.ret r))) (
  some (LR.out (L18, L20)))
noncomputable def i_SideTurns_s14 (a1 : Int) (r3 : Int) (r4 : Int) (r5 : List F) (r6 : Int) (r7 : Int) (r8 : List F) : ((List F) × (List F) × Int) → Option (LR ((List F) × (List F) × Int) ((List F) × (List F)) (Int × Int × Int × Int × Bool × (List F) × (List F))) := fun s => i_SideTurns_b14 a1 r3 r4 r5 r6 r7 r8 s.1 s.2.1 s.2.2
noncomputable def i_SideTurns_k14 (v15 : Int) (L60 : List F) (L62 : List F) : Option (LR ((List F) × (List F) × Int) ((List F) × (List F)) (Int × Int × Int × Int × Bool × (List F) × (List F))) :=
 olet (IntKind.i64.wrap (v15 + 1)) fun (x64 : Int) =>
 some (LR.next (L60, L62, x64))
noncomputable def i_SideTurns_b15 (a1 : Int) (a3 : Int) (r3 : Int) (r4 : Int) (r5 : List F) (r6 : Int) (r7 : Int) (r8 : List F) (L11 : List F) (L13 : List F) (v15 : Int) : Option (LR ((List F) × (List F) × Int) ((List F) × (List F)) (Int × Int × Int × Int × Bool × (List F) × (List F))) :=
 bsel (decide (v15 < a3)) (
  obind (loopM (i_SideTurns_s14 a1 r3 r4 r5 r6 r7 r8) (L11, L13, 0)) fun z => osum z (fun e => i_SideTurns_k14 v15 e.1 e.2) (fun r => some (LR.ret r))) (
  some (LR.out (L11, L13)))
noncomputable def i_SideTurns_s15 (a1 : Int) (a3 : Int) (r3 : Int) (r4 : Int) (r5 : List F) (r6 : Int) (r7 : Int) (r8 : List F) : ((List F) × (List F) × Int) → Option (LR ((List F) × (List F) × Int) ((List F) × (List F)) (Int × Int × Int × Int × Bool × (List F) × (List F))) := fun s => i_SideTurns_b15 a1 a3 r3 r4 r5 r6 r7 r8 s.1 s.2.1 s.2.2
noncomputable def i_SideTurns_k15 (r3 : Int) (r4 : Int) (r6 : Int) (r7 : Int) (L67 : List F) (L69 : List F) : Option (Int × Int × Int × Int × Bool × (List F) × (List F)) :=
 some (r3, r4, r6, r7, true, L67, L69)
noncomputable def i_SideTurns (a0 : Int) (a1 : Int) (a2 : List F) (a3 : Int) : Option (Int × Int × Int × Int × Bool × (List F) × (List F)) :=
 obind (i_isTall a0 a1 a2) fun (r1 : Bool) =>
 bsel r1 (
  obind (i_isRounds a3) fun (r2 : Bool) =>
  bsel r2 (
   obind3 (i_Matrix_clone a0 a1 a2) fun (r3 : Int) (r4 : Int) (r5 : List F) =>
   obind3 (i_unit a1) fun (r6 : Int) (r7 : Int) (r8 : List F) =>
   obind (loopM (i_SideTurns_s15 a1 a3 r3 r4 r5 r6 r7 r8) (r5, r8, 0)) fun z => osum z (fun e => i_SideTurns_k15 r3 r4 r6 r7 e.1 e.2) (fun r => some r)) (
   some (0, 0, 0, 0, false, ([] : List F), ([] : List F)))) (
  some (0, 0, 0, 0, false, ([] : List F), ([] : List F)))
theorem i_SideTurns_ok (a0 : Int) (a1 : Int) (a2 : List F) (a3 : Int) (q0 : Int) (q1 : Int) (q2 : Int) (q3 : Int) (q4 : Bool) (q5 : List F) (q6 : List F) (h : i_SideTurns a0 a1 a2 a3 = some (q0, q1, q2, q3, q4, q5, q6)) : Ev Tryz.prog 24 [agg [i64 a0, i64 a1, sl a2.length (a2.map f32)], i64 a3] [] (tup [agg [i64 q0, i64 q1, oref 0 0 0 q5.length], agg [i64 q2, i64 q3, oref 1 0 0 q6.length], b q4]) [⟨0, some (q5.map f32)⟩, ⟨0, some (q6.map f32)⟩] := by
 refine Ev.start Tryz.func24 rfl rfl 8 (τ := [(0, agg [i64 a0, i64 a1, sl a2.length (a2.map f32)]), (1, i64 a3)]) rfl (Γ' := [⟨0, none⟩, ⟨0, none⟩, ⟨0, none⟩, ⟨0, none⟩, ⟨0, none⟩, ⟨0, none⟩, ⟨0, none⟩, ⟨0, none⟩]) rfl (n := 221) rfl (g := 0) rfl (fun _ => rfl) ?_
 unfold i_SideTurns at h
 refine zQ ?_
 refine ROps.d (r := ptr [i64 a0, i64 a1, sl a2.length (a2.map f32)]) (fs := []) (Γ' := [⟨0, none⟩, ⟨0, none⟩, ⟨0, none⟩, ⟨0, none⟩, ⟨0, none⟩, ⟨0, none⟩, ⟨0, none⟩, ⟨0, none⟩]) rfl rfl rfl (TOp.box_s rfl rfl rfl) rfl ?_
 refine ROps.d (r := optr 0 1 0) (fs := [(0, [i64 0, i64 0, nilsl])]) (Γ' := [⟨1, some [i64 0, i64 0, nilsl]⟩, ⟨0, none⟩, ⟨0, none⟩, ⟨0, none⟩, ⟨0, none⟩, ⟨0, none⟩, ⟨0, none⟩, ⟨0, none⟩]) rfl rfl rfl (TOp.alloc_o (g := ⟨0, none⟩) 0 rfl zer26 zok26 rfl) rfl ?_
 refine ROps.d (r := optr 1 1 0) (fs := [(1, [i64 0, i64 0, nilsl])]) (Γ' := [⟨1, some [i64 0, i64 0, nilsl]⟩, ⟨1, some [i64 0, i64 0, nilsl]⟩, ⟨0, none⟩, ⟨0, none⟩, ⟨0, none⟩, ⟨0, none⟩, ⟨0, none⟩, ⟨0, none⟩]) rfl rfl rfl (TOp.alloc_o (g := ⟨0, none⟩) 1 rfl zer26 zok26 rfl) rfl ?_
 refine zA (r := b false) rfl rfl rfl rfl rfl ?_
 refine zN ?_
 refine RunC.seq ?_
 refine RunC.seq ?_
 obtain ⟨r1, hf1, h⟩ := obind_some h
 rcases bsel_some h with ⟨hc2, h⟩ | ⟨hc2, h⟩
 ·obtain ⟨r2, hf3, h⟩ := obind_some h
  rcases bsel_some h with ⟨hc4, h⟩ | ⟨hc4, h⟩
  ·refine RunC.regionW ?_
   refine zL (r := agg [i64 a0, i64 a1, sl a2.length (a2.map f32)]) rfl rfl rfl (LOp.loadAgg agg26 siz26 rfl rfl rfl rfl) ?_
   refine ROps.d (r := b true) (fs := []) (Γ' := [⟨1, some [i64 0, i64 0, nilsl]⟩, ⟨1, some [i64 0, i64 0, nilsl]⟩, ⟨0, none⟩, ⟨0, none⟩, ⟨0, none⟩, ⟨0, none⟩, ⟨0, none⟩, ⟨0, none⟩]) rfl rfl rfl (TOp.eqb (TOp.callB (CallAs.func ent56 rfl rfl) (Bors.cons (Bor.agg (Bors.cons (Bor.pure rfl) (Bors.cons (Bor.pure rfl) (Bors.cons (Bor.sl (fun _ => rfl)) Bors.nil)))) Bors.nil) rfl rfl (i_isTall_ok a0 a1 a2 r1 hf1)) hc2) rfl ?_
   refine zL (r := b false) rfl rfl rfl (LOp.eqb (LOp.not rfl rfl) rfl) ?_
   refine zM (r := b false) rfl rfl rfl rfl rfl ?_
   refine zM (r := i64 a3) rfl rfl rfl rfl rfl ?_
   refine ROps.d (r := b true) (fs := []) (Γ' := [⟨1, some [i64 0, i64 0, nilsl]⟩, ⟨1, some [i64 0, i64 0, nilsl]⟩, ⟨0, none⟩, ⟨0, none⟩, ⟨0, none⟩, ⟨0, none⟩, ⟨0, none⟩, ⟨0, none⟩]) rfl rfl rfl (TOp.eqb (TOp.callB (CallAs.func ent57 rfl rfl) (Bors.cons (Bor.pure rfl) Bors.nil) rfl rfl (i_isRounds_ok a3 r2 hf3)) hc4) rfl ?_
   refine zL (r := b false) rfl rfl rfl (LOp.eqb (LOp.not rfl rfl) rfl) ?_
   refine zL (r := b false) rfl rfl rfl (LOp.pick_false rfl rfl rfl) ?_
   refine zN ?_
   refine RunC.cond_false rfl rfl ?_
   refine RunC.skip ?_
   refine RunC.seq ?_
   obtain ⟨r3, r4, r5, hf5, h⟩ := obind3_some h
   obtain ⟨r6, r7, r8, hf6, h⟩ := obind3_some h
   refine RunC.region_draw (Γ' := [⟨1, some [i64 0, i64 0, nilsl]⟩, ⟨1, some [i64 0, i64 0, nilsl]⟩, ⟨1, some (r5.map f32)⟩, ⟨1, some (r8.map f32)⟩, ⟨1, some [i64 0, i64 0, nilsl]⟩, ⟨1, some [i64 0, i64 0, nilsl]⟩, ⟨0, none⟩, ⟨0, none⟩]) 7 mixed 
    (TR.l (r := agg [i64 a0, i64 a1, sl a2.length (a2.map f32)]) rfl rfl (LOp.loadAgg agg26 siz26 rfl rfl rfl rfl) <|
    (TR.d (r := agg [i64 r3, i64 r4, oref 2 1 0 r5.length]) (fs := [(2, (r5.map f32))]) rfl rfl (TOp.callBN (ls := [(r5.map f32)]) [2] (CallAs.func ent58 rfl rfl) (Bors.cons (Bor.agg (Bors.cons (Bor.pure rfl) (Bors.cons (Bor.pure rfl) (Bors.cons (Bor.sl (fun _ => rfl)) Bors.nil)))) Bors.nil) rfl (i_Matrix_clone_ok a0 a1 a2 r3 r4 r5 hf5) (and_all (lts0_map (f := f32) (fun _ => rfl) _) rfl) (and_all (noss_map (f := f32) (fun _ => rfl) _) rfl) rfl (by decide) (ns_of ⟨⟨_, rfl⟩, trivial⟩)) <|
    (TR.l (r := ptr [i64 a1, sl a2.length (a2.map f32)]) rfl rfl (LOp.fap und26 rfl siz2 rfl rfl rfl) <|
    (TR.l (r := i64 a1) rfl rfl (LOp.load1 agg2 rfl rfl) <|
    (TR.d (r := agg [i64 r6, i64 r7, oref 3 1 0 r8.length]) (fs := [(3, (r8.map f32))]) rfl rfl (TOp.callBN (ls := [(r8.map f32)]) [3] (CallAs.func ent59 rfl rfl) (Bors.cons (Bor.pure rfl) Bors.nil) rfl (i_unit_ok a1 r6 r7 r8 hf6) (and_all (lts0_map (f := f32) (fun _ => rfl) _) rfl) (and_all (noss_map (f := f32) (fun _ => rfl) _) rfl) rfl (by decide) (ns_of ⟨⟨_, rfl⟩, trivial⟩)) <|
    (TR.d (r := optr 4 1 0) (fs := [(4, [i64 0, i64 0, nilsl])]) rfl rfl (TOp.alloc_o (g := ⟨0, none⟩) 4 rfl zer26 zok26 rfl) <|
    (TR.d (r := optr 5 1 0) (fs := [(5, [i64 0, i64 0, nilsl])]) rfl rfl (TOp.alloc_o (g := ⟨0, none⟩) 5 rfl zer26 zok26 rfl) <|
    TR.nil))))))) rfl (by kernel_rfl) rfl (fills_of (by show List.Nodup [2, 3, 4, 5]; decide) ⟨⟨_, rfl⟩, ⟨_, rfl⟩, ⟨_, rfl⟩, ⟨_, rfl⟩, trivial⟩) rfl ?_
   iterate 7 refine ROps.dropS ?_
   refine ROps.drop0 ?_
   refine ROps.store_le (r := agg [i64 r3, i64 r4, oref 2 1 0 r5.length]) (l' := [i64 r3, i64 r4, oref 2 1 0 r5.length]) (Γ' := [⟨1, some [i64 0, i64 0, nilsl]⟩, ⟨1, some [i64 0, i64 0, nilsl]⟩, ⟨1, some (r5.map f32)⟩, ⟨1, some (r8.map f32)⟩, ⟨1, some [i64 r3, i64 r4, oref 2 1 0 r5.length]⟩, ⟨1, some [i64 0, i64 0, nilsl]⟩, ⟨0, none⟩, ⟨0, none⟩]) rfl siz26 rfl rfl rfl aR rfl rfl rfl rfl (Nat.le_of_ble_eq_true rfl) rfl rfl ?_
   refine ROps.store_le (r := agg [i64 r6, i64 r7, oref 3 1 0 r8.length]) (l' := [i64 r6, i64 r7, oref 3 1 0 r8.length]) (Γ' := [⟨1, some [i64 0, i64 0, nilsl]⟩, ⟨1, some [i64 0, i64 0, nilsl]⟩, ⟨1, some (r5.map f32)⟩, ⟨1, some (r8.map f32)⟩, ⟨1, some [i64 r3, i64 r4, oref 2 1 0 r5.length]⟩, ⟨1, some [i64 r6, i64 r7, oref 3 1 0 r8.length]⟩, ⟨0, none⟩, ⟨0, none⟩]) rfl siz26 rfl rfl rfl aR rfl rfl rfl rfl (Nat.le_of_ble_eq_true rfl) rfl rfl ?_
   refine zN ?_
   refine RunC.seq ?_
   refine zQ ?_
   refine zM (r := i64 a3) rfl rfl rfl rfl rfl ?_
   refine zM (r := i64 0) rfl rfl rfl rfl rfl ?_
   refine zN ?_
   refine RunC.wl (τ' := [(2, ptr [i64 a0, i64 a1, sl a2.length (a2.map f32)]), (4, optr 0 1 0), (5, optr 1 1 0), (7, optr 4 1 0), (8, optr 5 1 0), (33, i64 a3), (34, i64 0)]) (Γ' := [⟨1, some [i64 0, i64 0, nilsl]⟩, ⟨1, some [i64 0, i64 0, nilsl]⟩, ⟨1, some (r5.map f32)⟩, ⟨1, some (r8.map f32)⟩, ⟨1, some [i64 r3, i64 r4, oref 2 1 0 r5.length]⟩, ⟨1, some [i64 r6, i64 r7, oref 3 1 0 r8.length]⟩, ⟨0, none⟩, ⟨0, none⟩]) ⟨aR, aR, aR, aR, aR, aR, aR, trivial⟩ ⟨⟨rfl, .inr rfl⟩, ⟨rfl, .inr rfl⟩, ⟨rfl, .inr rfl⟩, ⟨rfl, .inr rfl⟩, ⟨rfl, .inr rfl⟩, ⟨rfl, .inr rfl⟩, ⟨rfl, .inr rfl⟩, ⟨rfl, .inr rfl⟩, trivial⟩ ?_
   obtain ⟨z16, hz_16, h⟩ := obind_some h
   refine RunC.cutN (fun τ Γ => ∃ (L67 : List F) (L69 : List F) (u65 : Nat) (u66 : Nat), L67.length = r5.length ∧ L69.length = r8.length ∧ WeakLe τ [(4, optr 0 1 0), (5, optr 1 1 0), (7, optr 4 1 0), (8, optr 5 1 0)] ∧ DeadLe Γ [⟨1, some [i64 0, i64 0, nilsl]⟩, ⟨1, some [i64 0, i64 0, nilsl]⟩, ⟨1, some (L67.map f32)⟩, ⟨1, some (L69.map f32)⟩, ⟨1, some [i64 r3, i64 r4, oref 2 1 0 r5.length]⟩, ⟨1, some [i64 r6, i64 r7, oref 3 1 0 r8.length]⟩, ⟨u65, none⟩, ⟨u66, none⟩] ∧ z16 = .inl (L67, L69)) ?_ ?_
   ·refine RunC.block (RunC.loop (RunL.loopM (x := z16) (i_SideTurns_s15 a1 a3 r3 r4 r5 r6 r7 r8) (fun (s : (List F) × (List F) × Int) τ Γ => ∃ (u9 : Nat) (u10 : Nat), s.1.length = r5.length ∧ s.2.1.length = r8.length ∧ WeakLe τ [(2, ptr [i64 a0, i64 a1, sl a2.length (a2.map f32)]), (4, optr 0 1 0), (5, optr 1 1 0), (7, optr 4 1 0), (8, optr 5 1 0), (33, i64 a3), (34, i64 s.2.2)] ∧ DeadLe Γ [⟨1, some [i64 0, i64 0, nilsl]⟩, ⟨1, some [i64 0, i64 0, nilsl]⟩, ⟨1, some (s.1.map f32)⟩, ⟨1, some (s.2.1.map f32)⟩, ⟨1, some [i64 r3, i64 r4, oref 2 1 0 r5.length]⟩, ⟨1, some [i64 r6, i64 r7, oref 3 1 0 r8.length]⟩, ⟨u9, none⟩, ⟨u10, none⟩]) ?_ _ _ _ hz_16 ⟨0, 0, rfl, rfl, ⟨aR, aR, aR, aR, aR, aR, aR, trivial⟩, ⟨⟨rfl, .inr rfl⟩, ⟨rfl, .inr rfl⟩, ⟨rfl, .inr rfl⟩, ⟨rfl, .inr rfl⟩, ⟨rfl, .inr rfl⟩, ⟨rfl, .inr rfl⟩, ⟨rfl, .inl rfl⟩, ⟨rfl, .inl rfl⟩, trivial⟩⟩))
    rintro ⟨L11, L13, v15⟩ τ16 Γ16 y16_ ⟨u9, u10, hl12, hl14, hw16, hd16⟩ h16_ ho16 hr16
    refine RunC.wl (τ' := [(2, ptr [i64 a0, i64 a1, sl a2.length (a2.map f32)]), (4, optr 0 1 0), (5, optr 1 1 0), (7, optr 4 1 0), (8, optr 5 1 0), (33, i64 a3), (34, i64 v15)]) (Γ' := [⟨1, some [i64 0, i64 0, nilsl]⟩, ⟨1, some [i64 0, i64 0, nilsl]⟩, ⟨1, some (L11.map f32)⟩, ⟨1, some (L13.map f32)⟩, ⟨1, some [i64 r3, i64 r4, oref 2 1 0 r5.length]⟩, ⟨1, some [i64 r6, i64 r7, oref 3 1 0 r8.length]⟩, ⟨u9, none⟩, ⟨u10, none⟩]) hw16 hd16 ?_
    replace hl12 : L11.length = r5.length := hl12
    replace hl14 : L13.length = r8.length := hl14
    replace h16_ : i_SideTurns_b15 a1 a3 r3 r4 r5 r6 r7 r8 L11 L13 v15 = some y16_ := h16_
    unfold i_SideTurns_b15 at h16_
    refine RunC.seq ?_
    rcases bsel_some h16_ with ⟨hc7, h16_⟩ | ⟨hc7, h16_⟩
    ·refine RunC.regionW ?_
     refine zL (r := b true) rfl rfl rfl (LOp.eqb (LOp.lss rfl rfl rfl) hc7) ?_
     refine zN ?_
     refine RunC.seq ?_
     refine RunC.cond_true rfl rfl ?_
     refine RunC.skip ?_
     refine RunC.seq ?_
     refine RunC.block ?_
     refine zQ ?_
     refine zL (r := ptr [i64 a1, sl a2.length (a2.map f32)]) rfl rfl rfl (LOp.fap und26 rfl siz2 rfl rfl rfl) ?_
     refine zL (r := i64 a1) rfl rfl rfl (LOp.load1 agg2 rfl rfl) ?_
     refine zM (r := i64 0) rfl rfl rfl rfl rfl ?_
     refine zN ?_
     obtain ⟨z17, hz_17, h16_⟩ := obind_some h16_
     refine RunC.cutN (fun τ Γ => ∃ (L60 : List F) (L62 : List F) (u58 : Nat) (u59 : Nat), L60.length = r5.length ∧ L62.length = r8.length ∧ WeakLe τ [(2, ptr [i64 a0, i64 a1, sl a2.length (a2.map f32)]), (4, optr 0 1 0), (5, optr 1 1 0), (7, optr 4 1 0), (8, optr 5 1 0), (33, i64 a3), (34, i64 v15)] ∧ DeadLe Γ [⟨1, some [i64 0, i64 0, nilsl]⟩, ⟨1, some [i64 0, i64 0, nilsl]⟩, ⟨1, some (L60.map f32)⟩, ⟨1, some (L62.map f32)⟩, ⟨1, some [i64 r3, i64 r4, oref 2 1 0 r5.length]⟩, ⟨1, some [i64 r6, i64 r7, oref 3 1 0 r8.length]⟩, ⟨u58, none⟩, ⟨u59, none⟩] ∧ z17 = .inl (L60, L62)) ?_ ?_
     ·refine RunC.block (RunC.loop (RunL.loopM (x := z17) (i_SideTurns_s14 a1 r3 r4 r5 r6 r7 r8) (fun (s : (List F) × (List F) × Int) τ Γ => ∃ (u16 : Nat) (u17 : Nat), s.1.length = r5.length ∧ s.2.1.length = r8.length ∧ WeakLe τ [(2, ptr [i64 a0, i64 a1, sl a2.length (a2.map f32)]), (4, optr 0 1 0), (5, optr 1 1 0), (7, optr 4 1 0), (8, optr 5 1 0), (33, i64 a3), (34, i64 v15), (37, i64 a1), (38, i64 s.2.2)] ∧ DeadLe Γ [⟨1, some [i64 0, i64 0, nilsl]⟩, ⟨1, some [i64 0, i64 0, nilsl]⟩, ⟨1, some (s.1.map f32)⟩, ⟨1, some (s.2.1.map f32)⟩, ⟨1, some [i64 r3, i64 r4, oref 2 1 0 r5.length]⟩, ⟨1, some [i64 r6, i64 r7, oref 3 1 0 r8.length]⟩, ⟨u16, none⟩, ⟨u17, none⟩]) ?_ _ _ _ hz_17 ⟨u9, u10, hl12, hl14, ⟨aR, aR, aR, aR, aR, aR, aR, aR, aR, trivial⟩, ⟨⟨rfl, .inr rfl⟩, ⟨rfl, .inr rfl⟩, ⟨rfl, .inr rfl⟩, ⟨rfl, .inr rfl⟩, ⟨rfl, .inr rfl⟩, ⟨rfl, .inr rfl⟩, ⟨rfl, .inl rfl⟩, ⟨rfl, .inl rfl⟩, trivial⟩⟩))
      rintro ⟨L18, L20, v22⟩ τ17 Γ17 y17_ ⟨u16, u17, hl19, hl21, hw17, hd17⟩ h17_ ho17 hr17
      refine RunC.wl (τ' := [(2, ptr [i64 a0, i64 a1, sl a2.length (a2.map f32)]), (4, optr 0 1 0), (5, optr 1 1 0), (7, optr 4 1 0), (8, optr 5 1 0), (33, i64 a3), (34, i64 v15), (37, i64 a1), (38, i64 v22)]) (Γ' := [⟨1, some [i64 0, i64 0, nilsl]⟩, ⟨1, some [i64 0, i64 0, nilsl]⟩, ⟨1, some (L18.map f32)⟩, ⟨1, some (L20.map f32)⟩, ⟨1, some [i64 r3, i64 r4, oref 2 1 0 r5.length]⟩, ⟨1, some [i64 r6, i64 r7, oref 3 1 0 r8.length]⟩, ⟨u16, none⟩, ⟨u17, none⟩]) hw17 hd17 ?_
      replace hl19 : L18.length = r5.length := hl19
      replace hl21 : L20.length = r8.length := hl21
      replace h17_ : i_SideTurns_b14 a1 r3 r4 r5 r6 r7 r8 L18 L20 v22 = some y17_ := h17_
      unfold i_SideTurns_b14 at h17_
      refine RunC.seq ?_
      rcases bsel_some h17_ with ⟨hc8, h17_⟩ | ⟨hc8, h17_⟩
      ·refine RunC.regionW ?_
       refine zL (r := b true) rfl rfl rfl (LOp.eqb (LOp.lss rfl rfl rfl) hc8) ?_
       refine zN ?_
       refine RunC.seq ?_
       refine RunC.cond_true rfl rfl ?_
       refine RunC.skip ?_
       refine RunC.seq ?_
       refine RunC.block ?_
       refine zQ ?_
       refine zM (r := i64 v22) rfl rfl rfl rfl rfl ?_
       refine zA (r := i64 v22) rfl rfl rfl rfl rfl ?_
       refine zN ?_
       refine RunC.seq ?_
       obtain ⟨x23, hx9, h17_⟩ := olet_some h17_
       refine RunC.regionW ?_
       refine zM (r := i64 v22) rfl rfl rfl rfl rfl ?_
       refine zL (r := i64 x23) rfl rfl rfl (LOp.eqr (LOp.add rfl rfl rfl) (congrArg (ik .i64) hx9)) ?_
       refine zA (r := i64 x23) rfl rfl rfl rfl rfl ?_
       refine zN ?_
       obtain ⟨z18, hz_18, h17_⟩ := obind_some h17_
       refine RunC.cutN (fun τ Γ => ∃ (L53 : List F) (L55 : List F) (u51 : Nat) (u52 : Nat), L53.length = r5.length ∧ L55.length = r8.length ∧ WeakLe τ [(2, ptr [i64 a0, i64 a1, sl a2.length (a2.map f32)]), (4, optr 0 1 0), (5, optr 1 1 0), (7, optr 4 1 0), (8, optr 5 1 0), (33, i64 a3), (34, i64 v15), (37, i64 a1), (38, i64 v22)] ∧ DeadLe Γ [⟨1, some [i64 0, i64 0, nilsl]⟩, ⟨1, some [i64 0, i64 0, nilsl]⟩, ⟨1, some (L53.map f32)⟩, ⟨1, some (L55.map f32)⟩, ⟨1, some [i64 r3, i64 r4, oref 2 1 0 r5.length]⟩, ⟨1, some [i64 r6, i64 r7, oref 3 1 0 r8.length]⟩, ⟨u51, none⟩, ⟨u52, none⟩] ∧ z18 = .inl (L53, L55)) ?_ ?_
       ·refine RunC.block (RunC.loop (RunL.loopM (x := z18) (i_SideTurns_s13 a1 r3 r4 r5 r6 r7 r8 v22) (fun (s : (List F) × (List F) × Int) τ Γ => ∃ (u24 : Nat) (u25 : Nat), s.1.length = r5.length ∧ s.2.1.length = r8.length ∧ WeakLe τ [(2, ptr [i64 a0, i64 a1, sl a2.length (a2.map f32)]), (4, optr 0 1 0), (5, optr 1 1 0), (7, optr 4 1 0), (8, optr 5 1 0), (9, i64 v22), (10, i64 s.2.2), (33, i64 a3), (34, i64 v15), (37, i64 a1), (38, i64 v22)] ∧ DeadLe Γ [⟨1, some [i64 0, i64 0, nilsl]⟩, ⟨1, some [i64 0, i64 0, nilsl]⟩, ⟨1, some (s.1.map f32)⟩, ⟨1, some (s.2.1.map f32)⟩, ⟨1, some [i64 r3, i64 r4, oref 2 1 0 r5.length]⟩, ⟨1, some [i64 r6, i64 r7, oref 3 1 0 r8.length]⟩, ⟨u24, none⟩, ⟨u25, none⟩]) ?_ _ _ _ hz_18 ⟨u16, u17, hl19, hl21, ⟨aR, aR, aR, aR, aR, aR, aR, aR, aR, aR, aR, trivial⟩, ⟨⟨rfl, .inr rfl⟩, ⟨rfl, .inr rfl⟩, ⟨rfl, .inr rfl⟩, ⟨rfl, .inr rfl⟩, ⟨rfl, .inr rfl⟩, ⟨rfl, .inr rfl⟩, ⟨rfl, .inl rfl⟩, ⟨rfl, .inl rfl⟩, trivial⟩⟩))
        rintro ⟨L26, L28, v30⟩ τ18 Γ18 y18_ ⟨u24, u25, hl27, hl29, hw18, hd18⟩ h18_ ho18 hr18
        refine RunC.wl (τ' := [(2, ptr [i64 a0, i64 a1, sl a2.length (a2.map f32)]), (4, optr 0 1 0), (5, optr 1 1 0), (7, optr 4 1 0), (8, optr 5 1 0), (9, i64 v22), (10, i64 v30), (33, i64 a3), (34, i64 v15), (37, i64 a1), (38, i64 v22)]) (Γ' := [⟨1, some [i64 0, i64 0, nilsl]⟩, ⟨1, some [i64 0, i64 0, nilsl]⟩, ⟨1, some (L26.map f32)⟩, ⟨1, some (L28.map f32)⟩, ⟨1, some [i64 r3, i64 r4, oref 2 1 0 r5.length]⟩, ⟨1, some [i64 r6, i64 r7, oref 3 1 0 r8.length]⟩, ⟨u24, none⟩, ⟨u25, none⟩]) hw18 hd18 ?_
        replace hl27 : L26.length = r5.length := hl27
        replace hl29 : L28.length = r8.length := hl29
        replace h18_ : i_SideTurns_b13 a1 r3 r4 r5 r6 r7 r8 v22 L26 L28 v30 = some y18_ := h18_
        unfold i_SideTurns_b13 at h18_
        refine RunC.seq ?_
        refine RunC.seq ?_
        rcases bsel_some h18_ with ⟨hc10, h18_⟩ | ⟨hc10, h18_⟩
        ·refine RunC.regionW ?_
         refine zM (r := i64 v30) rfl rfl rfl rfl rfl ?_
         refine zL (r := ptr [i64 a1, sl a2.length (a2.map f32)]) rfl rfl rfl (LOp.fap und26 rfl siz2 rfl rfl rfl) ?_
         refine zL (r := i64 a1) rfl rfl rfl (LOp.load1 agg2 rfl rfl) ?_
         refine zL (r := b true) rfl rfl rfl (LOp.eqb (LOp.lss rfl rfl rfl) hc10) ?_
         refine zN ?_
         refine RunC.cond_true rfl rfl ?_
         refine RunC.skip ?_
         refine RunC.seq ?_
         refine RunC.cutN (fun τ Γ => ∃ (L46 : List F) (L48 : List F), L46.length = r5.length ∧ L48.length = r8.length ∧ WeakLe τ [(2, ptr [i64 a0, i64 a1, sl a2.length (a2.map f32)]), (4, optr 0 1 0), (5, optr 1 1 0), (7, optr 4 1 0), (8, optr 5 1 0), (9, i64 v22), (10, i64 v30), (33, i64 a3), (34, i64 v15), (37, i64 a1), (38, i64 v22)] ∧ DeadLe Γ [⟨1, some [i64 0, i64 0, nilsl]⟩, ⟨1, some [i64 0, i64 0, nilsl]⟩, ⟨1, some (L46.map f32)⟩, ⟨1, some (L48.map f32)⟩, ⟨1, some [i64 r3, i64 r4, oref 2 1 0 r5.length]⟩, ⟨1, some [i64 r6, i64 r7, oref 3 1 0 r8.length]⟩, ⟨(u24 + 2), none⟩, ⟨(u25 + 1), none⟩] ∧ i_SideTurns_k12 v30 L46 L48 = some y18_) ?_ ?_
         ·refine RunC.block ?_
          refine RunC.seq ?_
          obtain ⟨r31, hf11, h18_⟩ := obind_some h18_
          obtain ⟨r32, hf12, h18_⟩ := obind_some h18_
          refine RunC.region_draw (Γ' := [⟨1, some [i64 0, i64 0, nilsl]⟩, ⟨1, some [i64 0, i64 0, nilsl]⟩, ⟨1, some (L26.map f32)⟩, ⟨1, some (L28.map f32)⟩, ⟨1, some [i64 r3, i64 r4, oref 2 1 0 r5.length]⟩, ⟨1, some [i64 r6, i64 r7, oref 3 1 0 r8.length]⟩, ⟨(u24 + 1), some (r31.map f32)⟩, ⟨(u25 + 1), some (r32.map f32)⟩]) 8 mixed 
           (TR.d (r := agg [i64 r3, i64 r4, oref 2 1 0 r5.length]) (fs := []) rfl rfl (TOp.loadAgg_o rfl agg26 siz26 rfl rfl rfl rfl) <|
           (TR.l (r := i64 v22) rfl rfl (LOp.move rfl rfl) <|
           (TR.d (r := oref 6 (u24 + 1) 0 r31.length) (fs := [(6, (r31.map f32))]) rfl rfl (TOp.eqr (TOp.callBN (ls := [(r31.map f32)]) [6] (CallAs.func ent60 rfl rfl) (Bors.cons (Bor.agg (Bors.cons (Bor.pure rfl) (Bors.cons (Bor.pure rfl) (Bors.cons (Bor.own (f := f32) (fun _ => rfl) rfl hl27) Bors.nil)))) (Bors.cons (Bor.pure rfl) Bors.nil)) rfl (i_Matrix_column_ok r3 r4 L26 v22 r31 hf11) (and_all (lts0_map (f := f32) (fun _ => rfl) _) rfl) (and_all (noss_map (f := f32) (fun _ => rfl) _) rfl) rfl (by decide) (ns_of ⟨⟨_, rfl⟩, trivial⟩)) (by simp [ren, rens, sigma, newNames])) <|
           (TR.d (r := agg [i64 r3, i64 r4, oref 2 1 0 r5.length]) (fs := []) rfl rfl (TOp.loadAgg_o rfl agg26 siz26 rfl rfl rfl rfl) <|
           (TR.l (r := i64 v30) rfl rfl (LOp.move rfl rfl) <|
           (TR.d (r := oref 7 (u25 + 1) 0 r32.length) (fs := [(7, (r32.map f32))]) rfl rfl (TOp.eqr (TOp.callBN (ls := [(r32.map f32)]) [7] (CallAs.func ent60 rfl rfl) (Bors.cons (Bor.agg (Bors.cons (Bor.pure rfl) (Bors.cons (Bor.pure rfl) (Bors.cons (Bor.own (f := f32) (fun _ => rfl) rfl hl27) Bors.nil)))) (Bors.cons (Bor.pure rfl) Bors.nil)) rfl (i_Matrix_column_ok r3 r4 L26 v30 r32 hf12) (and_all (lts0_map (f := f32) (fun _ => rfl) _) rfl) (and_all (noss_map (f := f32) (fun _ => rfl) _) rfl) rfl (by decide) (ns_of ⟨⟨_, rfl⟩, trivial⟩)) (by simp [ren, rens, sigma, newNames])) <|
           (TR.l (r := oref 6 (u24 + 1) 0 r31.length) rfl rfl (LOp.assign rfl rfl) <|
           (TR.l (r := oref 7 (u25 + 1) 0 r32.length) rfl rfl (LOp.assign rfl rfl) <|
           TR.nil)))))))) rfl (by kernel_rfl) rfl (fills_of (by show List.Nodup [6, 7]; decide) ⟨⟨_, rfl⟩, ⟨_, rfl⟩, trivial⟩) rfl ?_
          iterate 8 refine ROps.dropS ?_
          refine ROps.drop0 ?_
          refine zN ?_
          refine RunC.seq ?_
          obtain ⟨r33, hf13, h18_⟩ := obind_some h18_
          obtain ⟨r34, hf14, h18_⟩ := obind_some h18_
          obtain ⟨r35, hf15, h18_⟩ := obind_some h18_
          refine RunC.regionW ?_
          refine zM (r := oref 6 (u24 + 1) 0 r31.length) rfl rfl rfl rfl rfl ?_
          refine zM (r := oref 6 (u24 + 1) 0 r31.length) rfl rfl rfl rfl rfl ?_
          refine ROps.d (r := f32 r33) (fs := []) (Γ' := [⟨1, some [i64 0, i64 0, nilsl]⟩, ⟨1, some [i64 0, i64 0, nilsl]⟩, ⟨1, some (L26.map f32)⟩, ⟨1, some (L28.map f32)⟩, ⟨1, some [i64 r3, i64 r4, oref 2 1 0 r5.length]⟩, ⟨1, some [i64 r6, i64 r7, oref 3 1 0 r8.length]⟩, ⟨(u24 + 1), some (r31.map f32)⟩, ⟨(u25 + 1), some (r32.map f32)⟩]) rfl rfl rfl (TOp.callB (CallAs.func ent61 rfl rfl) (Bors.cons (Bor.own (f := f32) (fun _ => rfl) rfl rfl) (Bors.cons (Bor.own (f := f32) (fun _ => rfl) rfl rfl) Bors.nil)) rfl rfl (i_dot_ok r31 r31 r33 hf13)) rfl ?_
          refine zM (r := oref 7 (u25 + 1) 0 r32.length) rfl rfl rfl rfl rfl ?_
          refine zM (r := oref 7 (u25 + 1) 0 r32.length) rfl rfl rfl rfl rfl ?_
          refine ROps.d (r := f32 r34) (fs := []) (Γ' := [⟨1, some [i64 0, i64 0, nilsl]⟩, ⟨1, some [i64 0, i64 0, nilsl]⟩, ⟨1, some (L26.map f32)⟩, ⟨1, some (L28.map f32)⟩, ⟨1, some [i64 r3, i64 r4, oref 2 1 0 r5.length]⟩, ⟨1, some [i64 r6, i64 r7, oref 3 1 0 r8.length]⟩, ⟨(u24 + 1), some (r31.map f32)⟩, ⟨(u25 + 1), some (r32.map f32)⟩]) rfl rfl rfl (TOp.callB (CallAs.func ent61 rfl rfl) (Bors.cons (Bor.own (f := f32) (fun _ => rfl) rfl rfl) (Bors.cons (Bor.own (f := f32) (fun _ => rfl) rfl rfl) Bors.nil)) rfl rfl (i_dot_ok r32 r32 r34 hf14)) rfl ?_
          refine zM (r := oref 6 (u24 + 1) 0 r31.length) rfl rfl rfl rfl rfl ?_
          refine zM (r := oref 7 (u25 + 1) 0 r32.length) rfl rfl rfl rfl rfl ?_
          refine ROps.d (r := f32 r35) (fs := []) (Γ' := [⟨1, some [i64 0, i64 0, nilsl]⟩, ⟨1, some [i64 0, i64 0, nilsl]⟩, ⟨1, some (L26.map f32)⟩, ⟨1, some (L28.map f32)⟩, ⟨1, some [i64 r3, i64 r4, oref 2 1 0 r5.length]⟩, ⟨1, some [i64 r6, i64 r7, oref 3 1 0 r8.length]⟩, ⟨(u24 + 1), some (r31.map f32)⟩, ⟨(u25 + 1), some (r32.map f32)⟩]) rfl rfl rfl (TOp.callB (CallAs.func ent61 rfl rfl) (Bors.cons (Bor.own (f := f32) (fun _ => rfl) rfl rfl) (Bors.cons (Bor.own (f := f32) (fun _ => rfl) rfl rfl) Bors.nil)) rfl rfl (i_dot_ok r31 r32 r35 hf15)) rfl ?_
          refine zA (r := f32 r33) rfl rfl rfl rfl rfl ?_
          refine zA (r := f32 r34) rfl rfl rfl rfl rfl ?_
          refine zA (r := f32 r35) rfl rfl rfl rfl rfl ?_
          refine zN ?_
          refine RunC.wl (τ' := [(2, ptr [i64 a0, i64 a1, sl a2.length (a2.map f32)]), (4, optr 0 1 0), (5, optr 1 1 0), (7, optr 4 1 0), (8, optr 5 1 0), (9, i64 v22), (10, i64 v30), (13, f32 r33), (14, f32 r34), (15, f32 r35), (33, i64 a3), (34, i64 v15), (37, i64 a1), (38, i64 v22)]) (Γ' := [⟨1, some [i64 0, i64 0, nilsl]⟩, ⟨1, some [i64 0, i64 0, nilsl]⟩, ⟨1, some (L26.map f32)⟩, ⟨1, some (L28.map f32)⟩, ⟨1, some [i64 r3, i64 r4, oref 2 1 0 r5.length]⟩, ⟨1, some [i64 r6, i64 r7, oref 3 1 0 r8.length]⟩, ⟨(u24 + 1), none⟩, ⟨(u25 + 1), none⟩]) ⟨aR, aR, aR, aR, aR, aR, aR, aR, aR, aR, aR, aR, aR, aR, trivial⟩ ⟨⟨rfl, .inr rfl⟩, ⟨rfl, .inr rfl⟩, ⟨rfl, .inr rfl⟩, ⟨rfl, .inr rfl⟩, ⟨rfl, .inr rfl⟩, ⟨rfl, .inr rfl⟩, ⟨rfl, .inl rfl⟩, ⟨rfl, .inl rfl⟩, trivial⟩ ?_
          refine RunC.seq ?_
          refine RunC.seq ?_
          obtain ⟨r36, hf16, h18_⟩ := obind_some h18_
          rcases bsel_some h18_ with ⟨hc17, h18_⟩ | ⟨hc17, h18_⟩
          ·refine RunC.regionW ?_
           refine zM (r := f32 r33) rfl rfl rfl rfl rfl ?_
           refine zM (r := f32 r34) rfl rfl rfl rfl rfl ?_
           refine zM (r := f32 r35) rfl rfl rfl rfl rfl ?_
           refine ROps.d (r := oref 6 (u24 + 2) 0 3) (fs := [(6, (([r33, r34, r35] : List F).map f32))]) (Γ' := [⟨1, some [i64 0, i64 0, nilsl]⟩, ⟨1, some [i64 0, i64 0, nilsl]⟩, ⟨1, some (L26.map f32)⟩, ⟨1, some (L28.map f32)⟩, ⟨1, some [i64 r3, i64 r4, oref 2 1 0 r5.length]⟩, ⟨1, some [i64 r6, i64 r7, oref 3 1 0 r8.length]⟩, ⟨(u24 + 2), some (([r33, r34, r35] : List F).map f32)⟩, ⟨(u25 + 1), none⟩]) rfl rfl rfl (TOp.buildSlice_o (g := ⟨(u24 + 1), none⟩) (za := f32 (some 0)) (qs := [(0, [f32 r33]), (1, [f32 r34]), (2, [f32 r35])]) 6 rfl und22 siz33 zer33 rfl zel33 rfl rfl ⟨rfl, ⟨_, ALe.refl _, rfl⟩, ⟨rfl, ⟨_, ALe.refl _, rfl⟩, ⟨rfl, ⟨_, ALe.refl _, rfl⟩, trivial⟩⟩⟩ rfl) rfl ?_
           refine ROps.d (r := b true) (fs := []) (Γ' := [⟨1, some [i64 0, i64 0, nilsl]⟩, ⟨1, some [i64 0, i64 0, nilsl]⟩, ⟨1, some (L26.map f32)⟩, ⟨1, some (L28.map f32)⟩, ⟨1, some [i64 r3, i64 r4, oref 2 1 0 r5.length]⟩, ⟨1, some [i64 r6, i64 r7, oref 3 1 0 r8.length]⟩, ⟨(u24 + 2), some (([r33, r34, r35] : List F).map f32)⟩, ⟨(u25 + 1), none⟩]) rfl rfl rfl (TOp.eqb (TOp.callB (CallAs.func ent62 rfl rfl) (Bors.cons (Bor.own (f := f32) (fun _ => rfl) rfl rfl) Bors.nil) rfl rfl (i_areFinite_ok ([r33, r34, r35] : List F) r36 hf16)) hc17) rfl ?_
           refine zL (r := b false) rfl rfl rfl (LOp.eqb (LOp.not rfl rfl) rfl) ?_
           refine zN ?_
           refine RunC.wl (τ' := [(2, ptr [i64 a0, i64 a1, sl a2.length (a2.map f32)]), (4, optr 0 1 0), (5, optr 1 1 0), (7, optr 4 1 0), (8, optr 5 1 0), (9, i64 v22), (10, i64 v30), (13, f32 r33), (14, f32 r34), (15, f32 r35), (33, i64 a3), (34, i64 v15), (37, i64 a1), (38, i64 v22), (69, b false)]) (Γ' := [⟨1, some [i64 0, i64 0, nilsl]⟩, ⟨1, some [i64 0, i64 0, nilsl]⟩, ⟨1, some (L26.map f32)⟩, ⟨1, some (L28.map f32)⟩, ⟨1, some [i64 r3, i64 r4, oref 2 1 0 r5.length]⟩, ⟨1, some [i64 r6, i64 r7, oref 3 1 0 r8.length]⟩, ⟨(u24 + 2), none⟩, ⟨(u25 + 1), none⟩]) ⟨aR, aR, aR, aR, aR, aR, aR, aR, aR, aR, aR, aR, aR, aR, aR, trivial⟩ ⟨⟨rfl, .inr rfl⟩, ⟨rfl, .inr rfl⟩, ⟨rfl, .inr rfl⟩, ⟨rfl, .inr rfl⟩, ⟨rfl, .inr rfl⟩, ⟨rfl, .inr rfl⟩, ⟨rfl, .inl rfl⟩, ⟨rfl, .inl rfl⟩, trivial⟩ ?_
           refine RunC.cond_false rfl rfl ?_
           refine RunC.skip ?_
           refine RunC.seq ?_
           refine RunC.seq ?_
           rcases bsel_some h18_ with ⟨hc18, h18_⟩ | ⟨hc18, h18_⟩
           ·refine RunC.regionW ?_
            refine zM (r := f32 r35) rfl rfl rfl rfl rfl ?_
            refine zL (r := b true) rfl rfl rfl (LOp.eqb (LOp.feq rfl (OpF.tmp rfl) (OpF.const rfl (by kernel_rfl) (by kernel_rfl))) hc18) ?_
            refine zN ?_
            refine RunC.cond_true rfl rfl ?_
            refine RunC.exit ?_
            exact ⟨L26, L28, hl27, hl29, ⟨aR, aR, aR, aR, aR, aR, aR, aR, aR, aR, aR, trivial⟩, ⟨⟨rfl, .inr rfl⟩, ⟨rfl, .inr rfl⟩, ⟨rfl, .inr rfl⟩, ⟨rfl, .inr rfl⟩, ⟨rfl, .inr rfl⟩, ⟨rfl, .inr rfl⟩, ⟨rfl, .inl rfl⟩, ⟨rfl, .inl rfl⟩, trivial⟩, h18_⟩
           ·refine RunC.regionW ?_
            refine zM (r := f32 r35) rfl rfl rfl rfl rfl ?_
            refine zL (r := b false) rfl rfl rfl (LOp.eqb (LOp.feq rfl (OpF.tmp rfl) (OpF.const rfl (by kernel_rfl) (by kernel_rfl))) hc18) ?_
            refine zN ?_
            refine RunC.cond_false rfl rfl ?_
            refine RunC.skip ?_
            refine RunC.seq ?_
            obtain ⟨x37, hx19, h18_⟩ := olet_some h18_
            obtain ⟨r38, hf20, h18_⟩ := obind_some h18_
            obtain ⟨x39, hx21, h18_⟩ := olet_some h18_
            obtain ⟨r40, r41, hf22, h18_⟩ := obind2_some h18_
            refine RunC.regionW ?_
            refine zM (r := f32 r34) rfl rfl rfl rfl rfl ?_
            refine zM (r := f32 r33) rfl rfl rfl rfl rfl ?_
            refine ROps.d (r := f32 x37) (fs := []) (Γ' := [⟨1, some [i64 0, i64 0, nilsl]⟩, ⟨1, some [i64 0, i64 0, nilsl]⟩, ⟨1, some (L26.map f32)⟩, ⟨1, some (L28.map f32)⟩, ⟨1, some [i64 r3, i64 r4, oref 2 1 0 r5.length]⟩, ⟨1, some [i64 r6, i64 r7, oref 3 1 0 r8.length]⟩, ⟨(u24 + 2), none⟩, ⟨(u25 + 1), none⟩]) rfl rfl rfl (TOp.eqr (TOp.fop (.inr (.inl rfl)) rfl (OpF.tmp rfl) (OpF.tmp rfl)) (congrArg (f .f32) hx19)) rfl ?_
            refine zM (r := f32 r35) rfl rfl rfl rfl rfl ?_
            refine ROps.d (r := f32 r38) (fs := []) (Γ' := [⟨1, some [i64 0, i64 0, nilsl]⟩, ⟨1, some [i64 0, i64 0, nilsl]⟩, ⟨1, some (L26.map f32)⟩, ⟨1, some (L28.map f32)⟩, ⟨1, some [i64 r3, i64 r4, oref 2 1 0 r5.length]⟩, ⟨1, some [i64 r6, i64 r7, oref 3 1 0 r8.length]⟩, ⟨(u24 + 2), none⟩, ⟨(u25 + 1), none⟩]) rfl rfl rfl (TOp.callB (CallAs.func ent34 rfl rfl) (Bors.cons (Bor.le (ALe.fl (by kernel_rfl) (by kernel_rfl)) (Bor.pure rfl)) (Bors.cons (Bor.pure rfl) Bors.nil)) rfl rfl (i_mul_ok (some 1073741824) r35 r38 hf20)) rfl ?_
            refine ROps.d (r := f32 x39) (fs := []) (Γ' := [⟨1, some [i64 0, i64 0, nilsl]⟩, ⟨1, some [i64 0, i64 0, nilsl]⟩, ⟨1, some (L26.map f32)⟩, ⟨1, some (L28.map f32)⟩, ⟨1, some [i64 r3, i64 r4, oref 2 1 0 r5.length]⟩, ⟨1, some [i64 r6, i64 r7, oref 3 1 0 r8.length]⟩, ⟨(u24 + 2), none⟩, ⟨(u25 + 1), none⟩]) rfl rfl rfl (TOp.eqr (TOp.fop (.inr (.inr (.inr rfl))) rfl (OpF.tmp rfl) (OpF.tmp rfl)) (congrArg (f .f32) hx21)) rfl ?_
            refine ROps.d (r := tup [f32 r40, f32 r41]) (fs := []) (Γ' := [⟨1, some [i64 0, i64 0, nilsl]⟩, ⟨1, some [i64 0, i64 0, nilsl]⟩, ⟨1, some (L26.map f32)⟩, ⟨1, some (L28.map f32)⟩, ⟨1, some [i64 r3, i64 r4, oref 2 1 0 r5.length]⟩, ⟨1, some [i64 r6, i64 r7, oref 3 1 0 r8.length]⟩, ⟨(u24 + 2), none⟩, ⟨(u25 + 1), none⟩]) rfl rfl rfl (TOp.callB (CallAs.func ent63 rfl rfl) (Bors.cons (Bor.pure rfl) Bors.nil) rfl rfl (i_turnFor_ok x39 r40 r41 hf22)) rfl ?_
            refine zM (r := tup [f32 r40, f32 r41]) rfl rfl rfl rfl rfl ?_
            refine zL (r := f32 r40) rfl rfl rfl (LOp.extract rfl rfl rfl) ?_
            refine zL (r := f32 r41) rfl rfl rfl (LOp.extract rfl rfl rfl) ?_
            refine zA (r := f32 r40) rfl rfl rfl rfl rfl ?_
            refine zA (r := f32 r41) rfl rfl rfl rfl rfl ?_
            refine zN ?_
            refine RunC.wl (τ' := [(2, ptr [i64 a0, i64 a1, sl a2.length (a2.map f32)]), (4, optr 0 1 0), (5, optr 1 1 0), (7, optr 4 1 0), (8, optr 5 1 0), (9, i64 v22), (10, i64 v30), (16, f32 r40), (17, f32 r41), (33, i64 a3), (34, i64 v15), (37, i64 a1), (38, i64 v22)]) (Γ' := [⟨1, some [i64 0, i64 0, nilsl]⟩, ⟨1, some [i64 0, i64 0, nilsl]⟩, ⟨1, some (L26.map f32)⟩, ⟨1, some (L28.map f32)⟩, ⟨1, some [i64 r3, i64 r4, oref 2 1 0 r5.length]⟩, ⟨1, some [i64 r6, i64 r7, oref 3 1 0 r8.length]⟩, ⟨(u24 + 2), none⟩, ⟨(u25 + 1), none⟩]) ⟨aR, aR, aR, aR, aR, aR, aR, aR, aR, aR, aR, aR, aR, trivial⟩ ⟨⟨rfl, .inr rfl⟩, ⟨rfl, .inr rfl⟩, ⟨rfl, .inr rfl⟩, ⟨rfl, .inr rfl⟩, ⟨rfl, .inr rfl⟩, ⟨rfl, .inr rfl⟩, ⟨rfl, .inl rfl⟩, ⟨rfl, .inl rfl⟩, trivial⟩ ?_
            refine RunC.seq ?_
            obtain ⟨r42, hf23, h18_⟩ := obind_some h18_
            obtain ⟨hn24, h18_⟩ := need_some h18_
            refine RunC.regionW ?_
            refine ROps.d (r := agg [i64 r3, i64 r4, oref 2 1 0 r5.length]) (fs := []) (Γ' := [⟨1, some [i64 0, i64 0, nilsl]⟩, ⟨1, some [i64 0, i64 0, nilsl]⟩, ⟨1, some (L26.map f32)⟩, ⟨1, some (L28.map f32)⟩, ⟨1, some [i64 r3, i64 r4, oref 2 1 0 r5.length]⟩, ⟨1, some [i64 r6, i64 r7, oref 3 1 0 r8.length]⟩, ⟨(u24 + 2), none⟩, ⟨(u25 + 1), none⟩]) rfl rfl rfl (TOp.loadAgg_o rfl agg26 siz26 rfl rfl rfl rfl) rfl ?_
            refine zM (r := i64 v22) rfl rfl rfl rfl rfl ?_
            refine zM (r := i64 v30) rfl rfl rfl rfl rfl ?_
            refine zM (r := f32 r40) rfl rfl rfl rfl rfl ?_
            refine zM (r := f32 r41) rfl rfl rfl rfl rfl ?_
            refine ROps.callO (A := [agg [i64 r3, i64 r4, oref 2 1 0 r5.length], i64 v22, i64 v30, f32 r40, f32 r41]) (args := [agg [i64 r3, i64 r4, oref 0 0 0 L26.length], i64 v22, i64 v30, f32 r40, f32 r41]) (Γc := [⟨0, some (L26.map f32)⟩]) (Γc' := [⟨0, some (r42.map f32)⟩]) (r' := tup []) (Γ' := [⟨1, some [i64 0, i64 0, nilsl]⟩, ⟨1, some [i64 0, i64 0, nilsl]⟩, ⟨1, some (r42.map f32)⟩, ⟨1, some (L28.map f32)⟩, ⟨1, some [i64 r3, i64 r4, oref 2 1 0 r5.length]⟩, ⟨1, some [i64 r6, i64 r7, oref 3 1 0 r8.length]⟩, ⟨(u24 + 2), none⟩, ⟨(u25 + 1), none⟩]) [(2, 1)] [] rfl (CallAs.func ent64 rfl rfl) rfl rfl (SelOk.of (show List.Nodup [2] from by decide) (SelL.arr0 (f := f32) (fun _ => rfl) rfl trivial)) (live_of ⟨⟨_, _, rfl⟩, trivial⟩) (by simp [ren, rens, sigma, rens_f32, rens_f64, rens_i64, rens_ik, rens_str, rens_cp, hl27]) rfl (i_Matrix_turnColumns_02o_ok r3 r4 v22 v30 r40 r41 L26 r42 hf23) rfl (news_of trivial) (show List.Nodup [2] from by decide) (by simp [ren, rens, sigma, of_decide_eq_true hn24]) (by simp [backOb, sigma, ren, rens, rens_f32, rens_f64, rens_i64, rens_ik, rens_str, rens_cp]) ?_
            refine zN ?_
            refine RunC.seq ?_
            obtain ⟨r43, hf25, h18_⟩ := obind_some h18_
            obtain ⟨hn26, h18_⟩ := need_some h18_
            refine RunC.regionW ?_
            refine ROps.d (r := agg [i64 r6, i64 r7, oref 3 1 0 r8.length]) (fs := []) (Γ' := [⟨1, some [i64 0, i64 0, nilsl]⟩, ⟨1, some [i64 0, i64 0, nilsl]⟩, ⟨1, some (r42.map f32)⟩, ⟨1, some (L28.map f32)⟩, ⟨1, some [i64 r3, i64 r4, oref 2 1 0 r5.length]⟩, ⟨1, some [i64 r6, i64 r7, oref 3 1 0 r8.length]⟩, ⟨(u24 + 2), none⟩, ⟨(u25 + 1), none⟩]) rfl rfl rfl (TOp.loadAgg_o rfl agg26 siz26 rfl rfl rfl rfl) rfl ?_
            refine zM (r := i64 v22) rfl rfl rfl rfl rfl ?_
            refine zM (r := i64 v30) rfl rfl rfl rfl rfl ?_
            refine zM (r := f32 r40) rfl rfl rfl rfl rfl ?_
            refine zM (r := f32 r41) rfl rfl rfl rfl rfl ?_
            refine ROps.callO (A := [agg [i64 r6, i64 r7, oref 3 1 0 r8.length], i64 v22, i64 v30, f32 r40, f32 r41]) (args := [agg [i64 r6, i64 r7, oref 0 0 0 L28.length], i64 v22, i64 v30, f32 r40, f32 r41]) (Γc := [⟨0, some (L28.map f32)⟩]) (Γc' := [⟨0, some (r43.map f32)⟩]) (r' := tup []) (Γ' := [⟨1, some [i64 0, i64 0, nilsl]⟩, ⟨1, some [i64 0, i64 0, nilsl]⟩, ⟨1, some (r42.map f32)⟩, ⟨1, some (r43.map f32)⟩, ⟨1, some [i64 r3, i64 r4, oref 2 1 0 r5.length]⟩, ⟨1, some [i64 r6, i64 r7, oref 3 1 0 r8.length]⟩, ⟨(u24 + 2), none⟩, ⟨(u25 + 1), none⟩]) [(3, 1)] [] rfl (CallAs.func ent64 rfl rfl) rfl rfl (SelOk.of (show List.Nodup [3] from by decide) (SelL.arr0 (f := f32) (fun _ => rfl) rfl trivial)) (live_of ⟨⟨_, _, rfl⟩, trivial⟩) (by simp [ren, rens, sigma, rens_f32, rens_f64, rens_i64, rens_ik, rens_str, rens_cp, hl29]) rfl (i_Matrix_turnColumns_02o_ok r6 r7 v22 v30 r40 r41 L28 r43 hf25) rfl (news_of trivial) (show List.Nodup [3] from by decide) (by simp [ren, rens, sigma, of_decide_eq_true hn26]) (by simp [backOb, sigma, ren, rens, rens_f32, rens_f64, rens_i64, rens_ik, rens_str, rens_cp]) ?_
            refine zN ?_
            refine RunC.seq ?_
            obtain ⟨r44, hf27, h18_⟩ := obind_some h18_
            rcases bsel_some h18_ with ⟨hc28, h18_⟩ | ⟨hc28, h18_⟩
            ·obtain ⟨r45, hf29, h18_⟩ := obind_some h18_
             rcases bsel_some h18_ with ⟨hc30, h18_⟩ | ⟨hc30, h18_⟩
             ·refine RunC.regionW ?_
              refine ROps.d (r := agg [i64 r3, i64 r4, oref 2 1 0 r5.length]) (fs := []) (Γ' := [⟨1, some [i64 0, i64 0, nilsl]⟩, ⟨1, some [i64 0, i64 0, nilsl]⟩, ⟨1, some (r42.map f32)⟩, ⟨1, some (r43.map f32)⟩, ⟨1, some [i64 r3, i64 r4, oref 2 1 0 r5.length]⟩, ⟨1, some [i64 r6, i64 r7, oref 3 1 0 r8.length]⟩, ⟨(u24 + 2), none⟩, ⟨(u25 + 1), none⟩]) rfl rfl rfl (TOp.loadAgg_o rfl agg26 siz26 rfl rfl rfl rfl) rfl ?_
              refine ROps.d (r := b true) (fs := []) (Γ' := [⟨1, some [i64 0, i64 0, nilsl]⟩, ⟨1, some [i64 0, i64 0, nilsl]⟩, ⟨1, some (r42.map f32)⟩, ⟨1, some (r43.map f32)⟩, ⟨1, some [i64 r3, i64 r4, oref 2 1 0 r5.length]⟩, ⟨1, some [i64 r6, i64 r7, oref 3 1 0 r8.length]⟩, ⟨(u24 + 2), none⟩, ⟨(u25 + 1), none⟩]) rfl rfl rfl (TOp.eqb (TOp.callB (CallAs.func ent65 rfl rfl) (Bors.cons (Bor.agg (Bors.cons (Bor.pure rfl) (Bors.cons (Bor.pure rfl) (Bors.cons (Bor.own (f := f32) (fun _ => rfl) rfl (of_decide_eq_true hn24)) Bors.nil)))) Bors.nil) rfl rfl (i_ValidMatrix_ok r3 r4 r42 r44 hf27)) hc28) rfl ?_
              refine zL (r := b false) rfl rfl rfl (LOp.eqb (LOp.not rfl rfl) rfl) ?_
              refine zM (r := b false) rfl rfl rfl rfl rfl ?_
              refine ROps.d (r := agg [i64 r6, i64 r7, oref 3 1 0 r8.length]) (fs := []) (Γ' := [⟨1, some [i64 0, i64 0, nilsl]⟩, ⟨1, some [i64 0, i64 0, nilsl]⟩, ⟨1, some (r42.map f32)⟩, ⟨1, some (r43.map f32)⟩, ⟨1, some [i64 r3, i64 r4, oref 2 1 0 r5.length]⟩, ⟨1, some [i64 r6, i64 r7, oref 3 1 0 r8.length]⟩, ⟨(u24 + 2), none⟩, ⟨(u25 + 1), none⟩]) rfl rfl rfl (TOp.loadAgg_o rfl agg26 siz26 rfl rfl rfl rfl) rfl ?_
              refine ROps.d (r := b true) (fs := []) (Γ' := [⟨1, some [i64 0, i64 0, nilsl]⟩, ⟨1, some [i64 0, i64 0, nilsl]⟩, ⟨1, some (r42.map f32)⟩, ⟨1, some (r43.map f32)⟩, ⟨1, some [i64 r3, i64 r4, oref 2 1 0 r5.length]⟩, ⟨1, some [i64 r6, i64 r7, oref 3 1 0 r8.length]⟩, ⟨(u24 + 2), none⟩, ⟨(u25 + 1), none⟩]) rfl rfl rfl (TOp.eqb (TOp.callB (CallAs.func ent65 rfl rfl) (Bors.cons (Bor.agg (Bors.cons (Bor.pure rfl) (Bors.cons (Bor.pure rfl) (Bors.cons (Bor.own (f := f32) (fun _ => rfl) rfl (of_decide_eq_true hn26)) Bors.nil)))) Bors.nil) rfl rfl (i_ValidMatrix_ok r6 r7 r43 r45 hf29)) hc30) rfl ?_
              refine zL (r := b false) rfl rfl rfl (LOp.eqb (LOp.not rfl rfl) rfl) ?_
              refine zL (r := b false) rfl rfl rfl (LOp.pick_false rfl rfl rfl) ?_
              refine zN ?_
              refine RunC.wl (τ' := [(2, ptr [i64 a0, i64 a1, sl a2.length (a2.map f32)]), (4, optr 0 1 0), (5, optr 1 1 0), (7, optr 4 1 0), (8, optr 5 1 0), (9, i64 v22), (10, i64 v30), (33, i64 a3), (34, i64 v15), (37, i64 a1), (38, i64 v22), (100, agg [i64 r6, i64 r7, oref 3 1 0 r8.length]), (101, b true), (102, b false), (103, b false)]) (Γ' := [⟨1, some [i64 0, i64 0, nilsl]⟩, ⟨1, some [i64 0, i64 0, nilsl]⟩, ⟨1, some (r42.map f32)⟩, ⟨1, some (r43.map f32)⟩, ⟨1, some [i64 r3, i64 r4, oref 2 1 0 r5.length]⟩, ⟨1, some [i64 r6, i64 r7, oref 3 1 0 r8.length]⟩, ⟨(u24 + 2), none⟩, ⟨(u25 + 1), none⟩]) ⟨aR, aR, aR, aR, aR, aR, aR, aR, aR, aR, aR, aR, aR, aR, aR, trivial⟩ ⟨⟨rfl, .inr rfl⟩, ⟨rfl, .inr rfl⟩, ⟨rfl, .inr rfl⟩, ⟨rfl, .inr rfl⟩, ⟨rfl, .inr rfl⟩, ⟨rfl, .inr rfl⟩, ⟨rfl, .inl rfl⟩, ⟨rfl, .inl rfl⟩, trivial⟩ ?_
              refine RunC.cond_false rfl rfl ?_
              refine RunC.skip ?_
              exact ⟨r42, r43, (of_decide_eq_true hn24), (of_decide_eq_true hn26), ⟨aR, aR, aR, aR, aR, aR, aR, aR, aR, aR, aR, trivial⟩, ⟨⟨rfl, .inr rfl⟩, ⟨rfl, .inr rfl⟩, ⟨rfl, .inr rfl⟩, ⟨rfl, .inr rfl⟩, ⟨rfl, .inr rfl⟩, ⟨rfl, .inr rfl⟩, ⟨rfl, .inl rfl⟩, ⟨rfl, .inl rfl⟩, trivial⟩, h18_⟩
             ·refine RunC.regionW ?_
              refine ROps.d (r := agg [i64 r3, i64 r4, oref 2 1 0 r5.length]) (fs := []) (Γ' := [⟨1, some [i64 0, i64 0, nilsl]⟩, ⟨1, some [i64 0, i64 0, nilsl]⟩, ⟨1, some (r42.map f32)⟩, ⟨1, some (r43.map f32)⟩, ⟨1, some [i64 r3, i64 r4, oref 2 1 0 r5.length]⟩, ⟨1, some [i64 r6, i64 r7, oref 3 1 0 r8.length]⟩, ⟨(u24 + 2), none⟩, ⟨(u25 + 1), none⟩]) rfl rfl rfl (TOp.loadAgg_o rfl agg26 siz26 rfl rfl rfl rfl) rfl ?_
              refine ROps.d (r := b true) (fs := []) (Γ' := [⟨1, some [i64 0, i64 0, nilsl]⟩, ⟨1, some [i64 0, i64 0, nilsl]⟩, ⟨1, some (r42.map f32)⟩, ⟨1, some (r43.map f32)⟩, ⟨1, some [i64 r3, i64 r4, oref 2 1 0 r5.length]⟩, ⟨1, some [i64 r6, i64 r7, oref 3 1 0 r8.length]⟩, ⟨(u24 + 2), none⟩, ⟨(u25 + 1), none⟩]) rfl rfl rfl (TOp.eqb (TOp.callB (CallAs.func ent65 rfl rfl) (Bors.cons (Bor.agg (Bors.cons (Bor.pure rfl) (Bors.cons (Bor.pure rfl) (Bors.cons (Bor.own (f := f32) (fun _ => rfl) rfl (of_decide_eq_true hn24)) Bors.nil)))) Bors.nil) rfl rfl (i_ValidMatrix_ok r3 r4 r42 r44 hf27)) hc28) rfl ?_
              refine zL (r := b false) rfl rfl rfl (LOp.eqb (LOp.not rfl rfl) rfl) ?_
              refine zM (r := b false) rfl rfl rfl rfl rfl ?_
              refine ROps.d (r := agg [i64 r6, i64 r7, oref 3 1 0 r8.length]) (fs := []) (Γ' := [⟨1, some [i64 0, i64 0, nilsl]⟩, ⟨1, some [i64 0, i64 0, nilsl]⟩, ⟨1, some (r42.map f32)⟩, ⟨1, some (r43.map f32)⟩, ⟨1, some [i64 r3, i64 r4, oref 2 1 0 r5.length]⟩, ⟨1, some [i64 r6, i64 r7, oref 3 1 0 r8.length]⟩, ⟨(u24 + 2), none⟩, ⟨(u25 + 1), none⟩]) rfl rfl rfl (TOp.loadAgg_o rfl agg26 siz26 rfl rfl rfl rfl) rfl ?_
              refine ROps.d (r := b false) (fs := []) (Γ' := [⟨1, some [i64 0, i64 0, nilsl]⟩, ⟨1, some [i64 0, i64 0, nilsl]⟩, ⟨1, some (r42.map f32)⟩, ⟨1, some (r43.map f32)⟩, ⟨1, some [i64 r3, i64 r4, oref 2 1 0 r5.length]⟩, ⟨1, some [i64 r6, i64 r7, oref 3 1 0 r8.length]⟩, ⟨(u24 + 2), none⟩, ⟨(u25 + 1), none⟩]) rfl rfl rfl (TOp.eqb (TOp.callB (CallAs.func ent65 rfl rfl) (Bors.cons (Bor.agg (Bors.cons (Bor.pure rfl) (Bors.cons (Bor.pure rfl) (Bors.cons (Bor.own (f := f32) (fun _ => rfl) rfl (of_decide_eq_true hn26)) Bors.nil)))) Bors.nil) rfl rfl (i_ValidMatrix_ok r6 r7 r43 r45 hf29)) hc30) rfl ?_
              refine zL (r := b true) rfl rfl rfl (LOp.eqb (LOp.not rfl rfl) rfl) ?_
              refine zL (r := b true) rfl rfl rfl (LOp.pick_false rfl rfl rfl) ?_
              refine zN ?_
              refine RunC.wl (τ' := [(2, ptr [i64 a0, i64 a1, sl a2.length (a2.map f32)]), (4, optr 0 1 0), (5, optr 1 1 0), (7, optr 4 1 0), (8, optr 5 1 0), (9, i64 v22), (10, i64 v30), (33, i64 a3), (34, i64 v15), (37, i64 a1), (38, i64 v22), (100, agg [i64 r6, i64 r7, oref 3 1 0 r8.length]), (101, b false), (102, b true), (103, b true)]) (Γ' := [⟨1, some [i64 0, i64 0, nilsl]⟩, ⟨1, some [i64 0, i64 0, nilsl]⟩, ⟨1, some (r42.map f32)⟩, ⟨1, some (r43.map f32)⟩, ⟨1, some [i64 r3, i64 r4, oref 2 1 0 r5.length]⟩, ⟨1, some [i64 r6, i64 r7, oref 3 1 0 r8.length]⟩, ⟨(u24 + 2), none⟩, ⟨(u25 + 1), none⟩]) ⟨aR, aR, aR, aR, aR, aR, aR, aR, aR, aR, aR, aR, aR, aR, aR, trivial⟩ ⟨⟨rfl, .inr rfl⟩, ⟨rfl, .inr rfl⟩, ⟨rfl, .inr rfl⟩, ⟨rfl, .inr rfl⟩, ⟨rfl, .inr rfl⟩, ⟨rfl, .inr rfl⟩, ⟨rfl, .inl rfl⟩, ⟨rfl, .inl rfl⟩, trivial⟩ ?_
              refine RunC.cond_true rfl rfl ?_
              refine zQ ?_
              refine zL (r := agg [i64 0, i64 0, nilsl]) rfl rfl rfl (LOp.build (qs := []) zer26 zok26 und26 plc26 rfl trivial rfl) ?_
              refine zL (r := agg [i64 0, i64 0, nilsl]) rfl rfl rfl (LOp.build (qs := []) zer26 zok26 und26 plc26 rfl trivial rfl) ?_
              refine ROps.store_le (r := agg [i64 0, i64 0, nilsl]) (l' := [i64 0, i64 0, nilsl]) (Γ' := [⟨1, some [i64 0, i64 0, nilsl]⟩, ⟨1, some [i64 0, i64 0, nilsl]⟩, ⟨1, some (r42.map f32)⟩, ⟨1, some (r43.map f32)⟩, ⟨1, some [i64 r3, i64 r4, oref 2 1 0 r5.length]⟩, ⟨1, some [i64 r6, i64 r7, oref 3 1 0 r8.length]⟩, ⟨(u24 + 2), none⟩, ⟨(u25 + 1), none⟩]) rfl siz26 rfl rfl rfl aR rfl rfl rfl rfl (Nat.le_of_ble_eq_true rfl) rfl rfl ?_
              refine ROps.store_le (r := agg [i64 0, i64 0, nilsl]) (l' := [i64 0, i64 0, nilsl]) (Γ' := [⟨1, some [i64 0, i64 0, nilsl]⟩, ⟨1, some [i64 0, i64 0, nilsl]⟩, ⟨1, some (r42.map f32)⟩, ⟨1, some (r43.map f32)⟩, ⟨1, some [i64 r3, i64 r4, oref 2 1 0 r5.length]⟩, ⟨1, some [i64 r6, i64 r7, oref 3 1 0 r8.length]⟩, ⟨(u24 + 2), none⟩, ⟨(u25 + 1), none⟩]) rfl siz26 rfl rfl rfl aR rfl rfl rfl rfl (Nat.le_of_ble_eq_true rfl) rfl rfl ?_
              refine zA (r := b false) rfl rfl rfl rfl rfl ?_
              refine zN ?_
              refine RunC.nil_cell (l' := [i64 0, i64 0, oref 6 (u24 + 3) 0 0]) (Γ' := [⟨1, some [i64 0, i64 0, oref 6 (u24 + 3) 0 0]⟩, ⟨1, some [i64 0, i64 0, nilsl]⟩, ⟨1, some (r42.map f32)⟩, ⟨1, some (r43.map f32)⟩, ⟨1, some [i64 r3, i64 r4, oref 2 1 0 r5.length]⟩, ⟨1, some [i64 r6, i64 r7, oref 3 1 0 r8.length]⟩, ⟨(u24 + 3), some (([] : List F).map f32)⟩, ⟨(u25 + 1), none⟩]) 0 2 6 rfl rfl rfl rfl rfl ?_
              refine RunC.nil_cell (l' := [i64 0, i64 0, oref 7 (u25 + 2) 0 0]) (Γ' := [⟨1, some [i64 0, i64 0, oref 6 (u24 + 3) 0 0]⟩, ⟨1, some [i64 0, i64 0, oref 7 (u25 + 2) 0 0]⟩, ⟨1, some (r42.map f32)⟩, ⟨1, some (r43.map f32)⟩, ⟨1, some [i64 r3, i64 r4, oref 2 1 0 r5.length]⟩, ⟨1, some [i64 r6, i64 r7, oref 3 1 0 r8.length]⟩, ⟨(u24 + 3), some (([] : List F).map f32)⟩, ⟨(u25 + 2), some (([] : List F).map f32)⟩]) 1 2 7 rfl rfl rfl rfl rfl ?_
              refine RunC.ret ?_
              cases Option.some.inj h18_
              have hx19_ := hr18 _ rfl
              subst hx19_
              cases Option.some.inj h17_
              have hx20_ := hr17 _ rfl
              subst hx20_
              cases Option.some.inj h16_
              have hx21_ := hr16 _ rfl
              subst hx21_
              have hq := Option.some.inj h
              obtain ⟨hq0, hq⟩ := Prod.mk.inj hq
              obtain ⟨hq1, hq⟩ := Prod.mk.inj hq
              obtain ⟨hq2, hq⟩ := Prod.mk.inj hq
              obtain ⟨hq3, hq⟩ := Prod.mk.inj hq
              obtain ⟨hq4, hq⟩ := Prod.mk.inj hq
              obtain ⟨hq5, hq⟩ := Prod.mk.inj hq
              subst q0
              subst q1
              subst q2
              subst q3
              subst q4
              subst q5
              subst q6
              exact bodyQ.mk (r' := tup [agg [i64 0, i64 0, oref 6 (u24 + 3) 0 (([] : List F).length)], agg [i64 0, i64 0, oref 7 (u25 + 2) 0 (([] : List F).length)], b false]) [(6, (u24 + 3)), (7, (u25 + 2))] (.inr rfl) rfl (show List.Nodup [6, 7] from by decide) (by simp [ren, rens, sigma]) rfl (Res.eq (Res.three rfl (RV.cell agg26 siz26 rfl rfl rfl rfl) (RV.cell agg26 siz26 rfl rfl rfl rfl) (RV.tmp rfl)) (by rw [(show ([] : List F).length = 0 from rfl)] <;> rfl)) (SelL.arr0 (f := f32) (fun _ => rfl) rfl (SelL.arr0 (f := f32) (fun _ => rfl) rfl trivial))
            ·refine RunC.regionW ?_
             refine ROps.d (r := agg [i64 r3, i64 r4, oref 2 1 0 r5.length]) (fs := []) (Γ' := [⟨1, some [i64 0, i64 0, nilsl]⟩, ⟨1, some [i64 0, i64 0, nilsl]⟩, ⟨1, some (r42.map f32)⟩, ⟨1, some (r43.map f32)⟩, ⟨1, some [i64 r3, i64 r4, oref 2 1 0 r5.length]⟩, ⟨1, some [i64 r6, i64 r7, oref 3 1 0 r8.length]⟩, ⟨(u24 + 2), none⟩, ⟨(u25 + 1), none⟩]) rfl rfl rfl (TOp.loadAgg_o rfl agg26 siz26 rfl rfl rfl rfl) rfl ?_
             refine ROps.d (r := b false) (fs := []) (Γ' := [⟨1, some [i64 0, i64 0, nilsl]⟩, ⟨1, some [i64 0, i64 0, nilsl]⟩, ⟨1, some (r42.map f32)⟩, ⟨1, some (r43.map f32)⟩, ⟨1, some [i64 r3, i64 r4, oref 2 1 0 r5.length]⟩, ⟨1, some [i64 r6, i64 r7, oref 3 1 0 r8.length]⟩, ⟨(u24 + 2), none⟩, ⟨(u25 + 1), none⟩]) rfl rfl rfl (TOp.eqb (TOp.callB (CallAs.func ent65 rfl rfl) (Bors.cons (Bor.agg (Bors.cons (Bor.pure rfl) (Bors.cons (Bor.pure rfl) (Bors.cons (Bor.own (f := f32) (fun _ => rfl) rfl (of_decide_eq_true hn24)) Bors.nil)))) Bors.nil) rfl rfl (i_ValidMatrix_ok r3 r4 r42 r44 hf27)) hc28) rfl ?_
             refine zL (r := b true) rfl rfl rfl (LOp.eqb (LOp.not rfl rfl) rfl) ?_
             refine zM (r := b true) rfl rfl rfl rfl rfl ?_
             refine ROps.s rfl rfl rfl ?_
             refine ROps.s rfl rfl rfl ?_
             refine ROps.s rfl rfl rfl ?_
             refine zL (r := b true) rfl rfl rfl (LOp.pick_true rfl rfl rfl) ?_
             refine zN ?_
             refine RunC.wl (τ' := [(2, ptr [i64 a0, i64 a1, sl a2.length (a2.map f32)]), (4, optr 0 1 0), (5, optr 1 1 0), (7, optr 4 1 0), (8, optr 5 1 0), (9, i64 v22), (10, i64 v30), (33, i64 a3), (34, i64 v15), (37, i64 a1), (38, i64 v22), (103, b true)]) (Γ' := [⟨1, some [i64 0, i64 0, nilsl]⟩, ⟨1, some [i64 0, i64 0, nilsl]⟩, ⟨1, some (r42.map f32)⟩, ⟨1, some (r43.map f32)⟩, ⟨1, some [i64 r3, i64 r4, oref 2 1 0 r5.length]⟩, ⟨1, some [i64 r6, i64 r7, oref 3 1 0 r8.length]⟩, ⟨(u24 + 2), none⟩, ⟨(u25 + 1), none⟩]) ⟨aR, aR, aR, aR, aR, aR, aR, aR, aR, aR, aR, aR, trivial⟩ ⟨⟨rfl, .inr rfl⟩, ⟨rfl, .inr rfl⟩, ⟨rfl, .inr rfl⟩, ⟨rfl, .inr rfl⟩, ⟨rfl, .inr rfl⟩, ⟨rfl, .inr rfl⟩, ⟨rfl, .inl rfl⟩, ⟨rfl, .inl rfl⟩, trivial⟩ ?_
             refine RunC.cond_true rfl rfl ?_
             refine zQ ?_
             refine zL (r := agg [i64 0, i64 0, nilsl]) rfl rfl rfl (LOp.build (qs := []) zer26 zok26 und26 plc26 rfl trivial rfl) ?_
             refine zL (r := agg [i64 0, i64 0, nilsl]) rfl rfl rfl (LOp.build (qs := []) zer26 zok26 und26 plc26 rfl trivial rfl) ?_
             refine ROps.store_le (r := agg [i64 0, i64 0, nilsl]) (l' := [i64 0, i64 0, nilsl]) (Γ' := [⟨1, some [i64 0, i64 0, nilsl]⟩, ⟨1, some [i64 0, i64 0, nilsl]⟩, ⟨1, some (r42.map f32)⟩, ⟨1, some (r43.map f32)⟩, ⟨1, some [i64 r3, i64 r4, oref 2 1 0 r5.length]⟩, ⟨1, some [i64 r6, i64 r7, oref 3 1 0 r8.length]⟩, ⟨(u24 + 2), none⟩, ⟨(u25 + 1), none⟩]) rfl siz26 rfl rfl rfl aR rfl rfl rfl rfl (Nat.le_of_ble_eq_true rfl) rfl rfl ?_
             refine ROps.store_le (r := agg [i64 0, i64 0, nilsl]) (l' := [i64 0, i64 0, nilsl]) (Γ' := [⟨1, some [i64 0, i64 0, nilsl]⟩, ⟨1, some [i64 0, i64 0, nilsl]⟩, ⟨1, some (r42.map f32)⟩, ⟨1, some (r43.map f32)⟩, ⟨1, some [i64 r3, i64 r4, oref 2 1 0 r5.length]⟩, ⟨1, some [i64 r6, i64 r7, oref 3 1 0 r8.length]⟩, ⟨(u24 + 2), none⟩, ⟨(u25 + 1), none⟩]) rfl siz26 rfl rfl rfl aR rfl rfl rfl rfl (Nat.le_of_ble_eq_true rfl) rfl rfl ?_
             refine zA (r := b false) rfl rfl rfl rfl rfl ?_
             refine zN ?_
             refine RunC.nil_cell (l' := [i64 0, i64 0, oref 6 (u24 + 3) 0 0]) (Γ' := [⟨1, some [i64 0, i64 0, oref 6 (u24 + 3) 0 0]⟩, ⟨1, some [i64 0, i64 0, nilsl]⟩, ⟨1, some (r42.map f32)⟩, ⟨1, some (r43.map f32)⟩, ⟨1, some [i64 r3, i64 r4, oref 2 1 0 r5.length]⟩, ⟨1, some [i64 r6, i64 r7, oref 3 1 0 r8.length]⟩, ⟨(u24 + 3), some (([] : List F).map f32)⟩, ⟨(u25 + 1), none⟩]) 0 2 6 rfl rfl rfl rfl rfl ?_
             refine RunC.nil_cell (l' := [i64 0, i64 0, oref 7 (u25 + 2) 0 0]) (Γ' := [⟨1, some [i64 0, i64 0, oref 6 (u24 + 3) 0 0]⟩, ⟨1, some [i64 0, i64 0, oref 7 (u25 + 2) 0 0]⟩, ⟨1, some (r42.map f32)⟩, ⟨1, some (r43.map f32)⟩, ⟨1, some [i64 r3, i64 r4, oref 2 1 0 r5.length]⟩, ⟨1, some [i64 r6, i64 r7, oref 3 1 0 r8.length]⟩, ⟨(u24 + 3), some (([] : List F).map f32)⟩, ⟨(u25 + 2), some (([] : List F).map f32)⟩]) 1 2 7 rfl rfl rfl rfl rfl ?_
             refine RunC.ret ?_
             cases Option.some.inj h18_
             have hx22_ := hr18 _ rfl
             subst hx22_
             cases Option.some.inj h17_
             have hx23_ := hr17 _ rfl
             subst hx23_
             cases Option.some.inj h16_
             have hx24_ := hr16 _ rfl
             subst hx24_
             have hq := Option.some.inj h
             obtain ⟨hq0, hq⟩ := Prod.mk.inj hq
             obtain ⟨hq1, hq⟩ := Prod.mk.inj hq
             obtain ⟨hq2, hq⟩ := Prod.mk.inj hq
             obtain ⟨hq3, hq⟩ := Prod.mk.inj hq
             obtain ⟨hq4, hq⟩ := Prod.mk.inj hq
             obtain ⟨hq5, hq⟩ := Prod.mk.inj hq
             subst q0
             subst q1
             subst q2
             subst q3
             subst q4
             subst q5
             subst q6
             exact bodyQ.mk (r' := tup [agg [i64 0, i64 0, oref 6 (u24 + 3) 0 (([] : List F).length)], agg [i64 0, i64 0, oref 7 (u25 + 2) 0 (([] : List F).length)], b false]) [(6, (u24 + 3)), (7, (u25 + 2))] (.inr rfl) rfl (show List.Nodup [6, 7] from by decide) (by simp [ren, rens, sigma]) rfl (Res.eq (Res.three rfl (RV.cell agg26 siz26 rfl rfl rfl rfl) (RV.cell agg26 siz26 rfl rfl rfl rfl) (RV.tmp rfl)) (by rw [(show ([] : List F).length = 0 from rfl)] <;> rfl)) (SelL.arr0 (f := f32) (fun _ => rfl) rfl (SelL.arr0 (f := f32) (fun _ => rfl) rfl trivial))
          ·refine RunC.regionW ?_
           refine zM (r := f32 r33) rfl rfl rfl rfl rfl ?_
           refine zM (r := f32 r34) rfl rfl rfl rfl rfl ?_
           refine zM (r := f32 r35) rfl rfl rfl rfl rfl ?_
           refine ROps.d (r := oref 6 (u24 + 2) 0 3) (fs := [(6, (([r33, r34, r35] : List F).map f32))]) (Γ' := [⟨1, some [i64 0, i64 0, nilsl]⟩, ⟨1, some [i64 0, i64 0, nilsl]⟩, ⟨1, some (L26.map f32)⟩, ⟨1, some (L28.map f32)⟩, ⟨1, some [i64 r3, i64 r4, oref 2 1 0 r5.length]⟩, ⟨1, some [i64 r6, i64 r7, oref 3 1 0 r8.length]⟩, ⟨(u24 + 2), some (([r33, r34, r35] : List F).map f32)⟩, ⟨(u25 + 1), none⟩]) rfl rfl rfl (TOp.buildSlice_o (g := ⟨(u24 + 1), none⟩) (za := f32 (some 0)) (qs := [(0, [f32 r33]), (1, [f32 r34]), (2, [f32 r35])]) 6 rfl und22 siz33 zer33 rfl zel33 rfl rfl ⟨rfl, ⟨_, ALe.refl _, rfl⟩, ⟨rfl, ⟨_, ALe.refl _, rfl⟩, ⟨rfl, ⟨_, ALe.refl _, rfl⟩, trivial⟩⟩⟩ rfl) rfl ?_
           refine ROps.d (r := b false) (fs := []) (Γ' := [⟨1, some [i64 0, i64 0, nilsl]⟩, ⟨1, some [i64 0, i64 0, nilsl]⟩, ⟨1, some (L26.map f32)⟩, ⟨1, some (L28.map f32)⟩, ⟨1, some [i64 r3, i64 r4, oref 2 1 0 r5.length]⟩, ⟨1, some [i64 r6, i64 r7, oref 3 1 0 r8.length]⟩, ⟨(u24 + 2), some (([r33, r34, r35] : List F).map f32)⟩, ⟨(u25 + 1), none⟩]) rfl rfl rfl (TOp.eqb (TOp.callB (CallAs.func ent62 rfl rfl) (Bors.cons (Bor.own (f := f32) (fun _ => rfl) rfl rfl) Bors.nil) rfl rfl (i_areFinite_ok ([r33, r34, r35] : List F) r36 hf16)) hc17) rfl ?_
           refine zL (r := b true) rfl rfl rfl (LOp.eqb (LOp.not rfl rfl) rfl) ?_
           refine zN ?_
           refine RunC.wl (τ' := [(2, ptr [i64 a0, i64 a1, sl a2.length (a2.map f32)]), (4, optr 0 1 0), (5, optr 1 1 0), (7, optr 4 1 0), (8, optr 5 1 0), (9, i64 v22), (10, i64 v30), (13, f32 r33), (14, f32 r34), (15, f32 r35), (33, i64 a3), (34, i64 v15), (37, i64 a1), (38, i64 v22), (69, b true)]) (Γ' := [⟨1, some [i64 0, i64 0, nilsl]⟩, ⟨1, some [i64 0, i64 0, nilsl]⟩, ⟨1, some (L26.map f32)⟩, ⟨1, some (L28.map f32)⟩, ⟨1, some [i64 r3, i64 r4, oref 2 1 0 r5.length]⟩, ⟨1, some [i64 r6, i64 r7, oref 3 1 0 r8.length]⟩, ⟨(u24 + 2), none⟩, ⟨(u25 + 1), none⟩]) ⟨aR, aR, aR, aR, aR, aR, aR, aR, aR, aR, aR, aR, aR, aR, aR, trivial⟩ ⟨⟨rfl, .inr rfl⟩, ⟨rfl, .inr rfl⟩, ⟨rfl, .inr rfl⟩, ⟨rfl, .inr rfl⟩, ⟨rfl, .inr rfl⟩, ⟨rfl, .inr rfl⟩, ⟨rfl, .inl rfl⟩, ⟨rfl, .inl rfl⟩, trivial⟩ ?_
           refine RunC.cond_true rfl rfl ?_
           refine zQ ?_
           refine zL (r := agg [i64 0, i64 0, nilsl]) rfl rfl rfl (LOp.build (qs := []) zer26 zok26 und26 plc26 rfl trivial rfl) ?_
           refine zL (r := agg [i64 0, i64 0, nilsl]) rfl rfl rfl (LOp.build (qs := []) zer26 zok26 und26 plc26 rfl trivial rfl) ?_
           refine ROps.store_le (r := agg [i64 0, i64 0, nilsl]) (l' := [i64 0, i64 0, nilsl]) (Γ' := [⟨1, some [i64 0, i64 0, nilsl]⟩, ⟨1, some [i64 0, i64 0, nilsl]⟩, ⟨1, some (L26.map f32)⟩, ⟨1, some (L28.map f32)⟩, ⟨1, some [i64 r3, i64 r4, oref 2 1 0 r5.length]⟩, ⟨1, some [i64 r6, i64 r7, oref 3 1 0 r8.length]⟩, ⟨(u24 + 2), none⟩, ⟨(u25 + 1), none⟩]) rfl siz26 rfl rfl rfl aR rfl rfl rfl rfl (Nat.le_of_ble_eq_true rfl) rfl rfl ?_
           refine ROps.store_le (r := agg [i64 0, i64 0, nilsl]) (l' := [i64 0, i64 0, nilsl]) (Γ' := [⟨1, some [i64 0, i64 0, nilsl]⟩, ⟨1, some [i64 0, i64 0, nilsl]⟩, ⟨1, some (L26.map f32)⟩, ⟨1, some (L28.map f32)⟩, ⟨1, some [i64 r3, i64 r4, oref 2 1 0 r5.length]⟩, ⟨1, some [i64 r6, i64 r7, oref 3 1 0 r8.length]⟩, ⟨(u24 + 2), none⟩, ⟨(u25 + 1), none⟩]) rfl siz26 rfl rfl rfl aR rfl rfl rfl rfl (Nat.le_of_ble_eq_true rfl) rfl rfl ?_
           refine zA (r := b false) rfl rfl rfl rfl rfl ?_
           refine zN ?_
           refine RunC.nil_cell (l' := [i64 0, i64 0, oref 6 (u24 + 3) 0 0]) (Γ' := [⟨1, some [i64 0, i64 0, oref 6 (u24 + 3) 0 0]⟩, ⟨1, some [i64 0, i64 0, nilsl]⟩, ⟨1, some (L26.map f32)⟩, ⟨1, some (L28.map f32)⟩, ⟨1, some [i64 r3, i64 r4, oref 2 1 0 r5.length]⟩, ⟨1, some [i64 r6, i64 r7, oref 3 1 0 r8.length]⟩, ⟨(u24 + 3), some (([] : List F).map f32)⟩, ⟨(u25 + 1), none⟩]) 0 2 6 rfl rfl rfl rfl rfl ?_
           refine RunC.nil_cell (l' := [i64 0, i64 0, oref 7 (u25 + 2) 0 0]) (Γ' := [⟨1, some [i64 0, i64 0, oref 6 (u24 + 3) 0 0]⟩, ⟨1, some [i64 0, i64 0, oref 7 (u25 + 2) 0 0]⟩, ⟨1, some (L26.map f32)⟩, ⟨1, some (L28.map f32)⟩, ⟨1, some [i64 r3, i64 r4, oref 2 1 0 r5.length]⟩, ⟨1, some [i64 r6, i64 r7, oref 3 1 0 r8.length]⟩, ⟨(u24 + 3), some (([] : List F).map f32)⟩, ⟨(u25 + 2), some (([] : List F).map f32)⟩]) 1 2 7 rfl rfl rfl rfl rfl ?_
           refine RunC.ret ?_
           cases Option.some.inj h18_
           have hx25_ := hr18 _ rfl
           subst hx25_
           cases Option.some.inj h17_
           have hx26_ := hr17 _ rfl
           subst hx26_
           cases Option.some.inj h16_
           have hx27_ := hr16 _ rfl
           subst hx27_
           have hq := Option.some.inj h
           obtain ⟨hq0, hq⟩ := Prod.mk.inj hq
           obtain ⟨hq1, hq⟩ := Prod.mk.inj hq
           obtain ⟨hq2, hq⟩ := Prod.mk.inj hq
           obtain ⟨hq3, hq⟩ := Prod.mk.inj hq
           obtain ⟨hq4, hq⟩ := Prod.mk.inj hq
           obtain ⟨hq5, hq⟩ := Prod.mk.inj hq
           subst q0
           subst q1
           subst q2
           subst q3
           subst q4
           subst q5
           subst q6
           exact bodyQ.mk (r' := tup [agg [i64 0, i64 0, oref 6 (u24 + 3) 0 (([] : List F).length)], agg [i64 0, i64 0, oref 7 (u25 + 2) 0 (([] : List F).length)], b false]) [(6, (u24 + 3)), (7, (u25 + 2))] (.inr rfl) rfl (show List.Nodup [6, 7] from by decide) (by simp [ren, rens, sigma]) rfl (Res.eq (Res.three rfl (RV.cell agg26 siz26 rfl rfl rfl rfl) (RV.cell agg26 siz26 rfl rfl rfl rfl) (RV.tmp rfl)) (by rw [(show ([] : List F).length = 0 from rfl)] <;> rfl)) (SelL.arr0 (f := f32) (fun _ => rfl) rfl (SelL.arr0 (f := f32) (fun _ => rfl) rfl trivial))
         ·rintro τ28 Γ28 ⟨L46, L48, hl47, hl49, hw28, hd28, h18_⟩
          refine RunC.wl hw28 hd28 ?_
          unfold i_SideTurns_k12 at h18_
          obtain ⟨x50, hx31, h18_⟩ := olet_some h18_
          refine RunC.regionW ?_
          refine zM (r := i64 v30) rfl rfl rfl rfl rfl ?_
          refine zL (r := i64 x50) rfl rfl rfl (LOp.eqr (LOp.add rfl rfl rfl) (congrArg (ik .i64) hx31)) ?_
          refine zA (r := i64 x50) rfl rfl rfl rfl rfl ?_
          refine zN ?_
          cases Option.some.inj h18_
          exact ⟨_, rfl, (u24 + 2), (u25 + 1), hl47, hl49, ⟨aR, aR, aR, aR, aR, aR, aR, aR, aR, aR, aR, trivial⟩, ⟨⟨rfl, .inr rfl⟩, ⟨rfl, .inr rfl⟩, ⟨rfl, .inr rfl⟩, ⟨rfl, .inr rfl⟩, ⟨rfl, .inr rfl⟩, ⟨rfl, .inr rfl⟩, ⟨rfl, .inl rfl⟩, ⟨rfl, .inl rfl⟩, trivial⟩⟩
        ·refine RunC.regionW ?_
         refine zM (r := i64 v30) rfl rfl rfl rfl rfl ?_
         refine zL (r := ptr [i64 a1, sl a2.length (a2.map f32)]) rfl rfl rfl (LOp.fap und26 rfl siz2 rfl rfl rfl) ?_
         refine zL (r := i64 a1) rfl rfl rfl (LOp.load1 agg2 rfl rfl) ?_
         refine zL (r := b false) rfl rfl rfl (LOp.eqb (LOp.lss rfl rfl rfl) hc10) ?_
         refine zN ?_
         refine RunC.cond_false rfl rfl ?_
         refine RunC.exit ?_
         cases Option.some.inj h18_
         have hx := ho18 _ rfl
         exact ⟨L26, L28, u24, u25, hl27, hl29, ⟨aR, aR, aR, aR, aR, aR, aR, aR, aR, trivial⟩, ⟨⟨rfl, .inr rfl⟩, ⟨rfl, .inr rfl⟩, ⟨rfl, .inr rfl⟩, ⟨rfl, .inr rfl⟩, ⟨rfl, .inr rfl⟩, ⟨rfl, .inr rfl⟩, ⟨rfl, .inl rfl⟩, ⟨rfl, .inl rfl⟩, trivial⟩, hx⟩
       ·rintro τ29 Γ29 ⟨L53, L55, u51, u52, hl54, hl56, hw29, hd29, rfl⟩
        refine RunC.wl hw29 hd29 ?_
        replace h17_ : i_SideTurns_k13 v22 L53 L55 = some y17_ := h17_
        unfold i_SideTurns_k13 at h17_
        obtain ⟨x57, hx32, h17_⟩ := olet_some h17_
        refine RunC.regionW ?_
        refine zL (r := i64 x57) rfl rfl rfl (LOp.eqr (LOp.add rfl rfl rfl) (congrArg (ik .i64) hx32)) ?_
        refine zM (r := i64 x57) rfl rfl rfl rfl rfl ?_
        refine zN ?_
        cases Option.some.inj h17_
        exact ⟨_, rfl, u51, u52, hl54, hl56, ⟨aR, aR, aR, aR, aR, aR, aR, aR, aR, trivial⟩, ⟨⟨rfl, .inr rfl⟩, ⟨rfl, .inr rfl⟩, ⟨rfl, .inr rfl⟩, ⟨rfl, .inr rfl⟩, ⟨rfl, .inr rfl⟩, ⟨rfl, .inr rfl⟩, ⟨rfl, .inl rfl⟩, ⟨rfl, .inl rfl⟩, trivial⟩⟩
      ·refine RunC.regionW ?_
       refine zL (r := b false) rfl rfl rfl (LOp.eqb (LOp.lss rfl rfl rfl) hc8) ?_
       refine zN ?_
       refine RunC.seq ?_
       refine RunC.cond_false rfl rfl ?_
       refine RunC.exit ?_
       cases Option.some.inj h17_
       have hx := ho17 _ rfl
       exact ⟨L18, L20, u16, u17, hl19, hl21, ⟨aR, aR, aR, aR, aR, aR, aR, trivial⟩, ⟨⟨rfl, .inr rfl⟩, ⟨rfl, .inr rfl⟩, ⟨rfl, .inr rfl⟩, ⟨rfl, .inr rfl⟩, ⟨rfl, .inr rfl⟩, ⟨rfl, .inr rfl⟩, ⟨rfl, .inl rfl⟩, ⟨rfl, .inl rfl⟩, trivial⟩, hx⟩
     ·rintro τ30 Γ30 ⟨L60, L62, u58, u59, hl61, hl63, hw30, hd30, rfl⟩
      refine RunC.wl hw30 hd30 ?_
      replace h16_ : i_SideTurns_k14 v15 L60 L62 = some y16_ := h16_
      unfold i_SideTurns_k14 at h16_
      obtain ⟨x64, hx33, h16_⟩ := olet_some h16_
      refine RunC.regionW ?_
      refine zL (r := i64 x64) rfl rfl rfl (LOp.eqr (LOp.add rfl rfl rfl) (congrArg (ik .i64) hx33)) ?_
      refine zM (r := i64 x64) rfl rfl rfl rfl rfl ?_
      refine zN ?_
      cases Option.some.inj h16_
      exact ⟨_, rfl, u58, u59, hl61, hl63, ⟨aR, aR, aR, aR, aR, aR, aR, trivial⟩, ⟨⟨rfl, .inr rfl⟩, ⟨rfl, .inr rfl⟩, ⟨rfl, .inr rfl⟩, ⟨rfl, .inr rfl⟩, ⟨rfl, .inr rfl⟩, ⟨rfl, .inr rfl⟩, ⟨rfl, .inl rfl⟩, ⟨rfl, .inl rfl⟩, trivial⟩⟩
    ·refine RunC.regionW ?_
     refine zL (r := b false) rfl rfl rfl (LOp.eqb (LOp.lss rfl rfl rfl) hc7) ?_
     refine zN ?_
     refine RunC.seq ?_
     refine RunC.cond_false rfl rfl ?_
     refine RunC.exit ?_
     cases Option.some.inj h16_
     have hx := ho16 _ rfl
     exact ⟨L11, L13, u9, u10, hl12, hl14, ⟨aR, aR, aR, aR, trivial⟩, ⟨⟨rfl, .inr rfl⟩, ⟨rfl, .inr rfl⟩, ⟨rfl, .inr rfl⟩, ⟨rfl, .inr rfl⟩, ⟨rfl, .inr rfl⟩, ⟨rfl, .inr rfl⟩, ⟨rfl, .inl rfl⟩, ⟨rfl, .inl rfl⟩, trivial⟩, hx⟩
   ·rintro τ31 Γ31 ⟨L67, L69, u65, u66, hl68, hl70, hw31, hd31, rfl⟩
    refine RunC.wl hw31 hd31 ?_
    replace h : i_SideTurns_k15 r3 r4 r6 r7 L67 L69 = some (q0, q1, q2, q3, q4, q5, q6) := h
    unfold i_SideTurns_k15 at h
    refine RunC.seq ?_
    refine RunC.cutN (fun τ Γ => WeakLe τ [(4, optr 0 1 0), (5, optr 1 1 0), (6, b true), (7, optr 4 1 0), (8, optr 5 1 0), (108, agg [i64 r3, i64 r4, oref 2 1 0 r5.length]), (109, agg [i64 r6, i64 r7, oref 3 1 0 r8.length])] ∧ DeadLe Γ [⟨1, some [i64 r3, i64 r4, oref 2 1 0 r5.length]⟩, ⟨1, some [i64 r6, i64 r7, oref 3 1 0 r8.length]⟩, ⟨1, some (L67.map f32)⟩, ⟨1, some (L69.map f32)⟩, ⟨1, some [i64 r3, i64 r4, oref 2 1 0 r5.length]⟩, ⟨1, some [i64 r6, i64 r7, oref 3 1 0 r8.length]⟩, ⟨u65, none⟩, ⟨u66, none⟩]) ?_ ?_
    ·refine RunC.any (n := 5) rfl mixed ?_
     refine RAny.more (i0 := 0) (l := [1]) (by kernel_rfl) (RAnys.cons rfl ?_ (RAnys.cons rfl ?_ RAnys.nil))
     ·refine ROps.d (r := agg [i64 r3, i64 r4, oref 2 1 0 r5.length]) (fs := []) (Γ' := [⟨1, some [i64 0, i64 0, nilsl]⟩, ⟨1, some [i64 0, i64 0, nilsl]⟩, ⟨1, some (L67.map f32)⟩, ⟨1, some (L69.map f32)⟩, ⟨1, some [i64 r3, i64 r4, oref 2 1 0 r5.length]⟩, ⟨1, some [i64 r6, i64 r7, oref 3 1 0 r8.length]⟩, ⟨u65, none⟩, ⟨u66, none⟩]) rfl rfl rfl (TOp.loadAgg_o rfl agg26 siz26 rfl rfl rfl rfl) rfl ?_
      refine zN ?_
      refine RAny.more (i0 := 1) (l := [2]) (by kernel_rfl) (RAnys.cons rfl ?_ (RAnys.cons rfl ?_ RAnys.nil))
      ·refine ROps.d (r := agg [i64 r6, i64 r7, oref 3 1 0 r8.length]) (fs := []) (Γ' := [⟨1, some [i64 0, i64 0, nilsl]⟩, ⟨1, some [i64 0, i64 0, nilsl]⟩, ⟨1, some (L67.map f32)⟩, ⟨1, some (L69.map f32)⟩, ⟨1, some [i64 r3, i64 r4, oref 2 1 0 r5.length]⟩, ⟨1, some [i64 r6, i64 r7, oref 3 1 0 r8.length]⟩, ⟨u65, none⟩, ⟨u66, none⟩]) rfl rfl rfl (TOp.loadAgg_o rfl agg26 siz26 rfl rfl rfl rfl) rfl ?_
       refine zN ?_
       refine RAny.more (i0 := 2) (l := []) (by kernel_rfl) (RAnys.cons rfl ?_ RAnys.nil)
       refine ROps.store_le (r := agg [i64 r3, i64 r4, oref 2 1 0 r5.length]) (l' := [i64 r3, i64 r4, oref 2 1 0 r5.length]) (Γ' := [⟨1, some [i64 r3, i64 r4, oref 2 1 0 r5.length]⟩, ⟨1, some [i64 0, i64 0, nilsl]⟩, ⟨1, some (L67.map f32)⟩, ⟨1, some (L69.map f32)⟩, ⟨1, some [i64 r3, i64 r4, oref 2 1 0 r5.length]⟩, ⟨1, some [i64 r6, i64 r7, oref 3 1 0 r8.length]⟩, ⟨u65, none⟩, ⟨u66, none⟩]) rfl siz26 rfl rfl rfl aR rfl rfl rfl rfl (Nat.le_of_ble_eq_true rfl) rfl rfl ?_
       refine zN ?_
       refine RAny.more (i0 := 3) (l := []) (by kernel_rfl) (RAnys.cons rfl ?_ RAnys.nil)
       refine ROps.store_le (r := agg [i64 r6, i64 r7, oref 3 1 0 r8.length]) (l' := [i64 r6, i64 r7, oref 3 1 0 r8.length]) (Γ' := [⟨1, some [i64 r3, i64 r4, oref 2 1 0 r5.length]⟩, ⟨1, some [i64 r6, i64 r7, oref 3 1 0 r8.length]⟩, ⟨1, some (L67.map f32)⟩, ⟨1, some (L69.map f32)⟩, ⟨1, some [i64 r3, i64 r4, oref 2 1 0 r5.length]⟩, ⟨1, some [i64 r6, i64 r7, oref 3 1 0 r8.length]⟩, ⟨u65, none⟩, ⟨u66, none⟩]) rfl siz26 rfl rfl rfl aR rfl rfl rfl rfl (Nat.le_of_ble_eq_true rfl) rfl rfl ?_
       refine zN ?_
       refine RAny.more (i0 := 4) (l := []) (by kernel_rfl) (RAnys.cons rfl ?_ RAnys.nil)
       refine zA (r := b true) rfl rfl rfl rfl rfl ?_
       refine zN ?_
       refine RAny.done (by kernel_rfl) ?_
       exact ⟨⟨aR, aR, aR, aR, aR, aR, aR, trivial⟩, ⟨⟨rfl, .inr rfl⟩, ⟨rfl, .inr rfl⟩, ⟨rfl, .inr rfl⟩, ⟨rfl, .inr rfl⟩, ⟨rfl, .inr rfl⟩, ⟨rfl, .inr rfl⟩, ⟨rfl, .inl rfl⟩, ⟨rfl, .inl rfl⟩, trivial⟩⟩
      ·refine ROps.store_le (r := agg [i64 r3, i64 r4, oref 2 1 0 r5.length]) (l' := [i64 r3, i64 r4, oref 2 1 0 r5.length]) (Γ' := [⟨1, some [i64 r3, i64 r4, oref 2 1 0 r5.length]⟩, ⟨1, some [i64 0, i64 0, nilsl]⟩, ⟨1, some (L67.map f32)⟩, ⟨1, some (L69.map f32)⟩, ⟨1, some [i64 r3, i64 r4, oref 2 1 0 r5.length]⟩, ⟨1, some [i64 r6, i64 r7, oref 3 1 0 r8.length]⟩, ⟨u65, none⟩, ⟨u66, none⟩]) rfl siz26 rfl rfl rfl aR rfl rfl rfl rfl (Nat.le_of_ble_eq_true rfl) rfl rfl ?_
       refine zN ?_
       refine RAny.more (i0 := 1) (l := []) (by kernel_rfl) (RAnys.cons rfl ?_ RAnys.nil)
       refine ROps.d (r := agg [i64 r6, i64 r7, oref 3 1 0 r8.length]) (fs := []) (Γ' := [⟨1, some [i64 r3, i64 r4, oref 2 1 0 r5.length]⟩, ⟨1, some [i64 0, i64 0, nilsl]⟩, ⟨1, some (L67.map f32)⟩, ⟨1, some (L69.map f32)⟩, ⟨1, some [i64 r3, i64 r4, oref 2 1 0 r5.length]⟩, ⟨1, some [i64 r6, i64 r7, oref 3 1 0 r8.length]⟩, ⟨u65, none⟩, ⟨u66, none⟩]) rfl rfl rfl (TOp.loadAgg_o rfl agg26 siz26 rfl rfl rfl rfl) rfl ?_
       refine zN ?_
       refine RAny.more (i0 := 3) (l := []) (by kernel_rfl) (RAnys.cons rfl ?_ RAnys.nil)
       refine ROps.store_le (r := agg [i64 r6, i64 r7, oref 3 1 0 r8.length]) (l' := [i64 r6, i64 r7, oref 3 1 0 r8.length]) (Γ' := [⟨1, some [i64 r3, i64 r4, oref 2 1 0 r5.length]⟩, ⟨1, some [i64 r6, i64 r7, oref 3 1 0 r8.length]⟩, ⟨1, some (L67.map f32)⟩, ⟨1, some (L69.map f32)⟩, ⟨1, some [i64 r3, i64 r4, oref 2 1 0 r5.length]⟩, ⟨1, some [i64 r6, i64 r7, oref 3 1 0 r8.length]⟩, ⟨u65, none⟩, ⟨u66, none⟩]) rfl siz26 rfl rfl rfl aR rfl rfl rfl rfl (Nat.le_of_ble_eq_true rfl) rfl rfl ?_
       refine zN ?_
       refine RAny.more (i0 := 4) (l := []) (by kernel_rfl) (RAnys.cons rfl ?_ RAnys.nil)
       refine zA (r := b true) rfl rfl rfl rfl rfl ?_
       refine zN ?_
       refine RAny.done (by kernel_rfl) ?_
       exact ⟨⟨aR, aR, aR, aR, aR, aR, aR, trivial⟩, ⟨⟨rfl, .inr rfl⟩, ⟨rfl, .inr rfl⟩, ⟨rfl, .inr rfl⟩, ⟨rfl, .inr rfl⟩, ⟨rfl, .inr rfl⟩, ⟨rfl, .inr rfl⟩, ⟨rfl, .inl rfl⟩, ⟨rfl, .inl rfl⟩, trivial⟩⟩
     ·refine ROps.d (r := agg [i64 r6, i64 r7, oref 3 1 0 r8.length]) (fs := []) (Γ' := [⟨1, some [i64 0, i64 0, nilsl]⟩, ⟨1, some [i64 0, i64 0, nilsl]⟩, ⟨1, some (L67.map f32)⟩, ⟨1, some (L69.map f32)⟩, ⟨1, some [i64 r3, i64 r4, oref 2 1 0 r5.length]⟩, ⟨1, some [i64 r6, i64 r7, oref 3 1 0 r8.length]⟩, ⟨u65, none⟩, ⟨u66, none⟩]) rfl rfl rfl (TOp.loadAgg_o rfl agg26 siz26 rfl rfl rfl rfl) rfl ?_
      refine zN ?_
      refine RAny.more (i0 := 0) (l := []) (by kernel_rfl) (RAnys.cons rfl ?_ RAnys.nil)
      refine ROps.d (r := agg [i64 r3, i64 r4, oref 2 1 0 r5.length]) (fs := []) (Γ' := [⟨1, some [i64 0, i64 0, nilsl]⟩, ⟨1, some [i64 0, i64 0, nilsl]⟩, ⟨1, some (L67.map f32)⟩, ⟨1, some (L69.map f32)⟩, ⟨1, some [i64 r3, i64 r4, oref 2 1 0 r5.length]⟩, ⟨1, some [i64 r6, i64 r7, oref 3 1 0 r8.length]⟩, ⟨u65, none⟩, ⟨u66, none⟩]) rfl rfl rfl (TOp.loadAgg_o rfl agg26 siz26 rfl rfl rfl rfl) rfl ?_
      refine zN ?_
      refine RAny.more (i0 := 2) (l := []) (by kernel_rfl) (RAnys.cons rfl ?_ RAnys.nil)
      refine ROps.store_le (r := agg [i64 r3, i64 r4, oref 2 1 0 r5.length]) (l' := [i64 r3, i64 r4, oref 2 1 0 r5.length]) (Γ' := [⟨1, some [i64 r3, i64 r4, oref 2 1 0 r5.length]⟩, ⟨1, some [i64 0, i64 0, nilsl]⟩, ⟨1, some (L67.map f32)⟩, ⟨1, some (L69.map f32)⟩, ⟨1, some [i64 r3, i64 r4, oref 2 1 0 r5.length]⟩, ⟨1, some [i64 r6, i64 r7, oref 3 1 0 r8.length]⟩, ⟨u65, none⟩, ⟨u66, none⟩]) rfl siz26 rfl rfl rfl aR rfl rfl rfl rfl (Nat.le_of_ble_eq_true rfl) rfl rfl ?_
      refine zN ?_
      refine RAny.more (i0 := 3) (l := []) (by kernel_rfl) (RAnys.cons rfl ?_ RAnys.nil)
      refine ROps.store_le (r := agg [i64 r6, i64 r7, oref 3 1 0 r8.length]) (l' := [i64 r6, i64 r7, oref 3 1 0 r8.length]) (Γ' := [⟨1, some [i64 r3, i64 r4, oref 2 1 0 r5.length]⟩, ⟨1, some [i64 r6, i64 r7, oref 3 1 0 r8.length]⟩, ⟨1, some (L67.map f32)⟩, ⟨1, some (L69.map f32)⟩, ⟨1, some [i64 r3, i64 r4, oref 2 1 0 r5.length]⟩, ⟨1, some [i64 r6, i64 r7, oref 3 1 0 r8.length]⟩, ⟨u65, none⟩, ⟨u66, none⟩]) rfl siz26 rfl rfl rfl aR rfl rfl rfl rfl (Nat.le_of_ble_eq_true rfl) rfl rfl ?_
      refine zN ?_
      refine RAny.more (i0 := 4) (l := []) (by kernel_rfl) (RAnys.cons rfl ?_ RAnys.nil)
      refine zA (r := b true) rfl rfl rfl rfl rfl ?_
      refine zN ?_
      refine RAny.done (by kernel_rfl) ?_
      exact ⟨⟨aR, aR, aR, aR, aR, aR, aR, trivial⟩, ⟨⟨rfl, .inr rfl⟩, ⟨rfl, .inr rfl⟩, ⟨rfl, .inr rfl⟩, ⟨rfl, .inr rfl⟩, ⟨rfl, .inr rfl⟩, ⟨rfl, .inr rfl⟩, ⟨rfl, .inl rfl⟩, ⟨rfl, .inl rfl⟩, trivial⟩⟩
    ·rintro τ32 Γ32 ⟨hw32, hd32⟩
     refine RunC.wl hw32 hd32 ?_
     refine RunC.ret ?_
     have hq := Option.some.inj h
     obtain ⟨hq0, hq⟩ := Prod.mk.inj hq
     obtain ⟨hq1, hq⟩ := Prod.mk.inj hq
     obtain ⟨hq2, hq⟩ := Prod.mk.inj hq
     obtain ⟨hq3, hq⟩ := Prod.mk.inj hq
     obtain ⟨hq4, hq⟩ := Prod.mk.inj hq
     obtain ⟨hq5, hq⟩ := Prod.mk.inj hq
     subst q0
     subst q1
     subst q2
     subst q3
     subst q4
     subst q5
     subst q6
     exact bodyQ.mk (r' := tup [agg [i64 r3, i64 r4, oref 2 1 0 L67.length], agg [i64 r6, i64 r7, oref 3 1 0 L69.length], b true]) [(2, 1), (3, 1)] (.inr rfl) rfl (show List.Nodup [2, 3] from by decide) rfl rfl (Res.eq (Res.three rfl (RV.cell agg26 siz26 rfl rfl rfl rfl) (RV.cell agg26 siz26 rfl rfl rfl rfl) (RV.tmp rfl)) (by rw [(show L67.length = r5.length from hl68), (show L69.length = r8.length from hl70)] <;> rfl)) (SelL.arr0 (f := f32) (fun _ => rfl) rfl (SelL.arr0 (f := f32) (fun _ => rfl) rfl trivial))
  ·refine RunC.regionW ?_
   refine zL (r := agg [i64 a0, i64 a1, sl a2.length (a2.map f32)]) rfl rfl rfl (LOp.loadAgg agg26 siz26 rfl rfl rfl rfl) ?_
   refine ROps.d (r := b true) (fs := []) (Γ' := [⟨1, some [i64 0, i64 0, nilsl]⟩, ⟨1, some [i64 0, i64 0, nilsl]⟩, ⟨0, none⟩, ⟨0, none⟩, ⟨0, none⟩, ⟨0, none⟩, ⟨0, none⟩, ⟨0, none⟩]) rfl rfl rfl (TOp.eqb (TOp.callB (CallAs.func ent56 rfl rfl) (Bors.cons (Bor.agg (Bors.cons (Bor.pure rfl) (Bors.cons (Bor.pure rfl) (Bors.cons (Bor.sl (fun _ => rfl)) Bors.nil)))) Bors.nil) rfl rfl (i_isTall_ok a0 a1 a2 r1 hf1)) hc2) rfl ?_
   refine zL (r := b false) rfl rfl rfl (LOp.eqb (LOp.not rfl rfl) rfl) ?_
   refine zM (r := b false) rfl rfl rfl rfl rfl ?_
   refine zM (r := i64 a3) rfl rfl rfl rfl rfl ?_
   refine ROps.d (r := b false) (fs := []) (Γ' := [⟨1, some [i64 0, i64 0, nilsl]⟩, ⟨1, some [i64 0, i64 0, nilsl]⟩, ⟨0, none⟩, ⟨0, none⟩, ⟨0, none⟩, ⟨0, none⟩, ⟨0, none⟩, ⟨0, none⟩]) rfl rfl rfl (TOp.eqb (TOp.callB (CallAs.func ent57 rfl rfl) (Bors.cons (Bor.pure rfl) Bors.nil) rfl rfl (i_isRounds_ok a3 r2 hf3)) hc4) rfl ?_
   refine zL (r := b true) rfl rfl rfl (LOp.eqb (LOp.not rfl rfl) rfl) ?_
   refine zL (r := b true) rfl rfl rfl (LOp.pick_false rfl rfl rfl) ?_
   refine zN ?_
   refine RunC.cond_true rfl rfl ?_
   refine zQ ?_
   refine zL (r := agg [i64 0, i64 0, nilsl]) rfl rfl rfl (LOp.build (qs := []) zer26 zok26 und26 plc26 rfl trivial rfl) ?_
   refine zL (r := agg [i64 0, i64 0, nilsl]) rfl rfl rfl (LOp.build (qs := []) zer26 zok26 und26 plc26 rfl trivial rfl) ?_
   refine ROps.store_le (r := agg [i64 0, i64 0, nilsl]) (l' := [i64 0, i64 0, nilsl]) (Γ' := [⟨1, some [i64 0, i64 0, nilsl]⟩, ⟨1, some [i64 0, i64 0, nilsl]⟩, ⟨0, none⟩, ⟨0, none⟩, ⟨0, none⟩, ⟨0, none⟩, ⟨0, none⟩, ⟨0, none⟩]) rfl siz26 rfl rfl rfl aR rfl rfl rfl rfl (Nat.le_of_ble_eq_true rfl) rfl rfl ?_
   refine ROps.store_le (r := agg [i64 0, i64 0, nilsl]) (l' := [i64 0, i64 0, nilsl]) (Γ' := [⟨1, some [i64 0, i64 0, nilsl]⟩, ⟨1, some [i64 0, i64 0, nilsl]⟩, ⟨0, none⟩, ⟨0, none⟩, ⟨0, none⟩, ⟨0, none⟩, ⟨0, none⟩, ⟨0, none⟩]) rfl siz26 rfl rfl rfl aR rfl rfl rfl rfl (Nat.le_of_ble_eq_true rfl) rfl rfl ?_
   refine zA (r := b false) rfl rfl rfl rfl rfl ?_
   refine zN ?_
   refine RunC.nil_cell (l' := [i64 0, i64 0, oref 2 1 0 0]) (Γ' := [⟨1, some [i64 0, i64 0, oref 2 1 0 0]⟩, ⟨1, some [i64 0, i64 0, nilsl]⟩, ⟨1, some (([] : List F).map f32)⟩, ⟨0, none⟩, ⟨0, none⟩, ⟨0, none⟩, ⟨0, none⟩, ⟨0, none⟩]) 0 2 2 rfl rfl rfl rfl rfl ?_
   refine RunC.nil_cell (l' := [i64 0, i64 0, oref 3 1 0 0]) (Γ' := [⟨1, some [i64 0, i64 0, oref 2 1 0 0]⟩, ⟨1, some [i64 0, i64 0, oref 3 1 0 0]⟩, ⟨1, some (([] : List F).map f32)⟩, ⟨1, some (([] : List F).map f32)⟩, ⟨0, none⟩, ⟨0, none⟩, ⟨0, none⟩, ⟨0, none⟩]) 1 2 3 rfl rfl rfl rfl rfl ?_
   refine RunC.ret ?_
   have hq := Option.some.inj h
   obtain ⟨hq0, hq⟩ := Prod.mk.inj hq
   obtain ⟨hq1, hq⟩ := Prod.mk.inj hq
   obtain ⟨hq2, hq⟩ := Prod.mk.inj hq
   obtain ⟨hq3, hq⟩ := Prod.mk.inj hq
   obtain ⟨hq4, hq⟩ := Prod.mk.inj hq
   obtain ⟨hq5, hq⟩ := Prod.mk.inj hq
   subst q0
   subst q1
   subst q2
   subst q3
   subst q4
   subst q5
   subst q6
   exact bodyQ.mk (r' := tup [agg [i64 0, i64 0, oref 2 1 0 (([] : List F).length)], agg [i64 0, i64 0, oref 3 1 0 (([] : List F).length)], b false]) [(2, 1), (3, 1)] (.inr rfl) rfl (show List.Nodup [2, 3] from by decide) rfl rfl (Res.eq (Res.three rfl (RV.cell agg26 siz26 rfl rfl rfl rfl) (RV.cell agg26 siz26 rfl rfl rfl rfl) (RV.tmp rfl)) (by rw [(show ([] : List F).length = 0 from rfl)] <;> rfl)) (SelL.arr0 (f := f32) (fun _ => rfl) rfl (SelL.arr0 (f := f32) (fun _ => rfl) rfl trivial))
 ·refine RunC.regionW ?_
  refine zL (r := agg [i64 a0, i64 a1, sl a2.length (a2.map f32)]) rfl rfl rfl (LOp.loadAgg agg26 siz26 rfl rfl rfl rfl) ?_
  refine ROps.d (r := b false) (fs := []) (Γ' := [⟨1, some [i64 0, i64 0, nilsl]⟩, ⟨1, some [i64 0, i64 0, nilsl]⟩, ⟨0, none⟩, ⟨0, none⟩, ⟨0, none⟩, ⟨0, none⟩, ⟨0, none⟩, ⟨0, none⟩]) rfl rfl rfl (TOp.eqb (TOp.callB (CallAs.func ent56 rfl rfl) (Bors.cons (Bor.agg (Bors.cons (Bor.pure rfl) (Bors.cons (Bor.pure rfl) (Bors.cons (Bor.sl (fun _ => rfl)) Bors.nil)))) Bors.nil) rfl rfl (i_isTall_ok a0 a1 a2 r1 hf1)) hc2) rfl ?_
  refine zL (r := b true) rfl rfl rfl (LOp.eqb (LOp.not rfl rfl) rfl) ?_
  refine zM (r := b true) rfl rfl rfl rfl rfl ?_
  refine ROps.s rfl rfl rfl ?_
  refine ROps.s rfl rfl rfl ?_
  refine ROps.s rfl rfl rfl ?_
  refine zL (r := b true) rfl rfl rfl (LOp.pick_true rfl rfl rfl) ?_
  refine zN ?_
  refine RunC.cond_true rfl rfl ?_
  refine zQ ?_
  refine zL (r := agg [i64 0, i64 0, nilsl]) rfl rfl rfl (LOp.build (qs := []) zer26 zok26 und26 plc26 rfl trivial rfl) ?_
  refine zL (r := agg [i64 0, i64 0, nilsl]) rfl rfl rfl (LOp.build (qs := []) zer26 zok26 und26 plc26 rfl trivial rfl) ?_
  refine ROps.store_le (r := agg [i64 0, i64 0, nilsl]) (l' := [i64 0, i64 0, nilsl]) (Γ' := [⟨1, some [i64 0, i64 0, nilsl]⟩, ⟨1, some [i64 0, i64 0, nilsl]⟩, ⟨0, none⟩, ⟨0, none⟩, ⟨0, none⟩, ⟨0, none⟩, ⟨0, none⟩, ⟨0, none⟩]) rfl siz26 rfl rfl rfl aR rfl rfl rfl rfl (Nat.le_of_ble_eq_true rfl) rfl rfl ?_
  refine ROps.store_le (r := agg [i64 0, i64 0, nilsl]) (l' := [i64 0, i64 0, nilsl]) (Γ' := [⟨1, some [i64 0, i64 0, nilsl]⟩, ⟨1, some [i64 0, i64 0, nilsl]⟩, ⟨0, none⟩, ⟨0, none⟩, ⟨0, none⟩, ⟨0, none⟩, ⟨0, none⟩, ⟨0, none⟩]) rfl siz26 rfl rfl rfl aR rfl rfl rfl rfl (Nat.le_of_ble_eq_true rfl) rfl rfl ?_
  refine zA (r := b false) rfl rfl rfl rfl rfl ?_
  refine zN ?_
  refine RunC.nil_cell (l' := [i64 0, i64 0, oref 2 1 0 0]) (Γ' := [⟨1, some [i64 0, i64 0, oref 2 1 0 0]⟩, ⟨1, some [i64 0, i64 0, nilsl]⟩, ⟨1, some (([] : List F).map f32)⟩, ⟨0, none⟩, ⟨0, none⟩, ⟨0, none⟩, ⟨0, none⟩, ⟨0, none⟩]) 0 2 2 rfl rfl rfl rfl rfl ?_
  refine RunC.nil_cell (l' := [i64 0, i64 0, oref 3 1 0 0]) (Γ' := [⟨1, some [i64 0, i64 0, oref 2 1 0 0]⟩, ⟨1, some [i64 0, i64 0, oref 3 1 0 0]⟩, ⟨1, some (([] : List F).map f32)⟩, ⟨1, some (([] : List F).map f32)⟩, ⟨0, none⟩, ⟨0, none⟩, ⟨0, none⟩, ⟨0, none⟩]) 1 2 3 rfl rfl rfl rfl rfl ?_
  refine RunC.ret ?_
  have hq := Option.some.inj h
  obtain ⟨hq0, hq⟩ := Prod.mk.inj hq
  obtain ⟨hq1, hq⟩ := Prod.mk.inj hq
  obtain ⟨hq2, hq⟩ := Prod.mk.inj hq
  obtain ⟨hq3, hq⟩ := Prod.mk.inj hq
  obtain ⟨hq4, hq⟩ := Prod.mk.inj hq
  obtain ⟨hq5, hq⟩ := Prod.mk.inj hq
  subst q0
  subst q1
  subst q2
  subst q3
  subst q4
  subst q5
  subst q6
  exact bodyQ.mk (r' := tup [agg [i64 0, i64 0, oref 2 1 0 (([] : List F).length)], agg [i64 0, i64 0, oref 3 1 0 (([] : List F).length)], b false]) [(2, 1), (3, 1)] (.inr rfl) rfl (show List.Nodup [2, 3] from by decide) rfl rfl (Res.eq (Res.three rfl (RV.cell agg26 siz26 rfl rfl rfl rfl) (RV.cell agg26 siz26 rfl rfl rfl rfl) (RV.tmp rfl)) (by rw [(show ([] : List F).length = 0 from rfl)] <;> rfl)) (SelL.arr0 (f := f32) (fun _ => rfl) rfl (SelL.arr0 (f := f32) (fun _ => rfl) rfl trivial))
noncomputable def i_Matrix_columnSquares_b1 (a0 : Int) (a1 : Int) (a2 : List F) (L3 : List F) (v4 : Int) : Option (LR ((List F) × Int) ((List F)) ((List F))) :=
 bsel (decide (v4 < a1)) (
  obind (i_Matrix_column a0 a1 a2 v4) fun (r5 : List F) =>
  obind (i_Matrix_column a0 a1 a2 v4) fun (r6 : List F) =>
  obind (i_dot r5 r6) fun (r7 : F) =>
  need (apok 4 L3.length 1) <|
  olet (IntKind.i64.wrap (v4 + 1)) fun (x8 : Int) =>
  some (LR.next ((L3 ++ ([r7] : List F)), x8))) (
  some (LR.out L3))
noncomputable def i_Matrix_columnSquares_s1 (a0 : Int) (a1 : Int) (a2 : List F) : ((List F) × Int) → Option (LR ((List F) × Int) ((List F)) ((List F))) := fun s => i_Matrix_columnSquares_b1 a0 a1 a2 s.1 s.2
noncomputable def i_Matrix_columnSquares_k1 (L11 : List F) : Option ((List F)) :=
 some L11
noncomputable def i_Matrix_columnSquares (a0 : Int) (a1 : Int) (a2 : List F) : Option ((List F)) :=
 obind (loopM (i_Matrix_columnSquares_s1 a0 a1 a2) (([] : List F), 0)) fun z => osum z (fun e => i_Matrix_columnSquares_k1 e) (fun r => some r)
theorem i_Matrix_columnSquares_ok (a0 : Int) (a1 : Int) (a2 : List F) (q0 : List F) (h : i_Matrix_columnSquares a0 a1 a2 = some q0) : Ev Tryz.prog 26 [agg [i64 a0, i64 a1, sl a2.length (a2.map f32)]] [] (oref 0 0 0 q0.length) [⟨0, some (q0.map f32)⟩] := by
 refine Ev.start Tryz.func26 rfl rfl 2 (τ := [(0, agg [i64 a0, i64 a1, sl a2.length (a2.map f32)])]) rfl (Γ' := [⟨0, none⟩, ⟨0, none⟩]) rfl (n := 47) rfl (g := 0) rfl (fun _ => rfl) ?_
 unfold i_Matrix_columnSquares at h
 refine zQ ?_
 refine ROps.d (r := ptr [i64 a0, i64 a1, sl a2.length (a2.map f32)]) (fs := []) (Γ' := [⟨0, none⟩, ⟨0, none⟩]) rfl rfl rfl (TOp.box_s rfl rfl rfl) rfl ?_
 refine zA (r := nilsl) rfl rfl rfl rfl rfl ?_
 refine zN ?_
 refine zQ ?_
 refine ROps.d (r := oref 0 1 0 0) (fs := [(0, (([] : List F).map f32))]) (Γ' := [⟨1, some (([] : List F).map f32)⟩, ⟨0, none⟩]) rfl rfl rfl (TOp.buildSlice_o (g := ⟨0, none⟩) (za := f32 (some 0)) (qs := []) 0 rfl und22 siz33 zer33 rfl zel33 rfl rfl trivial rfl) rfl ?_
 refine zA (r := oref 0 1 0 0) rfl rfl rfl rfl rfl ?_
 refine zN ?_
 refine RunC.seq ?_
 refine zQ ?_
 refine zL (r := ptr [i64 a1, sl a2.length (a2.map f32)]) rfl rfl rfl (LOp.fap und26 rfl siz2 rfl rfl rfl) ?_
 refine zL (r := i64 a1) rfl rfl rfl (LOp.load1 agg2 rfl rfl) ?_
 refine zM (r := i64 0) rfl rfl rfl rfl rfl ?_
 refine zN ?_
 obtain ⟨z2, hz_2, h⟩ := obind_some h
 refine RunC.cutN (fun τ Γ => ∃ (L11 : List F) (u9 : Nat) (u10 : Nat), WeakLe τ [(3, oref 0 u9 0 L11.length)] ∧ DeadLe Γ [⟨u9, some (L11.map f32)⟩, ⟨u10, none⟩] ∧ z2 = .inl L11) ?_ ?_
 ·refine RunC.block (RunC.loop (RunL.loopM (x := z2) (i_Matrix_columnSquares_s1 a0 a1 a2) (fun (s : (List F) × Int) τ Γ => ∃ (u1 : Nat) (u2 : Nat), WeakLe τ [(1, ptr [i64 a0, i64 a1, sl a2.length (a2.map f32)]), (3, oref 0 u1 0 s.1.length), (7, i64 a1), (8, i64 s.2)] ∧ DeadLe Γ [⟨u1, some (s.1.map f32)⟩, ⟨u2, none⟩]) ?_ _ _ _ hz_2 ⟨1, 0, ⟨aR, aR, aR, aR, trivial⟩, ⟨⟨rfl, .inr rfl⟩, ⟨rfl, .inl rfl⟩, trivial⟩⟩))
  rintro ⟨L3, v4⟩ τ2 Γ2 y2_ ⟨u1, u2, hw2, hd2⟩ h2_ ho2 hr2
  refine RunC.wl (τ' := [(1, ptr [i64 a0, i64 a1, sl a2.length (a2.map f32)]), (3, oref 0 u1 0 L3.length), (7, i64 a1), (8, i64 v4)]) (Γ' := [⟨u1, some (L3.map f32)⟩, ⟨u2, none⟩]) hw2 hd2 ?_
  replace h2_ : i_Matrix_columnSquares_b1 a0 a1 a2 L3 v4 = some y2_ := h2_
  unfold i_Matrix_columnSquares_b1 at h2_
  refine RunC.seq ?_
  rcases bsel_some h2_ with ⟨hc1, h2_⟩ | ⟨hc1, h2_⟩
  ·refine RunC.regionW ?_
   refine zL (r := b true) rfl rfl rfl (LOp.eqb (LOp.lss rfl rfl rfl) hc1) ?_
   refine zN ?_
   refine RunC.seq ?_
   refine RunC.cond_true rfl rfl ?_
   refine RunC.skip ?_
   refine RunC.seq ?_
   refine RunC.block ?_
   refine zQ ?_
   refine zM (r := i64 v4) rfl rfl rfl rfl rfl ?_
   refine zA (r := i64 v4) rfl rfl rfl rfl rfl ?_
   refine zN ?_
   obtain ⟨r5, hf2, h2_⟩ := obind_some h2_
   obtain ⟨r6, hf3, h2_⟩ := obind_some h2_
   obtain ⟨r7, hf4, h2_⟩ := obind_some h2_
   obtain ⟨hm5, h2_⟩ := need_some h2_
   refine RunC.region_draw (Γ' := [⟨u1, some (L3.map f32)⟩, ⟨(u2 + 1), some (([r7] : List F).map f32)⟩]) 9 mixed 
    (TR.l (r := oref 0 u1 0 L3.length) rfl rfl (LOp.move rfl rfl) <|
    (TR.l (r := agg [i64 a0, i64 a1, sl a2.length (a2.map f32)]) rfl rfl (LOp.loadAgg agg26 siz26 rfl rfl rfl rfl) <|
    (TR.l (r := i64 v4) rfl rfl (LOp.move rfl rfl) <|
    (TR.d (r := sl r5.length (r5.map f32)) (fs := []) rfl rfl (TOp.callS (CallAs.func ent60 rfl rfl) (ALes.cons aR (ALes.cons aR ALes.nil)) (lts_cons (lt_agg (lts_cons rfl (lts_cons rfl (lts_cons (lt_sl (fun _ => rfl)) lts_nil)))) (lts_cons rfl lts_nil)) (lt_sl (fun _ => rfl)) (i_Matrix_column_ok a0 a1 a2 v4 r5 hf2) (Bor.own (f := f32) (fun _ => rfl) rfl rfl)) <|
    (TR.l (r := agg [i64 a0, i64 a1, sl a2.length (a2.map f32)]) rfl rfl (LOp.loadAgg agg26 siz26 rfl rfl rfl rfl) <|
    (TR.l (r := i64 v4) rfl rfl (LOp.move rfl rfl) <|
    (TR.d (r := sl r6.length (r6.map f32)) (fs := []) rfl rfl (TOp.callS (CallAs.func ent60 rfl rfl) (ALes.cons aR (ALes.cons aR ALes.nil)) (lts_cons (lt_agg (lts_cons rfl (lts_cons rfl (lts_cons (lt_sl (fun _ => rfl)) lts_nil)))) (lts_cons rfl lts_nil)) (lt_sl (fun _ => rfl)) (i_Matrix_column_ok a0 a1 a2 v4 r6 hf3) (Bor.own (f := f32) (fun _ => rfl) rfl rfl)) <|
    (TR.d (r := f32 r7) (fs := []) rfl rfl (TOp.callB (CallAs.func ent61 rfl rfl) (Bors.cons (Bor.sl (fun _ => rfl)) (Bors.cons (Bor.sl (fun _ => rfl)) Bors.nil)) rfl rfl (i_dot_ok r5 r6 r7 hf4)) <|
    (TR.d (r := oref 1 (u2 + 1) 0 1) (fs := [(1, (([r7] : List F).map f32))]) rfl rfl (TOp.buildSlice_o (g := ⟨u2, none⟩) (za := f32 (some 0)) (qs := [(0, [f32 r7])]) 1 rfl und22 siz33 zer33 rfl zel33 rfl rfl ⟨rfl, ⟨_, ALe.refl _, rfl⟩, trivial⟩ rfl) <|
    TR.nil))))))))) rfl (by kernel_rfl) rfl (fills_of (by show List.Nodup [1]; decide) ⟨⟨_, rfl⟩, trivial⟩) rfl ?_
   iterate 9 refine ROps.dropS ?_
   refine ROps.drop0 ?_
   refine ROps.app (f := f32) (xs := L3) (ys := ([r7] : List F)) (Γ' := [⟨(u1 + 1), some ((L3 ++ ([r7] : List F)).map f32)⟩, ⟨(u2 + 1), some (([r7] : List F).map f32)⟩]) rfl pun22 inf33 rfl rfl rfl rfl rfl rfl rfl rfl rfl (by simp) (ReadAs.own rfl (by simp)) (ones_map (fun _ => rfl)) (ap_by hm5) (ap_mx hm5) rfl ?_
   refine zA (r := oref 0 (u1 + 1) 0 (L3.length + 1)) rfl rfl rfl rfl rfl ?_
   refine zN ?_
   refine RunC.wl (τ' := [(1, ptr [i64 a0, i64 a1, sl a2.length (a2.map f32)]), (3, oref 0 (u1 + 1) 0 (L3.length + 1)), (7, i64 a1), (8, i64 v4)]) (Γ' := [⟨(u1 + 1), some ((L3 ++ ([r7] : List F)).map f32)⟩, ⟨(u2 + 1), none⟩]) ⟨aR, aR, aR, aR, trivial⟩ ⟨⟨rfl, .inr rfl⟩, ⟨rfl, .inl rfl⟩, trivial⟩ ?_
   obtain ⟨x8, hx6, h2_⟩ := olet_some h2_
   refine RunC.regionW ?_
   refine zL (r := i64 x8) rfl rfl rfl (LOp.eqr (LOp.add rfl rfl rfl) (congrArg (ik .i64) hx6)) ?_
   refine zM (r := i64 x8) rfl rfl rfl rfl rfl ?_
   refine zN ?_
   cases Option.some.inj h2_
   exact ⟨_, rfl, (u1 + 1), (u2 + 1), ⟨aR, (ALe.eq (by rw [(app_len rfl rfl)] <;> rfl)), aR, aR, trivial⟩, ⟨⟨rfl, .inr rfl⟩, ⟨rfl, .inl rfl⟩, trivial⟩⟩
  ·refine RunC.regionW ?_
   refine zL (r := b false) rfl rfl rfl (LOp.eqb (LOp.lss rfl rfl rfl) hc1) ?_
   refine zN ?_
   refine RunC.seq ?_
   refine RunC.cond_false rfl rfl ?_
   refine RunC.exit ?_
   cases Option.some.inj h2_
   have hx := ho2 _ rfl
   exact ⟨L3, u1, u2, ⟨aR, trivial⟩, ⟨⟨rfl, .inr rfl⟩, ⟨rfl, .inl rfl⟩, trivial⟩, hx⟩
 ·rintro τ3 Γ3 ⟨L11, u9, u10, hw3, hd3, rfl⟩
  refine RunC.wl hw3 hd3 ?_
  replace h : i_Matrix_columnSquares_k1 L11 = some q0 := h
  unfold i_Matrix_columnSquares_k1 at h
  refine zQ ?_
  refine zM (r := oref 0 u9 0 L11.length) rfl rfl rfl rfl rfl ?_
  refine zA (r := oref 0 u9 0 L11.length) rfl rfl rfl rfl rfl ?_
  refine zN ?_
  refine RunC.ret ?_
  have hq := Option.some.inj h
  subst q0
  exact bodyQ.mk (r' := oref 0 u9 0 L11.length) [(0, u9)] (.inr rfl) rfl (show List.Nodup [0] from by decide) (by simp [ren, rens, sigma]) rfl (Res.one rfl (RV.tmp rfl)) (SelL.arr0 (f := f32) (fun _ => rfl) rfl trivial)
noncomputable def i_ascending_b1 (a0 : Int) (L3 : List Int) (v4 : Int) : Option (LR ((List Int) × Int) ((List Int)) ((List Int))) :=
 bsel (decide (v4 < a0)) (
  need (apok 8 L3.length 1) <|
  olet (IntKind.i64.wrap (v4 + 1)) fun (x5 : Int) =>
  some (LR.next ((L3 ++ ([v4] : List Int)), x5))) (
  some (LR.out L3))
noncomputable def i_ascending_s1 (a0 : Int) : ((List Int) × Int) → Option (LR ((List Int) × Int) ((List Int)) ((List Int))) := fun s => i_ascending_b1 a0 s.1 s.2
noncomputable def i_ascending_k1 (L8 : List Int) : Option ((List Int)) :=
 some L8
noncomputable def i_ascending (a0 : Int) : Option ((List Int)) :=
 obind (loopM (i_ascending_s1 a0) (([] : List Int), 0)) fun z => osum z (fun e => i_ascending_k1 e) (fun r => some r)
theorem i_ascending_ok (a0 : Int) (q0 : List Int) (h : i_ascending a0 = some q0) : Ev Tryz.prog 27 [i64 a0] [] (oref 0 0 0 q0.length) [⟨0, some (q0.map i64)⟩] := by
 refine Ev.start Tryz.func27 rfl rfl 2 (τ := [(0, i64 a0)]) rfl (Γ' := [⟨0, none⟩, ⟨0, none⟩]) rfl (n := 33) rfl (g := 0) rfl (fun _ => rfl) ?_
 unfold i_ascending at h
 refine zQ ?_
 refine zA (r := nilsl) rfl rfl rfl rfl rfl ?_
 refine zN ?_
 refine zQ ?_
 refine ROps.d (r := oref 0 1 0 0) (fs := [(0, (([] : List Int).map i64))]) (Γ' := [⟨1, some (([] : List Int).map i64)⟩, ⟨0, none⟩]) rfl rfl rfl (TOp.buildSlice_o (g := ⟨0, none⟩) (za := i64 0) (qs := []) 0 rfl und53 siz2 zer2 rfl zel2 rfl rfl trivial rfl) rfl ?_
 refine zA (r := oref 0 1 0 0) rfl rfl rfl rfl rfl ?_
 refine zN ?_
 refine RunC.seq ?_
 refine zQ ?_
 refine zM (r := i64 a0) rfl rfl rfl rfl rfl ?_
 refine zM (r := i64 0) rfl rfl rfl rfl rfl ?_
 refine zN ?_
 obtain ⟨z2, hz_2, h⟩ := obind_some h
 refine RunC.cutN (fun τ Γ => ∃ (L8 : List Int) (u6 : Nat) (u7 : Nat), WeakLe τ [(3, oref 0 u6 0 L8.length)] ∧ DeadLe Γ [⟨u6, some (L8.map i64)⟩, ⟨u7, none⟩] ∧ z2 = .inl L8) ?_ ?_
 ·refine RunC.block (RunC.loop (RunL.loopM (x := z2) (i_ascending_s1 a0) (fun (s : (List Int) × Int) τ Γ => ∃ (u1 : Nat) (u2 : Nat), WeakLe τ [(3, oref 0 u1 0 s.1.length), (6, i64 a0), (7, i64 s.2)] ∧ DeadLe Γ [⟨u1, some (s.1.map i64)⟩, ⟨u2, none⟩]) ?_ _ _ _ hz_2 ⟨1, 0, ⟨aR, aR, aR, trivial⟩, ⟨⟨rfl, .inr rfl⟩, ⟨rfl, .inl rfl⟩, trivial⟩⟩))
  rintro ⟨L3, v4⟩ τ2 Γ2 y2_ ⟨u1, u2, hw2, hd2⟩ h2_ ho2 hr2
  refine RunC.wl (τ' := [(3, oref 0 u1 0 L3.length), (6, i64 a0), (7, i64 v4)]) (Γ' := [⟨u1, some (L3.map i64)⟩, ⟨u2, none⟩]) hw2 hd2 ?_
  replace h2_ : i_ascending_b1 a0 L3 v4 = some y2_ := h2_
  unfold i_ascending_b1 at h2_
  refine RunC.seq ?_
  rcases bsel_some h2_ with ⟨hc1, h2_⟩ | ⟨hc1, h2_⟩
  ·refine RunC.regionW ?_
   refine zL (r := b true) rfl rfl rfl (LOp.eqb (LOp.lss rfl rfl rfl) hc1) ?_
   refine zN ?_
   refine RunC.seq ?_
   refine RunC.cond_true rfl rfl ?_
   refine RunC.skip ?_
   refine RunC.seq ?_
   refine RunC.block ?_
   refine zQ ?_
   refine zM (r := i64 v4) rfl rfl rfl rfl rfl ?_
   refine zA (r := i64 v4) rfl rfl rfl rfl rfl ?_
   refine zN ?_
   obtain ⟨hm2, h2_⟩ := need_some h2_
   refine RunC.regionW ?_
   refine zM (r := oref 0 u1 0 L3.length) rfl rfl rfl rfl rfl ?_
   refine zM (r := i64 v4) rfl rfl rfl rfl rfl ?_
   refine ROps.d (r := oref 1 (u2 + 1) 0 1) (fs := [(1, (([v4] : List Int).map i64))]) (Γ' := [⟨u1, some (L3.map i64)⟩, ⟨(u2 + 1), some (([v4] : List Int).map i64)⟩]) rfl rfl rfl (TOp.buildSlice_o (g := ⟨u2, none⟩) (za := i64 0) (qs := [(0, [i64 v4])]) 1 rfl und53 siz2 zer2 rfl zel2 rfl rfl ⟨rfl, ⟨_, ALe.refl _, rfl⟩, trivial⟩ rfl) rfl ?_
   refine ROps.app (f := i64) (xs := L3) (ys := ([v4] : List Int)) (Γ' := [⟨(u1 + 1), some ((L3 ++ ([v4] : List Int)).map i64)⟩, ⟨(u2 + 1), some (([v4] : List Int).map i64)⟩]) rfl pun53 inf2 rfl rfl rfl rfl rfl rfl rfl rfl rfl (by simp) (ReadAs.own rfl (by simp)) (ones_map (fun _ => rfl)) (ap_by hm2) (ap_mx hm2) rfl ?_
   refine zA (r := oref 0 (u1 + 1) 0 (L3.length + 1)) rfl rfl rfl rfl rfl ?_
   refine zN ?_
   refine RunC.wl (τ' := [(3, oref 0 (u1 + 1) 0 (L3.length + 1)), (6, i64 a0), (7, i64 v4)]) (Γ' := [⟨(u1 + 1), some ((L3 ++ ([v4] : List Int)).map i64)⟩, ⟨(u2 + 1), none⟩]) ⟨aR, aR, aR, trivial⟩ ⟨⟨rfl, .inr rfl⟩, ⟨rfl, .inl rfl⟩, trivial⟩ ?_
   obtain ⟨x5, hx3, h2_⟩ := olet_some h2_
   refine RunC.regionW ?_
   refine zL (r := i64 x5) rfl rfl rfl (LOp.eqr (LOp.add rfl rfl rfl) (congrArg (ik .i64) hx3)) ?_
   refine zM (r := i64 x5) rfl rfl rfl rfl rfl ?_
   refine zN ?_
   cases Option.some.inj h2_
   exact ⟨_, rfl, (u1 + 1), (u2 + 1), ⟨(ALe.eq (by rw [(app_len rfl rfl)] <;> rfl)), aR, aR, trivial⟩, ⟨⟨rfl, .inr rfl⟩, ⟨rfl, .inl rfl⟩, trivial⟩⟩
  ·refine RunC.regionW ?_
   refine zL (r := b false) rfl rfl rfl (LOp.eqb (LOp.lss rfl rfl rfl) hc1) ?_
   refine zN ?_
   refine RunC.seq ?_
   refine RunC.cond_false rfl rfl ?_
   refine RunC.exit ?_
   cases Option.some.inj h2_
   have hx := ho2 _ rfl
   exact ⟨L3, u1, u2, ⟨aR, trivial⟩, ⟨⟨rfl, .inr rfl⟩, ⟨rfl, .inl rfl⟩, trivial⟩, hx⟩
 ·rintro τ3 Γ3 ⟨L8, u6, u7, hw3, hd3, rfl⟩
  refine RunC.wl hw3 hd3 ?_
  replace h : i_ascending_k1 L8 = some q0 := h
  unfold i_ascending_k1 at h
  refine zQ ?_
  refine zM (r := oref 0 u6 0 L8.length) rfl rfl rfl rfl rfl ?_
  refine zA (r := oref 0 u6 0 L8.length) rfl rfl rfl rfl rfl ?_
  refine zN ?_
  refine RunC.ret ?_
  have hq := Option.some.inj h
  subst q0
  exact bodyQ.mk (r' := oref 0 u6 0 L8.length) [(0, u6)] (.inr rfl) rfl (show List.Nodup [0] from by decide) (by simp [ren, rens, sigma]) rfl (Res.one rfl (RV.tmp rfl)) (SelL.arr0 (f := i64) (fun _ => rfl) rfl trivial)
noncomputable def x_cmp_isNaN_float32 (a0 : F) : Option (Bool) :=
 some (!feq .f32 a0 a0)
theorem x_cmp_isNaN_float32_ok (a0 : F) (q0 : Bool) (h : x_cmp_isNaN_float32 a0 = some q0) : Ev Tryz.prog 67 [f32 a0] [] (b q0) [] := by
 refine Ev.start Tryz.func67 rfl rfl 0 (τ := [(0, f32 a0)]) rfl (Γ' := []) rfl (n := 13) rfl (g := 0) rfl (fun _ => rfl) ?_
 unfold x_cmp_isNaN_float32 at h
 refine zQ ?_
 refine zA (r := b false) rfl rfl rfl rfl rfl ?_
 refine zN ?_
 refine zQ ?_
 refine zM (r := f32 a0) rfl rfl rfl rfl rfl ?_
 refine zM (r := f32 a0) rfl rfl rfl rfl rfl ?_
 refine zL (r := b (!feq .f32 a0 a0)) rfl rfl rfl (LOp.fne rfl (OpF.tmp rfl) (OpF.tmp rfl)) ?_
 refine zA (r := b (!feq .f32 a0 a0)) rfl rfl rfl rfl rfl ?_
 refine zN ?_
 refine RunC.ret ?_
 have hq := Option.some.inj h
 subst q0
 exact bodyQ.pure (.inr rfl) rfl (Res.one rfl (RV.tmp rfl))
noncomputable def x_cmp_Compare_float32 (a0 : F) (a1 : F) : Option (Int) :=
 obind (x_cmp_isNaN_float32 a0) fun (r1 : Bool) =>
 bsel r1 (
  obind (x_cmp_isNaN_float32 a1) fun (r2 : Bool) =>
  bsel r2 (
   some 0) (
   some (-1))) (
  obind (x_cmp_isNaN_float32 a1) fun (r3 : Bool) =>
  bsel r3 (
   some 1) (
   bsel (flt .f32 a0 a1) (
    some (-1)) (
    bsel (flt .f32 a1 a0) (
     some 1) (
     some 0))))
theorem x_cmp_Compare_float32_ok (a0 : F) (a1 : F) (q0 : Int) (h : x_cmp_Compare_float32 a0 a1 = some q0) : Ev Tryz.prog 30 [f32 a0, f32 a1] [] (i64 q0) [] := by
 refine Ev.start Tryz.func30 rfl rfl 0 (τ := [(0, f32 a0), (1, f32 a1)]) rfl (Γ' := []) rfl (n := 41) rfl (g := 0) rfl (fun _ => rfl) ?_
 unfold x_cmp_Compare_float32 at h
 refine zQ ?_
 refine zA (r := i64 0) rfl rfl rfl rfl rfl ?_
 refine zN ?_
 refine RunC.seq ?_
 obtain ⟨r1, hf1, h⟩ := obind_some h
 rcases bsel_some h with ⟨hc2, h⟩ | ⟨hc2, h⟩
 ·refine RunC.regionW ?_
  refine zM (r := f32 a0) rfl rfl rfl rfl rfl ?_
  refine ROps.d (r := b true) (fs := []) (Γ' := []) rfl rfl rfl (TOp.eqb (TOp.callB (CallAs.func ent67 rfl rfl) (Bors.cons (Bor.pure rfl) Bors.nil) rfl rfl (x_cmp_isNaN_float32_ok a0 r1 hf1)) hc2) rfl ?_
  refine zA (r := b true) rfl rfl rfl rfl rfl ?_
  refine zN ?_
  refine RunC.seq ?_
  obtain ⟨r2, hf3, h⟩ := obind_some h
  rcases bsel_some h with ⟨hc4, h⟩ | ⟨hc4, h⟩
  ·refine RunC.regionW ?_
   refine zM (r := f32 a1) rfl rfl rfl rfl rfl ?_
   refine ROps.d (r := b true) (fs := []) (Γ' := []) rfl rfl rfl (TOp.eqb (TOp.callB (CallAs.func ent67 rfl rfl) (Bors.cons (Bor.pure rfl) Bors.nil) rfl rfl (x_cmp_isNaN_float32_ok a1 r2 hf3)) hc4) rfl ?_
   refine zA (r := b true) rfl rfl rfl rfl rfl ?_
   refine zN ?_
   refine RunC.seq ?_
   refine zQ ?_
   refine zM (r := b true) rfl rfl rfl rfl rfl ?_
   refine zN ?_
   refine RunC.cond_true rfl rfl ?_
   refine RunC.seq ?_
   refine zQ ?_
   refine zM (r := b true) rfl rfl rfl rfl rfl ?_
   refine zN ?_
   refine RunC.cond_true rfl rfl ?_
   refine zQ ?_
   refine zA (r := i64 0) rfl rfl rfl rfl rfl ?_
   refine zN ?_
   refine RunC.ret ?_
   have hq := Option.some.inj h
   subst q0
   exact bodyQ.pure (.inr rfl) rfl (Res.one rfl (RV.tmp rfl))
  ·refine RunC.regionW ?_
   refine zM (r := f32 a1) rfl rfl rfl rfl rfl ?_
   refine ROps.d (r := b false) (fs := []) (Γ' := []) rfl rfl rfl (TOp.eqb (TOp.callB (CallAs.func ent67 rfl rfl) (Bors.cons (Bor.pure rfl) Bors.nil) rfl rfl (x_cmp_isNaN_float32_ok a1 r2 hf3)) hc4) rfl ?_
   refine zA (r := b false) rfl rfl rfl rfl rfl ?_
   refine zN ?_
   refine RunC.seq ?_
   refine zQ ?_
   refine zM (r := b true) rfl rfl rfl rfl rfl ?_
   refine zN ?_
   refine RunC.cond_true rfl rfl ?_
   refine RunC.seq ?_
   refine zQ ?_
   refine zM (r := b false) rfl rfl rfl rfl rfl ?_
   refine zN ?_
   refine RunC.cond_false rfl rfl ?_
   refine RunC.skip ?_
   refine zQ ?_
   refine zA (r := i64 (-1)) rfl rfl rfl rfl rfl ?_
   refine zN ?_
   refine RunC.ret ?_
   have hq := Option.some.inj h
   subst q0
   exact bodyQ.pure (.inr rfl) rfl (Res.one rfl (RV.tmp rfl))
 ·refine RunC.regionW ?_
  refine zM (r := f32 a0) rfl rfl rfl rfl rfl ?_
  refine ROps.d (r := b false) (fs := []) (Γ' := []) rfl rfl rfl (TOp.eqb (TOp.callB (CallAs.func ent67 rfl rfl) (Bors.cons (Bor.pure rfl) Bors.nil) rfl rfl (x_cmp_isNaN_float32_ok a0 r1 hf1)) hc2) rfl ?_
  refine zA (r := b false) rfl rfl rfl rfl rfl ?_
  refine zN ?_
  refine RunC.seq ?_
  obtain ⟨r3, hf5, h⟩ := obind_some h
  rcases bsel_some h with ⟨hc6, h⟩ | ⟨hc6, h⟩
  ·refine RunC.regionW ?_
   refine zM (r := f32 a1) rfl rfl rfl rfl rfl ?_
   refine ROps.d (r := b true) (fs := []) (Γ' := []) rfl rfl rfl (TOp.eqb (TOp.callB (CallAs.func ent67 rfl rfl) (Bors.cons (Bor.pure rfl) Bors.nil) rfl rfl (x_cmp_isNaN_float32_ok a1 r3 hf5)) hc6) rfl ?_
   refine zA (r := b true) rfl rfl rfl rfl rfl ?_
   refine zN ?_
   refine RunC.seq ?_
   refine zQ ?_
   refine zM (r := b false) rfl rfl rfl rfl rfl ?_
   refine zN ?_
   refine RunC.cond_false rfl rfl ?_
   refine RunC.skip ?_
   refine RunC.seq ?_
   refine zQ ?_
   refine zM (r := b true) rfl rfl rfl rfl rfl ?_
   refine zN ?_
   refine RunC.cond_true rfl rfl ?_
   refine zQ ?_
   refine zA (r := i64 1) rfl rfl rfl rfl rfl ?_
   refine zN ?_
   refine RunC.ret ?_
   have hq := Option.some.inj h
   subst q0
   exact bodyQ.pure (.inr rfl) rfl (Res.one rfl (RV.tmp rfl))
  ·refine RunC.regionW ?_
   refine zM (r := f32 a1) rfl rfl rfl rfl rfl ?_
   refine ROps.d (r := b false) (fs := []) (Γ' := []) rfl rfl rfl (TOp.eqb (TOp.callB (CallAs.func ent67 rfl rfl) (Bors.cons (Bor.pure rfl) Bors.nil) rfl rfl (x_cmp_isNaN_float32_ok a1 r3 hf5)) hc6) rfl ?_
   refine zA (r := b false) rfl rfl rfl rfl rfl ?_
   refine zN ?_
   refine RunC.seq ?_
   refine zQ ?_
   refine zM (r := b false) rfl rfl rfl rfl rfl ?_
   refine zN ?_
   refine RunC.cond_false rfl rfl ?_
   refine RunC.skip ?_
   refine RunC.seq ?_
   refine zQ ?_
   refine zM (r := b false) rfl rfl rfl rfl rfl ?_
   refine zN ?_
   refine RunC.cond_false rfl rfl ?_
   refine RunC.skip ?_
   refine RunC.seq ?_
   refine RunC.seq ?_
   rcases bsel_some h with ⟨hc7, h⟩ | ⟨hc7, h⟩
   ·refine RunC.regionW ?_
    refine zM (r := f32 a0) rfl rfl rfl rfl rfl ?_
    refine zM (r := f32 a1) rfl rfl rfl rfl rfl ?_
    refine zL (r := b true) rfl rfl rfl (LOp.eqb (LOp.flt rfl (OpF.tmp rfl) (OpF.tmp rfl)) hc7) ?_
    refine zN ?_
    refine RunC.cond_true rfl rfl ?_
    refine zQ ?_
    refine zA (r := i64 (-1)) rfl rfl rfl rfl rfl ?_
    refine zN ?_
    refine RunC.ret ?_
    have hq := Option.some.inj h
    subst q0
    exact bodyQ.pure (.inr rfl) rfl (Res.one rfl (RV.tmp rfl))
   ·refine RunC.regionW ?_
    refine zM (r := f32 a0) rfl rfl rfl rfl rfl ?_
    refine zM (r := f32 a1) rfl rfl rfl rfl rfl ?_
    refine zL (r := b false) rfl rfl rfl (LOp.eqb (LOp.flt rfl (OpF.tmp rfl) (OpF.tmp rfl)) hc7) ?_
    refine zN ?_
    refine RunC.cond_false rfl rfl ?_
    refine RunC.skip ?_
    refine RunC.seq ?_
    refine RunC.seq ?_
    rcases bsel_some h with ⟨hc8, h⟩ | ⟨hc8, h⟩
    ·refine RunC.regionW ?_
     refine zM (r := f32 a0) rfl rfl rfl rfl rfl ?_
     refine zM (r := f32 a1) rfl rfl rfl rfl rfl ?_
     refine zL (r := b true) rfl rfl rfl (LOp.eqb (LOp.fgt rfl (OpF.tmp rfl) (OpF.tmp rfl)) hc8) ?_
     refine zN ?_
     refine RunC.wl (τ' := [(19, b true)]) (Γ' := []) ⟨aR, trivial⟩ trivial ?_
     refine RunC.cond_true rfl rfl ?_
     refine zQ ?_
     refine zA (r := i64 1) rfl rfl rfl rfl rfl ?_
     refine zN ?_
     refine RunC.ret ?_
     have hq := Option.some.inj h
     subst q0
     exact bodyQ.pure (.inr rfl) rfl (Res.one rfl (RV.tmp rfl))
    ·refine RunC.regionW ?_
     refine zM (r := f32 a0) rfl rfl rfl rfl rfl ?_
     refine zM (r := f32 a1) rfl rfl rfl rfl rfl ?_
     refine zL (r := b false) rfl rfl rfl (LOp.eqb (LOp.fgt rfl (OpF.tmp rfl) (OpF.tmp rfl)) hc8) ?_
     refine zN ?_
     refine RunC.wl (τ' := [(19, b false)]) (Γ' := []) ⟨aR, trivial⟩ trivial ?_
     refine RunC.cond_false rfl rfl ?_
     refine RunC.skip ?_
     refine zQ ?_
     refine zA (r := i64 0) rfl rfl rfl rfl rfl ?_
     refine zN ?_
     refine RunC.ret ?_
     have hq := Option.some.inj h
     subst q0
     exact bodyQ.pure (.inr rfl) rfl (Res.one rfl (RV.tmp rfl))
noncomputable def i_LowMatrix_1 (a0 : Int) (a1 : Int) (a2 : List F) : Option (Int) :=
 obind (at? a2 a1) fun (e1 : F) =>
 obind (at? a2 a0) fun (e2 : F) =>
 obind (x_cmp_Compare_float32 e1 e2) fun (r3 : Int) =>
 some r3
theorem i_LowMatrix_1_ok (a0 : Int) (a1 : Int) (a2 : List F) (q0 : Int) (h : i_LowMatrix_1 a0 a1 a2 = some q0) : Ev Tryz.prog 29 [i64 a0, i64 a1, ptr [sl a2.length (a2.map f32)]] [] (i64 q0) [] := by
 refine Ev.start Tryz.func29 rfl rfl 0 (τ := [(0, i64 a0), (1, i64 a1), (2, ptr [sl a2.length (a2.map f32)])]) rfl (Γ' := []) rfl (n := 31) rfl (g := 0) rfl (fun _ => rfl) ?_
 unfold i_LowMatrix_1 at h
 refine zQ ?_
 refine zA (r := i64 0) rfl rfl rfl rfl rfl ?_
 refine zN ?_
 refine RunC.seq ?_
 obtain ⟨e1, he1, h⟩ := obind_some h
 obtain ⟨e2, he2, h⟩ := obind_some h
 obtain ⟨r3, hf3, h⟩ := obind_some h
 refine RunC.region_draw (Γ' := []) 10 mixed 
  (TR.l (r := sl a2.length (a2.map f32)) rfl rfl (LOp.load1 agg22 rfl rfl) <|
  (TR.l (r := i64 a1) rfl rfl (LOp.move rfl rfl) <|
  (TR.l (r := ptr [f32 e1]) rfl rfl (LOp.le (LOp.ix (f := f32) und22 siz33 rfl rfl rfl rfl he1) ALe.ptr) <|
  (TR.l (r := f32 e1) rfl rfl (LOp.load1 agg33 rfl rfl) <|
  (TR.l (r := sl a2.length (a2.map f32)) rfl rfl (LOp.load1 agg22 rfl rfl) <|
  (TR.l (r := i64 a0) rfl rfl (LOp.move rfl rfl) <|
  (TR.l (r := ptr [f32 e2]) rfl rfl (LOp.le (LOp.ix (f := f32) und22 siz33 rfl rfl rfl rfl he2) ALe.ptr) <|
  (TR.l (r := f32 e2) rfl rfl (LOp.load1 agg33 rfl rfl) <|
  (TR.d (r := i64 r3) (fs := []) rfl rfl (TOp.callB (CallAs.func ent30 rfl rfl) (Bors.cons (Bor.pure rfl) (Bors.cons (Bor.pure rfl) Bors.nil)) rfl rfl (x_cmp_Compare_float32_ok e1 e2 r3 hf3)) <|
  (TR.l (r := i64 r3) rfl rfl (LOp.assign rfl rfl) <|
  TR.nil)))))))))) rfl (by kernel_rfl) rfl fills_nil rfl ?_
 iterate 10 refine ROps.dropS ?_
 refine ROps.drop0 ?_
 refine zN ?_
 refine RunC.ret ?_
 have hq := Option.some.inj h
 subst q0
 exact bodyQ.pure (.inr rfl) rfl (Res.one rfl (RV.tmp rfl))
noncomputable def x_slices_insertionSortCmpFunc_int64_0o_3Fi_LowMatrix_1_3c0p1_C10o2_b2 (a0 : Int) (a3 : List F) (L5 : List Int) (v7 : Int) : Option (LR ((List Int) × Int) ((List Int)) ((List Int) × (List F))) :=
 bsel (decide (a0 < v7)) (
  obind (at? L5 v7) fun (e8 : Int) =>
  olet (IntKind.i64.wrap (v7 - 1)) fun (x9 : Int) =>
  obind (at? L5 x9) fun (e10 : Int) =>
  obind (i_LowMatrix_1 e8 e10 a3) fun (r11 : Int) =>
  bsel (decide (r11 < 0)) (
   olet (IntKind.i64.wrap (v7 - 1)) fun (x12 : Int) =>
   olet (IntKind.i64.wrap (v7 - 1)) fun (x13 : Int) =>
   obind (at? L5 x13) fun (e14 : Int) =>
   obind (at? L5 v7) fun (e15 : Int) =>
   obind (setAt? L5 v7 e14) fun (L16 : List Int) =>
   obind (setAt? L16 x12 e15) fun (L17 : List Int) =>
   olet (IntKind.i64.wrap (v7 - 1)) fun (x18 : Int) =>
   some (LR.next (L17, x18))) (
   some (LR.out L5))) (
  some (LR.out L5))
noncomputable def x_slices_insertionSortCmpFunc_int64_0o_3Fi_LowMatrix_1_3c0p1_C10o2_s2 (a0 : Int) (a3 : List F) : ((List Int) × Int) → Option (LR ((List Int) × Int) ((List Int)) ((List Int) × (List F))) := fun s => x_slices_insertionSortCmpFunc_int64_0o_3Fi_LowMatrix_1_3c0p1_C10o2_b2 a0 a3 s.1 s.2
noncomputable def x_slices_insertionSortCmpFunc_int64_0o_3Fi_LowMatrix_1_3c0p1_C10o2_k2 (v4 : Int) (L19 : List Int) : Option (LR ((List Int) × Int) ((List Int)) ((List Int) × (List F))) :=
 olet (IntKind.i64.wrap (v4 + 1)) fun (x21 : Int) =>
 some (LR.next (L19, x21))
noncomputable def x_slices_insertionSortCmpFunc_int64_0o_3Fi_LowMatrix_1_3c0p1_C10o2_b3 (a0 : Int) (a1 : Int) (a3 : List F) (L2 : List Int) (v4 : Int) : Option (LR ((List Int) × Int) ((List Int)) ((List Int) × (List F))) :=
 bsel (decide (v4 < a1)) (
  obind (loopM (x_slices_insertionSortCmpFunc_int64_0o_3Fi_LowMatrix_1_3c0p1_C10o2_s2 a0 a3) (L2, v4)) fun z => osum z (fun e => x_slices_insertionSortCmpFunc_int64_0o_3Fi_LowMatrix_1_3c0p1_C10o2_k2 v4 e) (fun r => some (LR.ret r))) (
  some (LR.out L2))
noncomputable def x_slices_insertionSortCmpFunc_int64_0o_3Fi_LowMatrix_1_3c0p1_C10o2_s3 (a0 : Int) (a1 : Int) (a3 : List F) : ((List Int) × Int) → Option (LR ((List Int) × Int) ((List Int)) ((List Int) × (List F))) := fun s => x_slices_insertionSortCmpFunc_int64_0o_3Fi_LowMatrix_1_3c0p1_C10o2_b3 a0 a1 a3 s.1 s.2
noncomputable def x_slices_insertionSortCmpFunc_int64_0o_3Fi_LowMatrix_1_3c0p1_C10o2_k3 (a3 : List F) (L22 : List Int) : Option ((List Int) × (List F)) :=
 some (L22, a3)
noncomputable def x_slices_insertionSortCmpFunc_int64_0o_3Fi_LowMatrix_1_3c0p1_C10o2 (a0 : Int) (a1 : Int) (a2 : List Int) (a3 : List F) : Option ((List Int) × (List F)) :=
 olet (IntKind.i64.wrap (a0 + 1)) fun (x1 : Int) =>
 obind (loopM (x_slices_insertionSortCmpFunc_int64_0o_3Fi_LowMatrix_1_3c0p1_C10o2_s3 a0 a1 a3) (a2, x1)) fun z => osum z (fun e => x_slices_insertionSortCmpFunc_int64_0o_3Fi_LowMatrix_1_3c0p1_C10o2_k3 a3 e) (fun r => some r)
theorem x_slices_insertionSortCmpFunc_int64_0o_3Fi_LowMatrix_1_3c0p1_C10o2_ok (a0 : Int) (a1 : Int) (a2 : List Int) (a3 : List F) (q0 : List Int) (q1 : List F) (h : x_slices_insertionSortCmpFunc_int64_0o_3Fi_LowMatrix_1_3c0p1_C10o2 a0 a1 a2 a3 = some (q0, q1)) : Ev Tryz.prog 104 [oref 0 0 0 a2.length, i64 a0, i64 a1, fn (.func 29) [] [optr 1 0 0]] [⟨0, some (a2.map i64)⟩, ⟨0, some [oref 2 0 0 a3.length]⟩, ⟨0, some (a3.map f32)⟩] (tup []) [⟨0, some (q0.map i64)⟩, ⟨0, some [oref 2 0 0 a3.length]⟩, ⟨0, some (q1.map f32)⟩] := by
 refine Ev.start Tryz.func104 rfl rfl 0 (τ := [(0, oref 0 0 0 a2.length), (1, i64 a0), (2, i64 a1), (3, fn (.func 29) [] [optr 1 0 0])]) rfl (Γ' := [⟨0, some (a2.map i64)⟩, ⟨0, some [oref 2 0 0 a3.length]⟩, ⟨0, some (a3.map f32)⟩]) rfl (n := 106) rfl (g := 3) rfl (by decide) ?_
 unfold x_slices_insertionSortCmpFunc_int64_0o_3Fi_LowMatrix_1_3c0p1_C10o2 at h
 refine RunC.seq ?_
 obtain ⟨x1, hx1, h⟩ := olet_some h
 refine RunC.regionW ?_
 refine zM (r := i64 a0) rfl rfl rfl rfl rfl ?_
 refine zL (r := i64 x1) rfl rfl rfl (LOp.eqr (LOp.add rfl rfl rfl) (congrArg (ik .i64) hx1)) ?_
 refine zA (r := i64 x1) rfl rfl rfl rfl rfl ?_
 refine zN ?_
 obtain ⟨z4, hz_4, h⟩ := obind_some h
 refine RunC.cutN (fun τ Γ => ∃ (L22 : List Int), L22.length = a2.length ∧ WeakLe τ [] ∧ DeadLe Γ [⟨0, some (L22.map i64)⟩, ⟨0, some [oref 2 0 0 a3.length]⟩, ⟨0, some (a3.map f32)⟩] ∧ z4 = .inl L22) ?_ ?_
 ·refine RunC.block (RunC.loop (RunL.loopM (x := z4) (x_slices_insertionSortCmpFunc_int64_0o_3Fi_LowMatrix_1_3c0p1_C10o2_s3 a0 a1 a3) (fun (s : (List Int) × Int) τ Γ => s.1.length = a2.length ∧ WeakLe τ [(0, oref 0 0 0 a2.length), (1, i64 a0), (2, i64 a1), (3, fn (.func 29) [] [optr 1 0 0]), (8, i64 s.2)] ∧ DeadLe Γ [⟨0, some (s.1.map i64)⟩, ⟨0, some [oref 2 0 0 a3.length]⟩, ⟨0, some (a3.map f32)⟩]) ?_ _ _ _ hz_4 ⟨rfl, ⟨aR, aR, aR, aR, aR, trivial⟩, ⟨⟨rfl, .inr rfl⟩, ⟨rfl, .inr rfl⟩, ⟨rfl, .inr rfl⟩, trivial⟩⟩))
  rintro ⟨L2, v4⟩ τ4 Γ4 y4_ ⟨hl3, hw4, hd4⟩ h4_ ho4 hr4
  refine RunC.wl (τ' := [(0, oref 0 0 0 a2.length), (1, i64 a0), (2, i64 a1), (3, fn (.func 29) [] [optr 1 0 0]), (8, i64 v4)]) (Γ' := [⟨0, some (L2.map i64)⟩, ⟨0, some [oref 2 0 0 a3.length]⟩, ⟨0, some (a3.map f32)⟩]) hw4 hd4 ?_
  replace hl3 : L2.length = a2.length := hl3
  replace h4_ : x_slices_insertionSortCmpFunc_int64_0o_3Fi_LowMatrix_1_3c0p1_C10o2_b3 a0 a1 a3 L2 v4 = some y4_ := h4_
  unfold x_slices_insertionSortCmpFunc_int64_0o_3Fi_LowMatrix_1_3c0p1_C10o2_b3 at h4_
  refine RunC.seq ?_
  refine RunC.seq ?_
  rcases bsel_some h4_ with ⟨hc2, h4_⟩ | ⟨hc2, h4_⟩
  ·refine RunC.regionW ?_
   refine zM (r := i64 v4) rfl rfl rfl rfl rfl ?_
   refine zM (r := i64 a1) rfl rfl rfl rfl rfl ?_
   refine zL (r := b true) rfl rfl rfl (LOp.eqb (LOp.lss rfl rfl rfl) hc2) ?_
   refine zN ?_
   refine RunC.cond_true rfl rfl ?_
   refine RunC.skip ?_
   refine RunC.seq ?_
   refine RunC.block ?_
   refine zQ ?_
   refine zM (r := i64 v4) rfl rfl rfl rfl rfl ?_
   refine zA (r := i64 v4) rfl rfl rfl rfl rfl ?_
   refine zN ?_
   obtain ⟨z5, hz_5, h4_⟩ := obind_some h4_
   refine RunC.cutN (fun τ Γ => ∃ (L19 : List Int), L19.length = a2.length ∧ WeakLe τ [(0, oref 0 0 0 a2.length), (1, i64 a0), (2, i64 a1), (3, fn (.func 29) [] [optr 1 0 0]), (8, i64 v4)] ∧ DeadLe Γ [⟨0, some (L19.map i64)⟩, ⟨0, some [oref 2 0 0 a3.length]⟩, ⟨0, some (a3.map f32)⟩] ∧ z5 = .inl L19) ?_ ?_
   ·refine RunC.block (RunC.loop (RunL.loopM (x := z5) (x_slices_insertionSortCmpFunc_int64_0o_3Fi_LowMatrix_1_3c0p1_C10o2_s2 a0 a3) (fun (s : (List Int) × Int) τ Γ => s.1.length = a2.length ∧ WeakLe τ [(0, oref 0 0 0 a2.length), (1, i64 a0), (2, i64 a1), (3, fn (.func 29) [] [optr 1 0 0]), (8, i64 v4), (9, i64 s.2)] ∧ DeadLe Γ [⟨0, some (s.1.map i64)⟩, ⟨0, some [oref 2 0 0 a3.length]⟩, ⟨0, some (a3.map f32)⟩]) ?_ _ _ _ hz_5 ⟨hl3, ⟨aR, aR, aR, aR, aR, aR, trivial⟩, ⟨⟨rfl, .inr rfl⟩, ⟨rfl, .inr rfl⟩, ⟨rfl, .inr rfl⟩, trivial⟩⟩))
    rintro ⟨L5, v7⟩ τ5 Γ5 y5_ ⟨hl6, hw5, hd5⟩ h5_ ho5 hr5
    refine RunC.wl (τ' := [(0, oref 0 0 0 a2.length), (1, i64 a0), (2, i64 a1), (3, fn (.func 29) [] [optr 1 0 0]), (8, i64 v4), (9, i64 v7)]) (Γ' := [⟨0, some (L5.map i64)⟩, ⟨0, some [oref 2 0 0 a3.length]⟩, ⟨0, some (a3.map f32)⟩]) hw5 hd5 ?_
    replace hl6 : L5.length = a2.length := hl6
    replace h5_ : x_slices_insertionSortCmpFunc_int64_0o_3Fi_LowMatrix_1_3c0p1_C10o2_b2 a0 a3 L5 v7 = some y5_ := h5_
    unfold x_slices_insertionSortCmpFunc_int64_0o_3Fi_LowMatrix_1_3c0p1_C10o2_b2 at h5_
    refine RunC.seq ?_
    refine RunC.seq ?_
    rcases bsel_some h5_ with ⟨hc3, h5_⟩ | ⟨hc3, h5_⟩
    ·obtain ⟨e8, he4, h5_⟩ := obind_some h5_
     obtain ⟨x9, hx5, h5_⟩ := olet_some h5_
     obtain ⟨e10, he6, h5_⟩ := obind_some h5_
     obtain ⟨r11, hf7, h5_⟩ := obind_some h5_
     rcases bsel_some h5_ with ⟨hc8, h5_⟩ | ⟨hc8, h5_⟩
     ·refine RunC.region_draw (Γ' := [⟨0, some (L5.map i64)⟩, ⟨0, some [oref 2 0 0 a3.length]⟩, ⟨0, some (a3.map f32)⟩]) 17 mixed 
       (TR.l (r := i64 v7) rfl rfl (LOp.move rfl rfl) <|
       (TR.l (r := i64 a0) rfl rfl (LOp.move rfl rfl) <|
       (TR.l (r := b true) rfl rfl (LOp.eqb (LOp.gtr rfl rfl rfl) hc3) <|
       (TR.l (r := b true) rfl rfl (LOp.move rfl rfl) <|
       (TR.l (r := fn (.func 29) [] [optr 1 0 0]) rfl rfl (LOp.move rfl rfl) <|
       (TR.l (r := oref 0 0 0 a2.length) rfl rfl (LOp.move rfl rfl) <|
       (TR.l (r := i64 v7) rfl rfl (LOp.move rfl rfl) <|
       (TR.d (r := optr 0 0 v7.toNat) (fs := []) rfl rfl (TOp.ixo und53 siz2 rfl rfl rfl (at_in he4 hl6) rfl) <|
       (TR.d (r := i64 e8) (fs := []) rfl rfl (TOp.load1_o rfl (at_cell he4) agg2 rfl rfl) <|
       (TR.l (r := oref 0 0 0 a2.length) rfl rfl (LOp.move rfl rfl) <|
       (TR.l (r := i64 v7) rfl rfl (LOp.move rfl rfl) <|
       (TR.l (r := i64 x9) rfl rfl (LOp.eqr (LOp.sub rfl rfl rfl) (congrArg (ik .i64) hx5)) <|
       (TR.d (r := optr 0 0 x9.toNat) (fs := []) rfl rfl (TOp.ixo und53 siz2 rfl rfl rfl (at_in he6 hl6) rfl) <|
       (TR.d (r := i64 e10) (fs := []) rfl rfl (TOp.load1_o rfl (at_cell he6) agg2 rfl rfl) <|
       (TR.d (r := i64 r11) (fs := []) rfl rfl (TOp.callB (CallAs.fn ent29 rfl rfl rfl rfl) (Bors.cons (Bor.pure rfl) (Bors.cons (Bor.pure rfl) (Bors.cons (Bor.optr rfl (Bors.p (Bors.cons (Bor.own (f := f32) (fun _ => rfl) rfl rfl) Bors.nil)) rfl) Bors.nil))) rfl rfl (i_LowMatrix_1_ok e8 e10 a3 r11 hf7)) <|
       (TR.l (r := b true) rfl rfl (LOp.eqb (LOp.lss rfl rfl rfl) hc8) <|
       (TR.l (r := b true) rfl rfl (LOp.pick_true rfl rfl rfl) <|
       TR.nil))))))))))))))))) rfl (by kernel_rfl) rfl fills_nil rfl ?_
      iterate 17 refine ROps.dropS ?_
      refine ROps.drop0 ?_
      refine zN ?_
      refine RunC.cond_true rfl rfl ?_
      refine RunC.skip ?_
      refine RunC.seq ?_
      refine RunC.block ?_
      obtain ⟨x12, hx9, h5_⟩ := olet_some h5_
      obtain ⟨x13, hx10, h5_⟩ := olet_some h5_
      obtain ⟨e14, he11, h5_⟩ := obind_some h5_
      obtain ⟨e15, he12, h5_⟩ := obind_some h5_
      obtain ⟨L16, he13, h5_⟩ := obind_some h5_
      obtain ⟨L17, he14, h5_⟩ := obind_some h5_
      refine RunC.region_draw (Γ' := [⟨0, some (L5.map i64)⟩, ⟨0, some [oref 2 0 0 a3.length]⟩, ⟨0, some (a3.map f32)⟩]) 15 mixed 
       (TR.l (r := oref 0 0 0 a2.length) rfl rfl (LOp.move rfl rfl) <|
       (TR.l (r := i64 v7) rfl rfl (LOp.move rfl rfl) <|
       (TR.loose (r := oref 0 0 0 a2.length) rfl rfl (LOp.move rfl rfl) <|
       (TR.loose (r := i64 v7) rfl rfl (LOp.move rfl rfl) <|
       (TR.loose (r := i64 x12) rfl rfl (LOp.eqr (LOp.sub rfl rfl rfl) (congrArg (ik .i64) hx9)) <|
       (TR.l (r := oref 0 0 0 a2.length) rfl rfl (LOp.move rfl rfl) <|
       (TR.l (r := i64 v7) rfl rfl (LOp.move rfl rfl) <|
       (TR.l (r := i64 x13) rfl rfl (LOp.eqr (LOp.sub rfl rfl rfl) (congrArg (ik .i64) hx10)) <|
       (TR.d (r := optr 0 0 x13.toNat) (fs := []) rfl rfl (TOp.ixo und53 siz2 rfl rfl rfl (at_in he11 hl6) rfl) <|
       (TR.d (r := i64 e14) (fs := []) rfl rfl (TOp.load1_o rfl (at_cell he11) agg2 rfl rfl) <|
       (TR.l (r := oref 0 0 0 a2.length) rfl rfl (LOp.move rfl rfl) <|
       (TR.l (r := i64 v7) rfl rfl (LOp.move rfl rfl) <|
       (TR.d (r := optr 0 0 v7.toNat) (fs := []) rfl rfl (TOp.ixo und53 siz2 rfl rfl rfl (at_in he12 hl6) rfl) <|
       (TR.d (r := i64 e15) (fs := []) rfl rfl (TOp.load1_o rfl (at_cell he12) agg2 rfl rfl) <|
       (TR.d (r := optr 0 0 v7.toNat) (fs := []) rfl rfl (TOp.ixo und53 siz2 rfl rfl rfl (set_in he13 hl6) rfl) <|
       TR.nil))))))))))))))) rfl (by kernel_rfl) rfl fills_nil rfl ?_
      iterate 15 refine ROps.dropS ?_
      refine ROps.drop0 ?_
      refine ROps.st (f := i64) (i := v7) (Γ' := [⟨0, some (L16.map i64)⟩, ⟨0, some [oref 2 0 0 a3.length]⟩, ⟨0, some (a3.map f32)⟩]) rfl siz2 rfl rfl rfl aR rfl rfl rfl he13 rfl ?_
      refine ROps.d (r := optr 0 0 x12.toNat) (fs := []) (Γ' := [⟨0, some (L16.map i64)⟩, ⟨0, some [oref 2 0 0 a3.length]⟩, ⟨0, some (a3.map f32)⟩]) rfl rfl rfl (TOp.ixo und53 siz2 rfl rfl rfl (set_in he14 ((setAt?_len he13).trans hl6)) rfl) rfl ?_
      refine ROps.st (f := i64) (i := x12) (Γ' := [⟨0, some (L17.map i64)⟩, ⟨0, some [oref 2 0 0 a3.length]⟩, ⟨0, some (a3.map f32)⟩]) rfl siz2 rfl rfl rfl aR rfl rfl rfl he14 rfl ?_
      refine zN ?_
      refine RunC.wl (τ' := [(0, oref 0 0 0 a2.length), (1, i64 a0), (2, i64 a1), (3, fn (.func 29) [] [optr 1 0 0]), (8, i64 v4), (9, i64 v7), (22, fn (.func 29) [] [optr 1 0 0]), (23, oref 0 0 0 a2.length), (24, i64 v7), (25, optr 0 0 v7.toNat), (26, i64 e8), (27, oref 0 0 0 a2.length), (28, i64 v7), (29, i64 x9), (30, optr 0 0 x9.toNat), (31, i64 e10), (32, i64 r11), (33, b true)]) (Γ' := [⟨0, some (L17.map i64)⟩, ⟨0, some [oref 2 0 0 a3.length]⟩, ⟨0, some (a3.map f32)⟩]) ⟨aR, aR, aR, aR, aR, aR, aR, aR, aR, aR, aR, aR, aR, aR, aR, aR, aR, aR, trivial⟩ ⟨⟨rfl, .inr rfl⟩, ⟨rfl, .inr rfl⟩, ⟨rfl, .inr rfl⟩, trivial⟩ ?_
      obtain ⟨x18, hx15, h5_⟩ := olet_some h5_
      refine RunC.regionW ?_
      refine zM (r := i64 v7) rfl rfl rfl rfl rfl ?_
      refine zL (r := i64 x18) rfl rfl rfl (LOp.eqr (LOp.sub rfl rfl rfl) (congrArg (ik .i64) hx15)) ?_
      refine zA (r := i64 x18) rfl rfl rfl rfl rfl ?_
      refine zN ?_
      cases Option.some.inj h5_
      exact ⟨_, rfl, ((setAt?_len he14).trans ((setAt?_len he13).trans hl6)), ⟨aR, aR, aR, aR, aR, aR, trivial⟩, ⟨⟨rfl, .inr rfl⟩, ⟨rfl, .inr rfl⟩, ⟨rfl, .inr rfl⟩, trivial⟩⟩
     ·refine RunC.region_draw (Γ' := [⟨0, some (L5.map i64)⟩, ⟨0, some [oref 2 0 0 a3.length]⟩, ⟨0, some (a3.map f32)⟩]) 17 mixed 
       (TR.l (r := i64 v7) rfl rfl (LOp.move rfl rfl) <|
       (TR.l (r := i64 a0) rfl rfl (LOp.move rfl rfl) <|
       (TR.l (r := b true) rfl rfl (LOp.eqb (LOp.gtr rfl rfl rfl) hc3) <|
       (TR.l (r := b true) rfl rfl (LOp.move rfl rfl) <|
       (TR.l (r := fn (.func 29) [] [optr 1 0 0]) rfl rfl (LOp.move rfl rfl) <|
       (TR.l (r := oref 0 0 0 a2.length) rfl rfl (LOp.move rfl rfl) <|
       (TR.l (r := i64 v7) rfl rfl (LOp.move rfl rfl) <|
       (TR.d (r := optr 0 0 v7.toNat) (fs := []) rfl rfl (TOp.ixo und53 siz2 rfl rfl rfl (at_in he4 hl6) rfl) <|
       (TR.d (r := i64 e8) (fs := []) rfl rfl (TOp.load1_o rfl (at_cell he4) agg2 rfl rfl) <|
       (TR.l (r := oref 0 0 0 a2.length) rfl rfl (LOp.move rfl rfl) <|
       (TR.l (r := i64 v7) rfl rfl (LOp.move rfl rfl) <|
       (TR.l (r := i64 x9) rfl rfl (LOp.eqr (LOp.sub rfl rfl rfl) (congrArg (ik .i64) hx5)) <|
       (TR.d (r := optr 0 0 x9.toNat) (fs := []) rfl rfl (TOp.ixo und53 siz2 rfl rfl rfl (at_in he6 hl6) rfl) <|
       (TR.d (r := i64 e10) (fs := []) rfl rfl (TOp.load1_o rfl (at_cell he6) agg2 rfl rfl) <|
       (TR.d (r := i64 r11) (fs := []) rfl rfl (TOp.callB (CallAs.fn ent29 rfl rfl rfl rfl) (Bors.cons (Bor.pure rfl) (Bors.cons (Bor.pure rfl) (Bors.cons (Bor.optr rfl (Bors.p (Bors.cons (Bor.own (f := f32) (fun _ => rfl) rfl rfl) Bors.nil)) rfl) Bors.nil))) rfl rfl (i_LowMatrix_1_ok e8 e10 a3 r11 hf7)) <|
       (TR.l (r := b false) rfl rfl (LOp.eqb (LOp.lss rfl rfl rfl) hc8) <|
       (TR.l (r := b false) rfl rfl (LOp.pick_true rfl rfl rfl) <|
       TR.nil))))))))))))))))) rfl (by kernel_rfl) rfl fills_nil rfl ?_
      iterate 17 refine ROps.dropS ?_
      refine ROps.drop0 ?_
      refine zN ?_
      refine RunC.cond_false rfl rfl ?_
      refine RunC.exit ?_
      cases Option.some.inj h5_
      have hx := ho5 _ rfl
      exact ⟨L5, hl6, ⟨aR, aR, aR, aR, aR, trivial⟩, ⟨⟨rfl, .inr rfl⟩, ⟨rfl, .inr rfl⟩, ⟨rfl, .inr rfl⟩, trivial⟩, hx⟩
    ·refine RunC.region_draw (Γ' := [⟨0, some (L5.map i64)⟩, ⟨0, some [oref 2 0 0 a3.length]⟩, ⟨0, some (a3.map f32)⟩]) 17 mixed 
      (TR.l (r := i64 v7) rfl rfl (LOp.move rfl rfl) <|
      (TR.l (r := i64 a0) rfl rfl (LOp.move rfl rfl) <|
      (TR.l (r := b false) rfl rfl (LOp.eqb (LOp.gtr rfl rfl rfl) hc3) <|
      (TR.l (r := b false) rfl rfl (LOp.move rfl rfl) <|
      (TR.s rfl rfl <|
      (TR.s rfl rfl <|
      (TR.s rfl rfl <|
      (TR.s rfl rfl <|
      (TR.s rfl rfl <|
      (TR.s rfl rfl <|
      (TR.s rfl rfl <|
      (TR.s rfl rfl <|
      (TR.s rfl rfl <|
      (TR.s rfl rfl <|
      (TR.s rfl rfl <|
      (TR.s rfl rfl <|
      (TR.l (r := b false) rfl rfl (LOp.pick_false rfl rfl rfl) <|
      TR.nil))))))))))))))))) rfl (by kernel_rfl) rfl fills_nil rfl ?_
     iterate 17 refine ROps.dropS ?_
     refine ROps.drop0 ?_
     refine zN ?_
     refine RunC.cond_false rfl rfl ?_
     refine RunC.exit ?_
     cases Option.some.inj h5_
     have hx := ho5 _ rfl
     exact ⟨L5, hl6, ⟨aR, aR, aR, aR, aR, trivial⟩, ⟨⟨rfl, .inr rfl⟩, ⟨rfl, .inr rfl⟩, ⟨rfl, .inr rfl⟩, trivial⟩, hx⟩
   ·rintro τ6 Γ6 ⟨L19, hl20, hw6, hd6, rfl⟩
    refine RunC.wl hw6 hd6 ?_
    replace h4_ : x_slices_insertionSortCmpFunc_int64_0o_3Fi_LowMatrix_1_3c0p1_C10o2_k2 v4 L19 = some y4_ := h4_
    unfold x_slices_insertionSortCmpFunc_int64_0o_3Fi_LowMatrix_1_3c0p1_C10o2_k2 at h4_
    obtain ⟨x21, hx16, h4_⟩ := olet_some h4_
    refine RunC.regionW ?_
    refine zM (r := i64 v4) rfl rfl rfl rfl rfl ?_
    refine zL (r := i64 x21) rfl rfl rfl (LOp.eqr (LOp.add rfl rfl rfl) (congrArg (ik .i64) hx16)) ?_
    refine zA (r := i64 x21) rfl rfl rfl rfl rfl ?_
    refine zN ?_
    cases Option.some.inj h4_
    exact ⟨_, rfl, hl20, ⟨aR, aR, aR, aR, aR, trivial⟩, ⟨⟨rfl, .inr rfl⟩, ⟨rfl, .inr rfl⟩, ⟨rfl, .inr rfl⟩, trivial⟩⟩
  ·refine RunC.regionW ?_
   refine zM (r := i64 v4) rfl rfl rfl rfl rfl ?_
   refine zM (r := i64 a1) rfl rfl rfl rfl rfl ?_
   refine zL (r := b false) rfl rfl rfl (LOp.eqb (LOp.lss rfl rfl rfl) hc2) ?_
   refine zN ?_
   refine RunC.cond_false rfl rfl ?_
   refine RunC.exit ?_
   cases Option.some.inj h4_
   have hx := ho4 _ rfl
   exact ⟨L2, hl3, trivial, ⟨⟨rfl, .inr rfl⟩, ⟨rfl, .inr rfl⟩, ⟨rfl, .inr rfl⟩, trivial⟩, hx⟩
 ·rintro τ7 Γ7 ⟨L22, hl23, hw7, hd7, rfl⟩
  replace h : x_slices_insertionSortCmpFunc_int64_0o_3Fi_LowMatrix_1_3c0p1_C10o2_k3 a3 L22 = some (q0, q1) := h
  unfold x_slices_insertionSortCmpFunc_int64_0o_3Fi_LowMatrix_1_3c0p1_C10o2_k3 at h
  refine bodyQ.wl hw7 hd7 ?_
  have hq := Option.some.inj h
  obtain ⟨hq0, hq⟩ := Prod.mk.inj hq
  subst q0
  subst q1
  exact bodyQ.mk (r' := tup []) [(0, 0), (1, 0), (2, 0)] (.inl rfl) rfl (show List.Nodup [0, 1, 2] from by decide) rfl rfl (Res.zero rfl) (SelL.arr (f := i64) (fun _ => rfl) rfl (SelL.cells rfl (by first | rfl | simp [ren, rens, sigma, rens_f32, rens_f64, rens_i64, rens_ik, rens_str, rens_cp]) rfl (SelL.arr (f := f32) (fun _ => rfl) rfl trivial)))
noncomputable def x_slices_symMergeCmpFunc_int64_0o_4Fi_LowMatrix_1_4c0p1_C10o2_b1 (a1 : Int) (a2 : Int) : Option (LR (Unit) (Unit) ((List Int) × (List F))) :=
 bsel (decide (a1 < a2)) (
  olet (IntKind.i64.wrap (a1 + a2)) fun (x2 : Int) =>
  olet (IntKind.u64.wrap x2) fun (x3 : Int) =>
  none) (
  some (LR.out ()))
noncomputable def x_slices_symMergeCmpFunc_int64_0o_4Fi_LowMatrix_1_4c0p1_C10o2_s1 (a1 : Int) (a2 : Int) : (Unit) → Option (LR (Unit) (Unit) ((List Int) × (List F))) := fun s => x_slices_symMergeCmpFunc_int64_0o_4Fi_LowMatrix_1_4c0p1_C10o2_b1 a1 a2
noncomputable def x_slices_symMergeCmpFunc_int64_0o_4Fi_LowMatrix_1_4c0p1_C10o2_b2 (a1 : Int) (L4 : List Int) (v6 : Int) : Option (LR ((List Int) × Int) ((List Int)) ((List Int) × (List F))) :=
 olet (IntKind.i64.wrap (a1 - 1)) fun (x7 : Int) =>
 bsel (decide (v6 < x7)) (
  olet (IntKind.i64.wrap (v6 + 1)) fun (x8 : Int) =>
  olet (IntKind.i64.wrap (v6 + 1)) fun (x9 : Int) =>
  obind (at? L4 x9) fun (e10 : Int) =>
  obind (at? L4 v6) fun (e11 : Int) =>
  obind (setAt? L4 v6 e10) fun (L12 : List Int) =>
  obind (setAt? L12 x8 e11) fun (L13 : List Int) =>
  olet (IntKind.i64.wrap (v6 + 1)) fun (x14 : Int) =>
  some (LR.next (L13, x14))) (
  some (LR.out L4))
noncomputable def x_slices_symMergeCmpFunc_int64_0o_4Fi_LowMatrix_1_4c0p1_C10o2_s2 (a1 : Int) : ((List Int) × Int) → Option (LR ((List Int) × Int) ((List Int)) ((List Int) × (List F))) := fun s => x_slices_symMergeCmpFunc_int64_0o_4Fi_LowMatrix_1_4c0p1_C10o2_b2 a1 s.1 s.2
noncomputable def x_slices_symMergeCmpFunc_int64_0o_4Fi_LowMatrix_1_4c0p1_C10o2_k2 (a4 : List F) (L15 : List Int) : Option ((List Int) × (List F)) :=
 some (L15, a4)
noncomputable def x_slices_symMergeCmpFunc_int64_0o_4Fi_LowMatrix_1_4c0p1_C10o2_k1 (a0 : Int) (a1 : Int) (a3 : List Int) (a4 : List F) : Option ((List Int) × (List F)) :=
 obind (loopM (x_slices_symMergeCmpFunc_int64_0o_4Fi_LowMatrix_1_4c0p1_C10o2_s2 a1) (a3, a0)) fun z => osum z (fun e => x_slices_symMergeCmpFunc_int64_0o_4Fi_LowMatrix_1_4c0p1_C10o2_k2 a4 e) (fun r => some r)
noncomputable def x_slices_symMergeCmpFunc_int64_0o_4Fi_LowMatrix_1_4c0p1_C10o2_b3 (a0 : Int) (a1 : Int) : Option (LR (Unit) (Unit) ((List Int) × (List F))) :=
 bsel (decide (a0 < a1)) (
  olet (IntKind.i64.wrap (a0 + a1)) fun (x18 : Int) =>
  olet (IntKind.u64.wrap x18) fun (x19 : Int) =>
  none) (
  some (LR.out ()))
noncomputable def x_slices_symMergeCmpFunc_int64_0o_4Fi_LowMatrix_1_4c0p1_C10o2_s3 (a0 : Int) (a1 : Int) : (Unit) → Option (LR (Unit) (Unit) ((List Int) × (List F))) := fun s => x_slices_symMergeCmpFunc_int64_0o_4Fi_LowMatrix_1_4c0p1_C10o2_b3 a0 a1
noncomputable def x_slices_symMergeCmpFunc_int64_0o_4Fi_LowMatrix_1_4c0p1_C10o2_b4 (a0 : Int) (L20 : List Int) (v22 : Int) : Option (LR ((List Int) × Int) ((List Int)) ((List Int) × (List F))) :=
 bsel (decide (a0 < v22)) (
  olet (IntKind.i64.wrap (v22 - 1)) fun (x23 : Int) =>
  olet (IntKind.i64.wrap (v22 - 1)) fun (x24 : Int) =>
  obind (at? L20 x24) fun (e25 : Int) =>
  obind (at? L20 v22) fun (e26 : Int) =>
  obind (setAt? L20 v22 e25) fun (L27 : List Int) =>
  obind (setAt? L27 x23 e26) fun (L28 : List Int) =>
  olet (IntKind.i64.wrap (v22 - 1)) fun (x29 : Int) =>
  some (LR.next (L28, x29))) (
  some (LR.out L20))
noncomputable def x_slices_symMergeCmpFunc_int64_0o_4Fi_LowMatrix_1_4c0p1_C10o2_s4 (a0 : Int) : ((List Int) × Int) → Option (LR ((List Int) × Int) ((List Int)) ((List Int) × (List F))) := fun s => x_slices_symMergeCmpFunc_int64_0o_4Fi_LowMatrix_1_4c0p1_C10o2_b4 a0 s.1 s.2
noncomputable def x_slices_symMergeCmpFunc_int64_0o_4Fi_LowMatrix_1_4c0p1_C10o2_k4 (a4 : List F) (L30 : List Int) : Option ((List Int) × (List F)) :=
 some (L30, a4)
noncomputable def x_slices_symMergeCmpFunc_int64_0o_4Fi_LowMatrix_1_4c0p1_C10o2_k3 (a0 : Int) (a1 : Int) (a3 : List Int) (a4 : List F) : Option ((List Int) × (List F)) :=
 obind (loopM (x_slices_symMergeCmpFunc_int64_0o_4Fi_LowMatrix_1_4c0p1_C10o2_s4 a0) (a3, a1)) fun z => osum z (fun e => x_slices_symMergeCmpFunc_int64_0o_4Fi_LowMatrix_1_4c0p1_C10o2_k4 a4 e) (fun r => some r)
noncomputable def x_slices_symMergeCmpFunc_int64_0o_4Fi_LowMatrix_1_4c0p1_C10o2 (a0 : Int) (a1 : Int) (a2 : Int) (a3 : List Int) (a4 : List F) : Option ((List Int) × (List F)) :=
 olet (IntKind.i64.wrap (a1 - a0)) fun (x1 : Int) =>
 bsel (decide (x1 = 1)) (
  obind (loopM (x_slices_symMergeCmpFunc_int64_0o_4Fi_LowMatrix_1_4c0p1_C10o2_s1 a1 a2) ()) fun z => osum z (fun e => x_slices_symMergeCmpFunc_int64_0o_4Fi_LowMatrix_1_4c0p1_C10o2_k1 a0 a1 a3 a4) (fun r => some r)) (
  olet (IntKind.i64.wrap (a2 - a1)) fun (x17 : Int) =>
  bsel (decide (x17 = 1)) (
   obind (loopM (x_slices_symMergeCmpFunc_int64_0o_4Fi_LowMatrix_1_4c0p1_C10o2_s3 a0 a1) ()) fun z => osum z (fun e => x_slices_symMergeCmpFunc_int64_0o_4Fi_LowMatrix_1_4c0p1_C10o2_k3 a0 a1 a3 a4) (fun r => some r)) (
   olet (IntKind.i64.wrap (a0 + a2)) fun (x32 : Int) =>
   olet (IntKind.u64.wrap x32) fun (x33 : Int) =>
   none))
theorem x_slices_symMergeCmpFunc_int64_0o_4Fi_LowMatrix_1_4c0p1_C10o2_ok (a0 : Int) (a1 : Int) (a2 : Int) (a3 : List Int) (a4 : List F) (q0 : List Int) (q1 : List F) (h : x_slices_symMergeCmpFunc_int64_0o_4Fi_LowMatrix_1_4c0p1_C10o2 a0 a1 a2 a3 a4 = some (q0, q1)) : Ev Tryz.prog 105 [oref 0 0 0 a3.length, i64 a0, i64 a1, i64 a2, fn (.func 29) [] [optr 1 0 0]] [⟨0, some (a3.map i64)⟩, ⟨0, some [oref 2 0 0 a4.length]⟩, ⟨0, some (a4.map f32)⟩] (tup []) [⟨0, some (q0.map i64)⟩, ⟨0, some [oref 2 0 0 a4.length]⟩, ⟨0, some (q1.map f32)⟩] := by
 refine Ev.start Tryz.func105 rfl rfl 0 (τ := [(0, oref 0 0 0 a3.length), (1, i64 a0), (2, i64 a1), (3, i64 a2), (4, fn (.func 29) [] [optr 1 0 0])]) rfl (Γ' := [⟨0, some (a3.map i64)⟩, ⟨0, some [oref 2 0 0 a4.length]⟩, ⟨0, some (a4.map f32)⟩]) rfl (n := 440) rfl (g := 3) rfl (by decide) ?_
 unfold x_slices_symMergeCmpFunc_int64_0o_4Fi_LowMatrix_1_4c0p1_C10o2 at h
 refine RunC.seq ?_
 refine RunC.seq ?_
 obtain ⟨x1, hx1, h⟩ := olet_some h
 rcases bsel_some h with ⟨hc2, h⟩ | ⟨hc2, h⟩
 ·refine RunC.regionW ?_
  refine zM (r := i64 a1) rfl rfl rfl rfl rfl ?_
  refine zM (r := i64 a0) rfl rfl rfl rfl rfl ?_
  refine zL (r := i64 x1) rfl rfl rfl (LOp.eqr (LOp.sub rfl rfl rfl) (congrArg (ik .i64) hx1)) ?_
  refine zL (r := b true) rfl rfl rfl (LOp.eqb (LOp.eql rfl rfl rfl) hc2) ?_
  refine zN ?_
  refine RunC.cond_true rfl rfl ?_
  refine zQ ?_
  refine zM (r := i64 a1) rfl rfl rfl rfl rfl ?_
  refine zA (r := i64 a1) rfl rfl rfl rfl rfl ?_
  refine zN ?_
  refine zQ ?_
  refine zM (r := i64 a2) rfl rfl rfl rfl rfl ?_
  refine zA (r := i64 a2) rfl rfl rfl rfl rfl ?_
  refine zN ?_
  refine RunC.seq ?_
  obtain ⟨z5, hz_5, h⟩ := obind_some h
  refine RunC.cutN (fun τ Γ => WeakLe τ [(0, oref 0 0 0 a3.length), (1, i64 a0), (10, i64 a1)] ∧ DeadLe Γ [⟨0, some (a3.map i64)⟩, ⟨0, some [oref 2 0 0 a4.length]⟩, ⟨0, some (a4.map f32)⟩] ∧ z5 = .inl ()) ?_ ?_
  ·refine RunC.block (RunC.loop (RunL.loopM (x := z5) (x_slices_symMergeCmpFunc_int64_0o_4Fi_LowMatrix_1_4c0p1_C10o2_s1 a1 a2) (fun (s : Unit) τ Γ => WeakLe τ [(0, oref 0 0 0 a3.length), (1, i64 a0), (4, fn (.func 29) [] [optr 1 0 0]), (10, i64 a1), (11, i64 a2)] ∧ DeadLe Γ [⟨0, some (a3.map i64)⟩, ⟨0, some [oref 2 0 0 a4.length]⟩, ⟨0, some (a4.map f32)⟩]) ?_ _ _ _ hz_5 ⟨⟨aR, aR, aR, aR, aR, trivial⟩, ⟨⟨rfl, .inr rfl⟩, ⟨rfl, .inr rfl⟩, ⟨rfl, .inr rfl⟩, trivial⟩⟩))
   rintro ⟨⟩ τ5 Γ5 y5_ ⟨hw5, hd5⟩ h5_ ho5 hr5
   refine RunC.wl (τ' := [(0, oref 0 0 0 a3.length), (1, i64 a0), (4, fn (.func 29) [] [optr 1 0 0]), (10, i64 a1), (11, i64 a2)]) (Γ' := [⟨0, some (a3.map i64)⟩, ⟨0, some [oref 2 0 0 a4.length]⟩, ⟨0, some (a4.map f32)⟩]) hw5 hd5 ?_
   replace h5_ : x_slices_symMergeCmpFunc_int64_0o_4Fi_LowMatrix_1_4c0p1_C10o2_b1 a1 a2 = some y5_ := h5_
   unfold x_slices_symMergeCmpFunc_int64_0o_4Fi_LowMatrix_1_4c0p1_C10o2_b1 at h5_
   refine RunC.seq ?_
   refine RunC.seq ?_
   rcases bsel_some h5_ with ⟨hc3, h5_⟩ | ⟨hc3, h5_⟩
   ·refine RunC.regionW ?_
    refine zM (r := i64 a1) rfl rfl rfl rfl rfl ?_
    refine zM (r := i64 a2) rfl rfl rfl rfl rfl ?_
    refine zL (r := b true) rfl rfl rfl (LOp.eqb (LOp.lss rfl rfl rfl) hc3) ?_
    refine zN ?_
    refine RunC.cond_true rfl rfl ?_
    refine RunC.skip ?_
    refine RunC.block ?_
    refine RunC.seq ?_
    obtain ⟨x2, hx4, h5_⟩ := olet_some h5_
    obtain ⟨x3, hx5, h5_⟩ := olet_some h5_
    cases h5_
   ·refine RunC.regionW ?_
    refine zM (r := i64 a1) rfl rfl rfl rfl rfl ?_
    refine zM (r := i64 a2) rfl rfl rfl rfl rfl ?_
    refine zL (r := b false) rfl rfl rfl (LOp.eqb (LOp.lss rfl rfl rfl) hc3) ?_
    refine zN ?_
    refine RunC.cond_false rfl rfl ?_
    refine RunC.exit ?_
    cases Option.some.inj h5_
    have hx := ho5 _ rfl
    exact ⟨⟨aR, aR, aR, trivial⟩, ⟨⟨rfl, .inr rfl⟩, ⟨rfl, .inr rfl⟩, ⟨rfl, .inr rfl⟩, trivial⟩, hx⟩
  ·rintro τ6 Γ6 ⟨hw6, hd6, rfl⟩
   refine RunC.wl hw6 hd6 ?_
   replace h : x_slices_symMergeCmpFunc_int64_0o_4Fi_LowMatrix_1_4c0p1_C10o2_k1 a0 a1 a3 a4 = some (q0, q1) := h
   unfold x_slices_symMergeCmpFunc_int64_0o_4Fi_LowMatrix_1_4c0p1_C10o2_k1 at h
   refine RunC.seq ?_
   refine zQ ?_
   refine zM (r := i64 a0) rfl rfl rfl rfl rfl ?_
   refine zA (r := i64 a0) rfl rfl rfl rfl rfl ?_
   refine zN ?_
   obtain ⟨z7, hz_7, h⟩ := obind_some h
   refine RunC.cutN (fun τ Γ => ∃ (L15 : List Int), L15.length = a3.length ∧ WeakLe τ [] ∧ DeadLe Γ [⟨0, some (L15.map i64)⟩, ⟨0, some [oref 2 0 0 a4.length]⟩, ⟨0, some (a4.map f32)⟩] ∧ z7 = .inl L15) ?_ ?_
   ·refine RunC.block (RunC.loop (RunL.loopM (x := z7) (x_slices_symMergeCmpFunc_int64_0o_4Fi_LowMatrix_1_4c0p1_C10o2_s2 a1) (fun (s : (List Int) × Int) τ Γ => s.1.length = a3.length ∧ WeakLe τ [(0, oref 0 0 0 a3.length), (10, i64 a1), (13, i64 s.2)] ∧ DeadLe Γ [⟨0, some (s.1.map i64)⟩, ⟨0, some [oref 2 0 0 a4.length]⟩, ⟨0, some (a4.map f32)⟩]) ?_ _ _ _ hz_7 ⟨rfl, ⟨aR, aR, aR, trivial⟩, ⟨⟨rfl, .inr rfl⟩, ⟨rfl, .inr rfl⟩, ⟨rfl, .inr rfl⟩, trivial⟩⟩))
    rintro ⟨L4, v6⟩ τ7 Γ7 y7_ ⟨hl5, hw7, hd7⟩ h7_ ho7 hr7
    refine RunC.wl (τ' := [(0, oref 0 0 0 a3.length), (10, i64 a1), (13, i64 v6)]) (Γ' := [⟨0, some (L4.map i64)⟩, ⟨0, some [oref 2 0 0 a4.length]⟩, ⟨0, some (a4.map f32)⟩]) hw7 hd7 ?_
    replace hl5 : L4.length = a3.length := hl5
    replace h7_ : x_slices_symMergeCmpFunc_int64_0o_4Fi_LowMatrix_1_4c0p1_C10o2_b2 a1 L4 v6 = some y7_ := h7_
    unfold x_slices_symMergeCmpFunc_int64_0o_4Fi_LowMatrix_1_4c0p1_C10o2_b2 at h7_
    refine RunC.seq ?_
    refine RunC.seq ?_
    obtain ⟨x7, hx6, h7_⟩ := olet_some h7_
    rcases bsel_some h7_ with ⟨hc7, h7_⟩ | ⟨hc7, h7_⟩
    ·refine RunC.regionW ?_
     refine zM (r := i64 v6) rfl rfl rfl rfl rfl ?_
     refine zM (r := i64 a1) rfl rfl rfl rfl rfl ?_
     refine zL (r := i64 x7) rfl rfl rfl (LOp.eqr (LOp.sub rfl rfl rfl) (congrArg (ik .i64) hx6)) ?_
     refine zL (r := b true) rfl rfl rfl (LOp.eqb (LOp.lss rfl rfl rfl) hc7) ?_
     refine zN ?_
     refine RunC.cond_true rfl rfl ?_
     refine RunC.skip ?_
     refine RunC.seq ?_
     refine RunC.block ?_
     obtain ⟨x8, hx8, h7_⟩ := olet_some h7_
     obtain ⟨x9, hx9, h7_⟩ := olet_some h7_
     obtain ⟨e10, he10, h7_⟩ := obind_some h7_
     obtain ⟨e11, he11, h7_⟩ := obind_some h7_
     obtain ⟨L12, he12, h7_⟩ := obind_some h7_
     obtain ⟨L13, he13, h7_⟩ := obind_some h7_
     refine RunC.region_draw (Γ' := [⟨0, some (L4.map i64)⟩, ⟨0, some [oref 2 0 0 a4.length]⟩, ⟨0, some (a4.map f32)⟩]) 15 mixed 
      (TR.l (r := oref 0 0 0 a3.length) rfl rfl (LOp.move rfl rfl) <|
      (TR.l (r := i64 v6) rfl rfl (LOp.move rfl rfl) <|
      (TR.loose (r := oref 0 0 0 a3.length) rfl rfl (LOp.move rfl rfl) <|
      (TR.loose (r := i64 v6) rfl rfl (LOp.move rfl rfl) <|
      (TR.loose (r := i64 x8) rfl rfl (LOp.eqr (LOp.add rfl rfl rfl) (congrArg (ik .i64) hx8)) <|
      (TR.l (r := oref 0 0 0 a3.length) rfl rfl (LOp.move rfl rfl) <|
      (TR.l (r := i64 v6) rfl rfl (LOp.move rfl rfl) <|
      (TR.l (r := i64 x9) rfl rfl (LOp.eqr (LOp.add rfl rfl rfl) (congrArg (ik .i64) hx9)) <|
      (TR.d (r := optr 0 0 x9.toNat) (fs := []) rfl rfl (TOp.ixo und53 siz2 rfl rfl rfl (at_in he10 hl5) rfl) <|
      (TR.d (r := i64 e10) (fs := []) rfl rfl (TOp.load1_o rfl (at_cell he10) agg2 rfl rfl) <|
      (TR.l (r := oref 0 0 0 a3.length) rfl rfl (LOp.move rfl rfl) <|
      (TR.l (r := i64 v6) rfl rfl (LOp.move rfl rfl) <|
      (TR.d (r := optr 0 0 v6.toNat) (fs := []) rfl rfl (TOp.ixo und53 siz2 rfl rfl rfl (at_in he11 hl5) rfl) <|
      (TR.d (r := i64 e11) (fs := []) rfl rfl (TOp.load1_o rfl (at_cell he11) agg2 rfl rfl) <|
      (TR.d (r := optr 0 0 v6.toNat) (fs := []) rfl rfl (TOp.ixo und53 siz2 rfl rfl rfl (set_in he12 hl5) rfl) <|
      TR.nil))))))))))))))) rfl (by kernel_rfl) rfl fills_nil rfl ?_
     iterate 15 refine ROps.dropS ?_
     refine ROps.drop0 ?_
     refine ROps.st (f := i64) (i := v6) (Γ' := [⟨0, some (L12.map i64)⟩, ⟨0, some [oref 2 0 0 a4.length]⟩, ⟨0, some (a4.map f32)⟩]) rfl siz2 rfl rfl rfl aR rfl rfl rfl he12 rfl ?_
     refine ROps.d (r := optr 0 0 x8.toNat) (fs := []) (Γ' := [⟨0, some (L12.map i64)⟩, ⟨0, some [oref 2 0 0 a4.length]⟩, ⟨0, some (a4.map f32)⟩]) rfl rfl rfl (TOp.ixo und53 siz2 rfl rfl rfl (set_in he13 ((setAt?_len he12).trans hl5)) rfl) rfl ?_
     refine ROps.st (f := i64) (i := x8) (Γ' := [⟨0, some (L13.map i64)⟩, ⟨0, some [oref 2 0 0 a4.length]⟩, ⟨0, some (a4.map f32)⟩]) rfl siz2 rfl rfl rfl aR rfl rfl rfl he13 rfl ?_
     refine zN ?_
     refine RunC.wl (τ' := [(0, oref 0 0 0 a3.length), (10, i64 a1), (13, i64 v6)]) (Γ' := [⟨0, some (L13.map i64)⟩, ⟨0, some [oref 2 0 0 a4.length]⟩, ⟨0, some (a4.map f32)⟩]) ⟨aR, aR, aR, trivial⟩ ⟨⟨rfl, .inr rfl⟩, ⟨rfl, .inr rfl⟩, ⟨rfl, .inr rfl⟩, trivial⟩ ?_
     obtain ⟨x14, hx14, h7_⟩ := olet_some h7_
     refine RunC.regionW ?_
     refine zM (r := i64 v6) rfl rfl rfl rfl rfl ?_
     refine zL (r := i64 x14) rfl rfl rfl (LOp.eqr (LOp.add rfl rfl rfl) (congrArg (ik .i64) hx14)) ?_
     refine zA (r := i64 x14) rfl rfl rfl rfl rfl ?_
     refine zN ?_
     cases Option.some.inj h7_
     exact ⟨_, rfl, ((setAt?_len he13).trans ((setAt?_len he12).trans hl5)), ⟨aR, aR, aR, trivial⟩, ⟨⟨rfl, .inr rfl⟩, ⟨rfl, .inr rfl⟩, ⟨rfl, .inr rfl⟩, trivial⟩⟩
    ·refine RunC.regionW ?_
     refine zM (r := i64 v6) rfl rfl rfl rfl rfl ?_
     refine zM (r := i64 a1) rfl rfl rfl rfl rfl ?_
     refine zL (r := i64 x7) rfl rfl rfl (LOp.eqr (LOp.sub rfl rfl rfl) (congrArg (ik .i64) hx6)) ?_
     refine zL (r := b false) rfl rfl rfl (LOp.eqb (LOp.lss rfl rfl rfl) hc7) ?_
     refine zN ?_
     refine RunC.cond_false rfl rfl ?_
     refine RunC.exit ?_
     cases Option.some.inj h7_
     have hx := ho7 _ rfl
     exact ⟨L4, hl5, trivial, ⟨⟨rfl, .inr rfl⟩, ⟨rfl, .inr rfl⟩, ⟨rfl, .inr rfl⟩, trivial⟩, hx⟩
   ·rintro τ8 Γ8 ⟨L15, hl16, hw8, hd8, rfl⟩
    refine RunC.wl hw8 hd8 ?_
    replace h : x_slices_symMergeCmpFunc_int64_0o_4Fi_LowMatrix_1_4c0p1_C10o2_k2 a4 L15 = some (q0, q1) := h
    unfold x_slices_symMergeCmpFunc_int64_0o_4Fi_LowMatrix_1_4c0p1_C10o2_k2 at h
    refine RunC.ret ?_
    have hq := Option.some.inj h
    obtain ⟨hq0, hq⟩ := Prod.mk.inj hq
    subst q0
    subst q1
    exact bodyQ.mk (r' := tup []) [(0, 0), (1, 0), (2, 0)] (.inr rfl) rfl (show List.Nodup [0, 1, 2] from by decide) rfl rfl (Res.zero rfl) (SelL.arr (f := i64) (fun _ => rfl) rfl (SelL.cells rfl (by first | rfl | simp [ren, rens, sigma, rens_f32, rens_f64, rens_i64, rens_ik, rens_str, rens_cp]) rfl (SelL.arr (f := f32) (fun _ => rfl) rfl trivial)))
 ·refine RunC.regionW ?_
  refine zM (r := i64 a1) rfl rfl rfl rfl rfl ?_
  refine zM (r := i64 a0) rfl rfl rfl rfl rfl ?_
  refine zL (r := i64 x1) rfl rfl rfl (LOp.eqr (LOp.sub rfl rfl rfl) (congrArg (ik .i64) hx1)) ?_
  refine zL (r := b false) rfl rfl rfl (LOp.eqb (LOp.eql rfl rfl rfl) hc2) ?_
  refine zN ?_
  refine RunC.cond_false rfl rfl ?_
  refine RunC.skip ?_
  refine RunC.seq ?_
  refine RunC.seq ?_
  obtain ⟨x17, hx15, h⟩ := olet_some h
  rcases bsel_some h with ⟨hc16, h⟩ | ⟨hc16, h⟩
  ·refine RunC.regionW ?_
   refine zM (r := i64 a2) rfl rfl rfl rfl rfl ?_
   refine zM (r := i64 a1) rfl rfl rfl rfl rfl ?_
   refine zL (r := i64 x17) rfl rfl rfl (LOp.eqr (LOp.sub rfl rfl rfl) (congrArg (ik .i64) hx15)) ?_
   refine zL (r := b true) rfl rfl rfl (LOp.eqb (LOp.eql rfl rfl rfl) hc16) ?_
   refine zN ?_
   refine RunC.cond_true rfl rfl ?_
   refine zQ ?_
   refine zM (r := i64 a0) rfl rfl rfl rfl rfl ?_
   refine zA (r := i64 a0) rfl rfl rfl rfl rfl ?_
   refine zN ?_
   refine zQ ?_
   refine zM (r := i64 a1) rfl rfl rfl rfl rfl ?_
   refine zA (r := i64 a1) rfl rfl rfl rfl rfl ?_
   refine zN ?_
   refine RunC.seq ?_
   obtain ⟨z9, hz_9, h⟩ := obind_some h
   refine RunC.cutN (fun τ Γ => WeakLe τ [(0, oref 0 0 0 a3.length), (2, i64 a1), (14, i64 a0)] ∧ DeadLe Γ [⟨0, some (a3.map i64)⟩, ⟨0, some [oref 2 0 0 a4.length]⟩, ⟨0, some (a4.map f32)⟩] ∧ z9 = .inl ()) ?_ ?_
   ·refine RunC.block (RunC.loop (RunL.loopM (x := z9) (x_slices_symMergeCmpFunc_int64_0o_4Fi_LowMatrix_1_4c0p1_C10o2_s3 a0 a1) (fun (s : Unit) τ Γ => WeakLe τ [(0, oref 0 0 0 a3.length), (2, i64 a1), (4, fn (.func 29) [] [optr 1 0 0]), (14, i64 a0), (15, i64 a1)] ∧ DeadLe Γ [⟨0, some (a3.map i64)⟩, ⟨0, some [oref 2 0 0 a4.length]⟩, ⟨0, some (a4.map f32)⟩]) ?_ _ _ _ hz_9 ⟨⟨aR, aR, aR, aR, aR, trivial⟩, ⟨⟨rfl, .inr rfl⟩, ⟨rfl, .inr rfl⟩, ⟨rfl, .inr rfl⟩, trivial⟩⟩))
    rintro ⟨⟩ τ9 Γ9 y9_ ⟨hw9, hd9⟩ h9_ ho9 hr9
    refine RunC.wl (τ' := [(0, oref 0 0 0 a3.length), (2, i64 a1), (4, fn (.func 29) [] [optr 1 0 0]), (14, i64 a0), (15, i64 a1)]) (Γ' := [⟨0, some (a3.map i64)⟩, ⟨0, some [oref 2 0 0 a4.length]⟩, ⟨0, some (a4.map f32)⟩]) hw9 hd9 ?_
    replace h9_ : x_slices_symMergeCmpFunc_int64_0o_4Fi_LowMatrix_1_4c0p1_C10o2_b3 a0 a1 = some y9_ := h9_
    unfold x_slices_symMergeCmpFunc_int64_0o_4Fi_LowMatrix_1_4c0p1_C10o2_b3 at h9_
    refine RunC.seq ?_
    refine RunC.seq ?_
    rcases bsel_some h9_ with ⟨hc17, h9_⟩ | ⟨hc17, h9_⟩
    ·refine RunC.regionW ?_
     refine zM (r := i64 a0) rfl rfl rfl rfl rfl ?_
     refine zM (r := i64 a1) rfl rfl rfl rfl rfl ?_
     refine zL (r := b true) rfl rfl rfl (LOp.eqb (LOp.lss rfl rfl rfl) hc17) ?_
     refine zN ?_
     refine RunC.cond_true rfl rfl ?_
     refine RunC.skip ?_
     refine RunC.block ?_
     refine RunC.seq ?_
     obtain ⟨x18, hx18, h9_⟩ := olet_some h9_
     obtain ⟨x19, hx19, h9_⟩ := olet_some h9_
     cases h9_
    ·refine RunC.regionW ?_
     refine zM (r := i64 a0) rfl rfl rfl rfl rfl ?_
     refine zM (r := i64 a1) rfl rfl rfl rfl rfl ?_
     refine zL (r := b false) rfl rfl rfl (LOp.eqb (LOp.lss rfl rfl rfl) hc17) ?_
     refine zN ?_
     refine RunC.cond_false rfl rfl ?_
     refine RunC.exit ?_
     cases Option.some.inj h9_
     have hx := ho9 _ rfl
     exact ⟨⟨aR, aR, aR, trivial⟩, ⟨⟨rfl, .inr rfl⟩, ⟨rfl, .inr rfl⟩, ⟨rfl, .inr rfl⟩, trivial⟩, hx⟩
   ·rintro τ10 Γ10 ⟨hw10, hd10, rfl⟩
    refine RunC.wl hw10 hd10 ?_
    replace h : x_slices_symMergeCmpFunc_int64_0o_4Fi_LowMatrix_1_4c0p1_C10o2_k3 a0 a1 a3 a4 = some (q0, q1) := h
    unfold x_slices_symMergeCmpFunc_int64_0o_4Fi_LowMatrix_1_4c0p1_C10o2_k3 at h
    refine RunC.seq ?_
    refine zQ ?_
    refine zM (r := i64 a1) rfl rfl rfl rfl rfl ?_
    refine zA (r := i64 a1) rfl rfl rfl rfl rfl ?_
    refine zN ?_
    obtain ⟨z11, hz_11, h⟩ := obind_some h
    refine RunC.cutN (fun τ Γ => ∃ (L30 : List Int), L30.length = a3.length ∧ WeakLe τ [] ∧ DeadLe Γ [⟨0, some (L30.map i64)⟩, ⟨0, some [oref 2 0 0 a4.length]⟩, ⟨0, some (a4.map f32)⟩] ∧ z11 = .inl L30) ?_ ?_
    ·refine RunC.block (RunC.loop (RunL.loopM (x := z11) (x_slices_symMergeCmpFunc_int64_0o_4Fi_LowMatrix_1_4c0p1_C10o2_s4 a0) (fun (s : (List Int) × Int) τ Γ => s.1.length = a3.length ∧ WeakLe τ [(0, oref 0 0 0 a3.length), (14, i64 a0), (17, i64 s.2)] ∧ DeadLe Γ [⟨0, some (s.1.map i64)⟩, ⟨0, some [oref 2 0 0 a4.length]⟩, ⟨0, some (a4.map f32)⟩]) ?_ _ _ _ hz_11 ⟨rfl, ⟨aR, aR, aR, trivial⟩, ⟨⟨rfl, .inr rfl⟩, ⟨rfl, .inr rfl⟩, ⟨rfl, .inr rfl⟩, trivial⟩⟩))
     rintro ⟨L20, v22⟩ τ11 Γ11 y11_ ⟨hl21, hw11, hd11⟩ h11_ ho11 hr11
     refine RunC.wl (τ' := [(0, oref 0 0 0 a3.length), (14, i64 a0), (17, i64 v22)]) (Γ' := [⟨0, some (L20.map i64)⟩, ⟨0, some [oref 2 0 0 a4.length]⟩, ⟨0, some (a4.map f32)⟩]) hw11 hd11 ?_
     replace hl21 : L20.length = a3.length := hl21
     replace h11_ : x_slices_symMergeCmpFunc_int64_0o_4Fi_LowMatrix_1_4c0p1_C10o2_b4 a0 L20 v22 = some y11_ := h11_
     unfold x_slices_symMergeCmpFunc_int64_0o_4Fi_LowMatrix_1_4c0p1_C10o2_b4 at h11_
     refine RunC.seq ?_
     refine RunC.seq ?_
     rcases bsel_some h11_ with ⟨hc20, h11_⟩ | ⟨hc20, h11_⟩
     ·refine RunC.regionW ?_
      refine zM (r := i64 v22) rfl rfl rfl rfl rfl ?_
      refine zM (r := i64 a0) rfl rfl rfl rfl rfl ?_
      refine zL (r := b true) rfl rfl rfl (LOp.eqb (LOp.gtr rfl rfl rfl) hc20) ?_
      refine zN ?_
      refine RunC.cond_true rfl rfl ?_
      refine RunC.skip ?_
      refine RunC.seq ?_
      refine RunC.block ?_
      obtain ⟨x23, hx21, h11_⟩ := olet_some h11_
      obtain ⟨x24, hx22, h11_⟩ := olet_some h11_
      obtain ⟨e25, he23, h11_⟩ := obind_some h11_
      obtain ⟨e26, he24, h11_⟩ := obind_some h11_
      obtain ⟨L27, he25, h11_⟩ := obind_some h11_
      obtain ⟨L28, he26, h11_⟩ := obind_some h11_
      refine RunC.region_draw (Γ' := [⟨0, some (L20.map i64)⟩, ⟨0, some [oref 2 0 0 a4.length]⟩, ⟨0, some (a4.map f32)⟩]) 15 mixed 
       (TR.l (r := oref 0 0 0 a3.length) rfl rfl (LOp.move rfl rfl) <|
       (TR.l (r := i64 v22) rfl rfl (LOp.move rfl rfl) <|
       (TR.loose (r := oref 0 0 0 a3.length) rfl rfl (LOp.move rfl rfl) <|
       (TR.loose (r := i64 v22) rfl rfl (LOp.move rfl rfl) <|
       (TR.loose (r := i64 x23) rfl rfl (LOp.eqr (LOp.sub rfl rfl rfl) (congrArg (ik .i64) hx21)) <|
       (TR.l (r := oref 0 0 0 a3.length) rfl rfl (LOp.move rfl rfl) <|
       (TR.l (r := i64 v22) rfl rfl (LOp.move rfl rfl) <|
       (TR.l (r := i64 x24) rfl rfl (LOp.eqr (LOp.sub rfl rfl rfl) (congrArg (ik .i64) hx22)) <|
       (TR.d (r := optr 0 0 x24.toNat) (fs := []) rfl rfl (TOp.ixo und53 siz2 rfl rfl rfl (at_in he23 hl21) rfl) <|
       (TR.d (r := i64 e25) (fs := []) rfl rfl (TOp.load1_o rfl (at_cell he23) agg2 rfl rfl) <|
       (TR.l (r := oref 0 0 0 a3.length) rfl rfl (LOp.move rfl rfl) <|
       (TR.l (r := i64 v22) rfl rfl (LOp.move rfl rfl) <|
       (TR.d (r := optr 0 0 v22.toNat) (fs := []) rfl rfl (TOp.ixo und53 siz2 rfl rfl rfl (at_in he24 hl21) rfl) <|
       (TR.d (r := i64 e26) (fs := []) rfl rfl (TOp.load1_o rfl (at_cell he24) agg2 rfl rfl) <|
       (TR.d (r := optr 0 0 v22.toNat) (fs := []) rfl rfl (TOp.ixo und53 siz2 rfl rfl rfl (set_in he25 hl21) rfl) <|
       TR.nil))))))))))))))) rfl (by kernel_rfl) rfl fills_nil rfl ?_
      iterate 15 refine ROps.dropS ?_
      refine ROps.drop0 ?_
      refine ROps.st (f := i64) (i := v22) (Γ' := [⟨0, some (L27.map i64)⟩, ⟨0, some [oref 2 0 0 a4.length]⟩, ⟨0, some (a4.map f32)⟩]) rfl siz2 rfl rfl rfl aR rfl rfl rfl he25 rfl ?_
      refine ROps.d (r := optr 0 0 x23.toNat) (fs := []) (Γ' := [⟨0, some (L27.map i64)⟩, ⟨0, some [oref 2 0 0 a4.length]⟩, ⟨0, some (a4.map f32)⟩]) rfl rfl rfl (TOp.ixo und53 siz2 rfl rfl rfl (set_in he26 ((setAt?_len he25).trans hl21)) rfl) rfl ?_
      refine ROps.st (f := i64) (i := x23) (Γ' := [⟨0, some (L28.map i64)⟩, ⟨0, some [oref 2 0 0 a4.length]⟩, ⟨0, some (a4.map f32)⟩]) rfl siz2 rfl rfl rfl aR rfl rfl rfl he26 rfl ?_
      refine zN ?_
      refine RunC.wl (τ' := [(0, oref 0 0 0 a3.length), (14, i64 a0), (17, i64 v22)]) (Γ' := [⟨0, some (L28.map i64)⟩, ⟨0, some [oref 2 0 0 a4.length]⟩, ⟨0, some (a4.map f32)⟩]) ⟨aR, aR, aR, trivial⟩ ⟨⟨rfl, .inr rfl⟩, ⟨rfl, .inr rfl⟩, ⟨rfl, .inr rfl⟩, trivial⟩ ?_
      obtain ⟨x29, hx27, h11_⟩ := olet_some h11_
      refine RunC.regionW ?_
      refine zM (r := i64 v22) rfl rfl rfl rfl rfl ?_
      refine zL (r := i64 x29) rfl rfl rfl (LOp.eqr (LOp.sub rfl rfl rfl) (congrArg (ik .i64) hx27)) ?_
      refine zA (r := i64 x29) rfl rfl rfl rfl rfl ?_
      refine zN ?_
      cases Option.some.inj h11_
      exact ⟨_, rfl, ((setAt?_len he26).trans ((setAt?_len he25).trans hl21)), ⟨aR, aR, aR, trivial⟩, ⟨⟨rfl, .inr rfl⟩, ⟨rfl, .inr rfl⟩, ⟨rfl, .inr rfl⟩, trivial⟩⟩
     ·refine RunC.regionW ?_
      refine zM (r := i64 v22) rfl rfl rfl rfl rfl ?_
      refine zM (r := i64 a0) rfl rfl rfl rfl rfl ?_
      refine zL (r := b false) rfl rfl rfl (LOp.eqb (LOp.gtr rfl rfl rfl) hc20) ?_
      refine zN ?_
      refine RunC.cond_false rfl rfl ?_
      refine RunC.exit ?_
      cases Option.some.inj h11_
      have hx := ho11 _ rfl
      exact ⟨L20, hl21, trivial, ⟨⟨rfl, .inr rfl⟩, ⟨rfl, .inr rfl⟩, ⟨rfl, .inr rfl⟩, trivial⟩, hx⟩
    ·rintro τ12 Γ12 ⟨L30, hl31, hw12, hd12, rfl⟩
     refine RunC.wl hw12 hd12 ?_
     replace h : x_slices_symMergeCmpFunc_int64_0o_4Fi_LowMatrix_1_4c0p1_C10o2_k4 a4 L30 = some (q0, q1) := h
     unfold x_slices_symMergeCmpFunc_int64_0o_4Fi_LowMatrix_1_4c0p1_C10o2_k4 at h
     refine RunC.ret ?_
     have hq := Option.some.inj h
     obtain ⟨hq0, hq⟩ := Prod.mk.inj hq
     subst q0
     subst q1
     exact bodyQ.mk (r' := tup []) [(0, 0), (1, 0), (2, 0)] (.inr rfl) rfl (show List.Nodup [0, 1, 2] from by decide) rfl rfl (Res.zero rfl) (SelL.arr (f := i64) (fun _ => rfl) rfl (SelL.cells rfl (by first | rfl | simp [ren, rens, sigma, rens_f32, rens_f64, rens_i64, rens_ik, rens_str, rens_cp]) rfl (SelL.arr (f := f32) (fun _ => rfl) rfl trivial)))
  ·refine RunC.regionW ?_
   refine zM (r := i64 a2) rfl rfl rfl rfl rfl ?_
   refine zM (r := i64 a1) rfl rfl rfl rfl rfl ?_
   refine zL (r := i64 x17) rfl rfl rfl (LOp.eqr (LOp.sub rfl rfl rfl) (congrArg (ik .i64) hx15)) ?_
   refine zL (r := b false) rfl rfl rfl (LOp.eqb (LOp.eql rfl rfl rfl) hc16) ?_
   refine zN ?_
   refine RunC.cond_false rfl rfl ?_
   refine RunC.skip ?_
   refine RunC.seq ?_
   obtain ⟨x32, hx28, h⟩ := olet_some h
   obtain ⟨x33, hx29, h⟩ := olet_some h
   cases h
noncomputable def x_slices_stableCmpFunc_int64_0o_2Fi_LowMatrix_1_2c0p1_C10o2_b1 (a0 : Int) (a1 : List Int) (a2 : List F) (L1 : List Int) (L3 : List F) (v5 : Int) (v6 : Int) : Option (LR ((List Int) × (List F) × Int × Int) ((List Int) × (List F) × Int) ((List Int) × (List F))) :=
 bsel (decide (v6 ≤ a0)) (
  obind2 (x_slices_insertionSortCmpFunc_int64_0o_3Fi_LowMatrix_1_3c0p1_C10o2 v5 v6 L1 L3) fun (r7 : List Int) (r8 : List F) =>
  need (decide (r7.length = a1.length)) <|
  need (decide (r8.length = a2.length)) <|
  olet (IntKind.i64.wrap (v6 + 20)) fun (x9 : Int) =>
  some (LR.next (r7, r8, v6, x9))) (
  some (LR.out (L1, L3, v5)))
noncomputable def x_slices_stableCmpFunc_int64_0o_2Fi_LowMatrix_1_2c0p1_C10o2_s1 (a0 : Int) (a1 : List Int) (a2 : List F) : ((List Int) × (List F) × Int × Int) → Option (LR ((List Int) × (List F) × Int × Int) ((List Int) × (List F) × Int) ((List Int) × (List F))) := fun s => x_slices_stableCmpFunc_int64_0o_2Fi_LowMatrix_1_2c0p1_C10o2_b1 a0 a1 a2 s.1 s.2.1 s.2.2.1 s.2.2.2
noncomputable def x_slices_stableCmpFunc_int64_0o_2Fi_LowMatrix_1_2c0p1_C10o2_b4 (a0 : Int) (a1 : List Int) (a2 : List F) (v21 : Int) (L23 : List Int) (L25 : List F) (v27 : Int) (v28 : Int) : Option (LR ((List Int) × (List F) × Int × Int) ((List Int) × (List F) × Int) ((List Int) × (List F))) :=
 bsel (decide (v28 ≤ a0)) (
  olet (IntKind.i64.wrap (v27 + v21)) fun (x29 : Int) =>
  obind2 (x_slices_symMergeCmpFunc_int64_0o_4Fi_LowMatrix_1_4c0p1_C10o2 v27 x29 v28 L23 L25) fun (r30 : List Int) (r31 : List F) =>
  need (decide (r30.length = a1.length)) <|
  need (decide (r31.length = a2.length)) <|
  olet (IntKind.i64.wrap (2 * v21)) fun (x32 : Int) =>
  olet (IntKind.i64.wrap (v28 + x32)) fun (x33 : Int) =>
  some (LR.next (r30, r31, v28, x33))) (
  some (LR.out (L23, L25, v27)))
noncomputable def x_slices_stableCmpFunc_int64_0o_2Fi_LowMatrix_1_2c0p1_C10o2_s4 (a0 : Int) (a1 : List Int) (a2 : List F) (v21 : Int) : ((List Int) × (List F) × Int × Int) → Option (LR ((List Int) × (List F) × Int × Int) ((List Int) × (List F) × Int) ((List Int) × (List F))) := fun s => x_slices_stableCmpFunc_int64_0o_2Fi_LowMatrix_1_2c0p1_C10o2_b4 a0 a1 a2 v21 s.1 s.2.1 s.2.2.1 s.2.2.2
noncomputable def x_slices_stableCmpFunc_int64_0o_2Fi_LowMatrix_1_2c0p1_C10o2_k5 (v21 : Int) (L42 : List Int) (L44 : List F) : Option (LR ((List Int) × (List F) × Int) ((List Int) × (List F)) ((List Int) × (List F))) :=
 olet (IntKind.i64.wrap (v21 * 2)) fun (x46 : Int) =>
 some (LR.next (L42, L44, x46))
noncomputable def x_slices_stableCmpFunc_int64_0o_2Fi_LowMatrix_1_2c0p1_C10o2_k4 (a0 : Int) (a1 : List Int) (a2 : List F) (v21 : Int) (L34 : List Int) (L36 : List F) (v38 : Int) : Option (LR ((List Int) × (List F) × Int) ((List Int) × (List F)) ((List Int) × (List F))) :=
 olet (IntKind.i64.wrap (v38 + v21)) fun (x39 : Int) =>
 bsel (decide (x39 < a0)) (
  obind2 (x_slices_symMergeCmpFunc_int64_0o_4Fi_LowMatrix_1_4c0p1_C10o2 v38 x39 a0 L34 L36) fun (r40 : List Int) (r41 : List F) =>
  need (decide (r40.length = a1.length)) <|
  need (decide (r41.length = a2.length)) <|
  x_slices_stableCmpFunc_int64_0o_2Fi_LowMatrix_1_2c0p1_C10o2_k5 v21 r40 r41) (
  x_slices_stableCmpFunc_int64_0o_2Fi_LowMatrix_1_2c0p1_C10o2_k5 v21 L34 L36)
noncomputable def x_slices_stableCmpFunc_int64_0o_2Fi_LowMatrix_1_2c0p1_C10o2_b6 (a0 : Int) (a1 : List Int) (a2 : List F) (L17 : List Int) (L19 : List F) (v21 : Int) : Option (LR ((List Int) × (List F) × Int) ((List Int) × (List F)) ((List Int) × (List F))) :=
 bsel (decide (v21 < a0)) (
  olet (IntKind.i64.wrap (2 * v21)) fun (x22 : Int) =>
  obind (loopM (x_slices_stableCmpFunc_int64_0o_2Fi_LowMatrix_1_2c0p1_C10o2_s4 a0 a1 a2 v21) (L17, L19, 0, x22)) fun z => osum z (fun e => x_slices_stableCmpFunc_int64_0o_2Fi_LowMatrix_1_2c0p1_C10o2_k4 a0 a1 a2 v21 e.1 e.2.1 e.2.2) (fun r => some (LR.ret r))) (
  some (LR.out (L17, L19)))
noncomputable def x_slices_stableCmpFunc_int64_0o_2Fi_LowMatrix_1_2c0p1_C10o2_s6 (a0 : Int) (a1 : List Int) (a2 : List F) : ((List Int) × (List F) × Int) → Option (LR ((List Int) × (List F) × Int) ((List Int) × (List F)) ((List Int) × (List F))) := fun s => x_slices_stableCmpFunc_int64_0o_2Fi_LowMatrix_1_2c0p1_C10o2_b6 a0 a1 a2 s.1 s.2.1 s.2.2
noncomputable def x_slices_stableCmpFunc_int64_0o_2Fi_LowMatrix_1_2c0p1_C10o2_k6 (L47 : List Int) (L49 : List F) : Option ((List Int) × (List F)) :=
 some (L47, L49)
noncomputable def x_slices_stableCmpFunc_int64_0o_2Fi_LowMatrix_1_2c0p1_C10o2_k1 (a0 : Int) (a1 : List Int) (a2 : List F) (L10 : List Int) (L12 : List F) (v14 : Int) : Option ((List Int) × (List F)) :=
 obind2 (x_slices_insertionSortCmpFunc_int64_0o_3Fi_LowMatrix_1_3c0p1_C10o2 v14 a0 L10 L12) fun (r15 : List Int) (r16 : List F) =>
 need (decide (r15.length = a1.length)) <|
 need (decide (r16.length = a2.length)) <|
 obind (loopM (x_slices_stableCmpFunc_int64_0o_2Fi_LowMatrix_1_2c0p1_C10o2_s6 a0 a1 a2) (r15, r16, 20)) fun z => osum z (fun e => x_slices_stableCmpFunc_int64_0o_2Fi_LowMatrix_1_2c0p1_C10o2_k6 e.1 e.2) (fun r => some r)
noncomputable def x_slices_stableCmpFunc_int64_0o_2Fi_LowMatrix_1_2c0p1_C10o2 (a0 : Int) (a1 : List Int) (a2 : List F) : Option ((List Int) × (List F)) :=
 obind (loopM (x_slices_stableCmpFunc_int64_0o_2Fi_LowMatrix_1_2c0p1_C10o2_s1 a0 a1 a2) (a1, a2, 0, 20)) fun z => osum z (fun e => x_slices_stableCmpFunc_int64_0o_2Fi_LowMatrix_1_2c0p1_C10o2_k1 a0 a1 a2 e.1 e.2.1 e.2.2) (fun r => some r)
theorem x_slices_stableCmpFunc_int64_0o_2Fi_LowMatrix_1_2c0p1_C10o2_ok (a0 : Int) (a1 : List Int) (a2 : List F) (q0 : List Int) (q1 : List F) (h : x_slices_stableCmpFunc_int64_0o_2Fi_LowMatrix_1_2c0p1_C10o2 a0 a1 a2 = some (q0, q1)) : Ev Tryz.prog 66 [oref 0 0 0 a1.length, i64 a0, fn (.func 29) [] [optr 1 0 0]] [⟨0, some (a1.map i64)⟩, ⟨0, some [oref 2 0 0 a2.length]⟩, ⟨0, some (a2.map f32)⟩] (tup []) [⟨0, some (q0.map i64)⟩, ⟨0, some [oref 2 0 0 a2.length]⟩, ⟨0, some (q1.map f32)⟩] := by
 refine Ev.start Tryz.func66 rfl rfl 0 (τ := [(0, oref 0 0 0 a1.length), (1, i64 a0), (2, fn (.func 29) [] [optr 1 0 0])]) rfl (Γ' := [⟨0, some (a1.map i64)⟩, ⟨0, some [oref 2 0 0 a2.length]⟩, ⟨0, some (a2.map f32)⟩]) rfl (n := 126) rfl (g := 3) rfl (by decide) ?_
 unfold x_slices_stableCmpFunc_int64_0o_2Fi_LowMatrix_1_2c0p1_C10o2 at h
 refine zQ ?_
 refine zA (r := i64 20) rfl rfl rfl rfl rfl ?_
 refine zN ?_
 refine zQ ?_
 refine zM (r := i64 20) rfl rfl rfl rfl rfl ?_
 refine zA (r := i64 0) rfl rfl rfl rfl rfl ?_
 refine zA (r := i64 20) rfl rfl rfl rfl rfl ?_
 refine zN ?_
 refine RunC.seq ?_
 obtain ⟨z7, hz_7, h⟩ := obind_some h
 refine RunC.cutN (fun τ Γ => ∃ (L10 : List Int) (L12 : List F) (v14 : Int), L10.length = a1.length ∧ L12.length = a2.length ∧ WeakLe τ [(0, oref 0 0 0 a1.length), (1, i64 a0), (2, fn (.func 29) [] [optr 1 0 0]), (6, i64 20), (7, i64 v14)] ∧ DeadLe Γ [⟨0, some (L10.map i64)⟩, ⟨0, some [oref 2 0 0 a2.length]⟩, ⟨0, some (L12.map f32)⟩] ∧ z7 = .inl (L10, L12, v14)) ?_ ?_
 ·refine RunC.block (RunC.loop (RunL.loopM (x := z7) (x_slices_stableCmpFunc_int64_0o_2Fi_LowMatrix_1_2c0p1_C10o2_s1 a0 a1 a2) (fun (s : (List Int) × (List F) × Int × Int) τ Γ => s.1.length = a1.length ∧ s.2.1.length = a2.length ∧ WeakLe τ [(0, oref 0 0 0 a1.length), (1, i64 a0), (2, fn (.func 29) [] [optr 1 0 0]), (6, i64 20), (7, i64 s.2.2.1), (8, i64 s.2.2.2)] ∧ DeadLe Γ [⟨0, some (s.1.map i64)⟩, ⟨0, some [oref 2 0 0 a2.length]⟩, ⟨0, some (s.2.1.map f32)⟩]) ?_ _ _ _ hz_7 ⟨rfl, rfl, ⟨aR, aR, aR, aR, aR, aR, trivial⟩, ⟨⟨rfl, .inr rfl⟩, ⟨rfl, .inr rfl⟩, ⟨rfl, .inr rfl⟩, trivial⟩⟩))
  rintro ⟨L1, L3, v5, v6⟩ τ7 Γ7 y7_ ⟨hl2, hl4, hw7, hd7⟩ h7_ ho7 hr7
  refine RunC.wl (τ' := [(0, oref 0 0 0 a1.length), (1, i64 a0), (2, fn (.func 29) [] [optr 1 0 0]), (6, i64 20), (7, i64 v5), (8, i64 v6)]) (Γ' := [⟨0, some (L1.map i64)⟩, ⟨0, some [oref 2 0 0 a2.length]⟩, ⟨0, some (L3.map f32)⟩]) hw7 hd7 ?_
  replace hl2 : L1.length = a1.length := hl2
  replace hl4 : L3.length = a2.length := hl4
  replace h7_ : x_slices_stableCmpFunc_int64_0o_2Fi_LowMatrix_1_2c0p1_C10o2_b1 a0 a1 a2 L1 L3 v5 v6 = some y7_ := h7_
  unfold x_slices_stableCmpFunc_int64_0o_2Fi_LowMatrix_1_2c0p1_C10o2_b1 at h7_
  refine RunC.seq ?_
  refine RunC.seq ?_
  rcases bsel_some h7_ with ⟨hc1, h7_⟩ | ⟨hc1, h7_⟩
  ·refine RunC.regionW ?_
   refine zM (r := i64 v6) rfl rfl rfl rfl rfl ?_
   refine zM (r := i64 a0) rfl rfl rfl rfl rfl ?_
   refine zL (r := b true) rfl rfl rfl (LOp.eqb (LOp.leq rfl rfl rfl) hc1) ?_
   refine zN ?_
   refine RunC.cond_true rfl rfl ?_
   refine RunC.skip ?_
   refine RunC.block ?_
   refine RunC.seq ?_
   obtain ⟨r7, r8, hf2, h7_⟩ := obind2_some h7_
   obtain ⟨hn3, h7_⟩ := need_some h7_
   obtain ⟨hn4, h7_⟩ := need_some h7_
   refine RunC.regionW ?_
   refine zM (r := oref 0 0 0 a1.length) rfl rfl rfl rfl rfl ?_
   refine zM (r := i64 v5) rfl rfl rfl rfl rfl ?_
   refine zM (r := i64 v6) rfl rfl rfl rfl rfl ?_
   refine zM (r := fn (.func 29) [] [optr 1 0 0]) rfl rfl rfl rfl rfl ?_
   refine ROps.callO (A := [oref 0 0 0 a1.length, i64 v5, i64 v6, fn (.func 29) [] [optr 1 0 0]]) (args := [oref 0 0 0 L1.length, i64 v5, i64 v6, fn (.func 29) [] [optr 1 0 0]]) (Γc := [⟨0, some (L1.map i64)⟩, ⟨0, some [oref 2 0 0 L3.length]⟩, ⟨0, some (L3.map f32)⟩]) (Γc' := [⟨0, some (r7.map i64)⟩, ⟨0, some [oref 2 0 0 L3.length]⟩, ⟨0, some (r8.map f32)⟩]) (r' := tup []) (Γ' := [⟨0, some (r7.map i64)⟩, ⟨0, some [oref 2 0 0 a2.length]⟩, ⟨0, some (r8.map f32)⟩]) [(0, 0), (1, 0), (2, 0)] [] rfl (CallAs.func ent104 rfl rfl) rfl rfl (SelOk.of (show List.Nodup [0, 1, 2] from by decide) (SelL.arr0 (f := i64) (fun _ => rfl) rfl (SelL.cells0 rfl (by simp [ren, rens, sigma, rens_f32, rens_f64, rens_i64, rens_ik, rens_str, rens_cp, hl2, hl4]) rfl (SelL.arr0 (f := f32) (fun _ => rfl) rfl trivial)))) (live_of ⟨⟨_, _, rfl⟩, ⟨_, _, rfl⟩, ⟨_, _, rfl⟩, trivial⟩) (by simp [ren, rens, sigma, rens_f32, rens_f64, rens_i64, rens_ik, rens_str, rens_cp, hl2, hl4]) rfl (x_slices_insertionSortCmpFunc_int64_0o_3Fi_LowMatrix_1_3c0p1_C10o2_ok v5 v6 L1 L3 r7 r8 hf2) rfl (news_of trivial) (show List.Nodup [0, 1, 2] from by decide) (by simp [ren, rens, sigma, of_decide_eq_true hn3, of_decide_eq_true hn4]) (by simp [backOb, sigma, ren, rens, rens_f32, rens_f64, rens_i64, rens_ik, rens_str, rens_cp, hl2, hl4, of_decide_eq_true hn3, of_decide_eq_true hn4]) ?_
   refine zN ?_
   refine zQ ?_
   refine zM (r := i64 v6) rfl rfl rfl rfl rfl ?_
   refine zA (r := i64 v6) rfl rfl rfl rfl rfl ?_
   refine zN ?_
   obtain ⟨x9, hx5, h7_⟩ := olet_some h7_
   refine RunC.regionW ?_
   refine zM (r := i64 v6) rfl rfl rfl rfl rfl ?_
   refine zM (r := i64 20) rfl rfl rfl rfl rfl ?_
   refine zL (r := i64 x9) rfl rfl rfl (LOp.eqr (LOp.add rfl rfl rfl) (congrArg (ik .i64) hx5)) ?_
   refine zA (r := i64 x9) rfl rfl rfl rfl rfl ?_
   refine zN ?_
   cases Option.some.inj h7_
   exact ⟨_, rfl, (of_decide_eq_true hn3), (of_decide_eq_true hn4), ⟨aR, aR, aR, aR, aR, aR, trivial⟩, ⟨⟨rfl, .inr rfl⟩, ⟨rfl, .inr rfl⟩, ⟨rfl, .inr rfl⟩, trivial⟩⟩
  ·refine RunC.regionW ?_
   refine zM (r := i64 v6) rfl rfl rfl rfl rfl ?_
   refine zM (r := i64 a0) rfl rfl rfl rfl rfl ?_
   refine zL (r := b false) rfl rfl rfl (LOp.eqb (LOp.leq rfl rfl rfl) hc1) ?_
   refine zN ?_
   refine RunC.cond_false rfl rfl ?_
   refine RunC.exit ?_
   cases Option.some.inj h7_
   have hx := ho7 _ rfl
   exact ⟨L1, L3, v5, hl2, hl4, ⟨aR, aR, aR, aR, aR, trivial⟩, ⟨⟨rfl, .inr rfl⟩, ⟨rfl, .inr rfl⟩, ⟨rfl, .inr rfl⟩, trivial⟩, hx⟩
 ·rintro τ8 Γ8 ⟨L10, L12, v14, hl11, hl13, hw8, hd8, rfl⟩
  refine RunC.wl hw8 hd8 ?_
  replace h : x_slices_stableCmpFunc_int64_0o_2Fi_LowMatrix_1_2c0p1_C10o2_k1 a0 a1 a2 L10 L12 v14 = some (q0, q1) := h
  unfold x_slices_stableCmpFunc_int64_0o_2Fi_LowMatrix_1_2c0p1_C10o2_k1 at h
  refine RunC.seq ?_
  obtain ⟨r15, r16, hf6, h⟩ := obind2_some h
  obtain ⟨hn7, h⟩ := need_some h
  obtain ⟨hn8, h⟩ := need_some h
  refine RunC.regionW ?_
  refine zM (r := oref 0 0 0 a1.length) rfl rfl rfl rfl rfl ?_
  refine zM (r := i64 v14) rfl rfl rfl rfl rfl ?_
  refine zM (r := i64 a0) rfl rfl rfl rfl rfl ?_
  refine zM (r := fn (.func 29) [] [optr 1 0 0]) rfl rfl rfl rfl rfl ?_
  refine ROps.callO (A := [oref 0 0 0 a1.length, i64 v14, i64 a0, fn (.func 29) [] [optr 1 0 0]]) (args := [oref 0 0 0 L10.length, i64 v14, i64 a0, fn (.func 29) [] [optr 1 0 0]]) (Γc := [⟨0, some (L10.map i64)⟩, ⟨0, some [oref 2 0 0 L12.length]⟩, ⟨0, some (L12.map f32)⟩]) (Γc' := [⟨0, some (r15.map i64)⟩, ⟨0, some [oref 2 0 0 L12.length]⟩, ⟨0, some (r16.map f32)⟩]) (r' := tup []) (Γ' := [⟨0, some (r15.map i64)⟩, ⟨0, some [oref 2 0 0 a2.length]⟩, ⟨0, some (r16.map f32)⟩]) [(0, 0), (1, 0), (2, 0)] [] rfl (CallAs.func ent104 rfl rfl) rfl rfl (SelOk.of (show List.Nodup [0, 1, 2] from by decide) (SelL.arr0 (f := i64) (fun _ => rfl) rfl (SelL.cells0 rfl (by simp [ren, rens, sigma, rens_f32, rens_f64, rens_i64, rens_ik, rens_str, rens_cp, hl11, hl13]) rfl (SelL.arr0 (f := f32) (fun _ => rfl) rfl trivial)))) (live_of ⟨⟨_, _, rfl⟩, ⟨_, _, rfl⟩, ⟨_, _, rfl⟩, trivial⟩) (by simp [ren, rens, sigma, rens_f32, rens_f64, rens_i64, rens_ik, rens_str, rens_cp, hl11, hl13]) rfl (x_slices_insertionSortCmpFunc_int64_0o_3Fi_LowMatrix_1_3c0p1_C10o2_ok v14 a0 L10 L12 r15 r16 hf6) rfl (news_of trivial) (show List.Nodup [0, 1, 2] from by decide) (by simp [ren, rens, sigma, of_decide_eq_true hn7, of_decide_eq_true hn8]) (by simp [backOb, sigma, ren, rens, rens_f32, rens_f64, rens_i64, rens_ik, rens_str, rens_cp, hl11, hl13, of_decide_eq_true hn7, of_decide_eq_true hn8]) ?_
  refine zN ?_
  obtain ⟨z9, hz_9, h⟩ := obind_some h
  refine RunC.cutN (fun τ Γ => ∃ (L47 : List Int) (L49 : List F), L47.length = a1.length ∧ L49.length = a2.length ∧ WeakLe τ [] ∧ DeadLe Γ [⟨0, some (L47.map i64)⟩, ⟨0, some [oref 2 0 0 a2.length]⟩, ⟨0, some (L49.map f32)⟩] ∧ z9 = .inl (L47, L49)) ?_ ?_
  ·refine RunC.block (RunC.loop (RunL.loopM (x := z9) (x_slices_stableCmpFunc_int64_0o_2Fi_LowMatrix_1_2c0p1_C10o2_s6 a0 a1 a2) (fun (s : (List Int) × (List F) × Int) τ Γ => s.1.length = a1.length ∧ s.2.1.length = a2.length ∧ WeakLe τ [(0, oref 0 0 0 a1.length), (1, i64 a0), (2, fn (.func 29) [] [optr 1 0 0]), (6, i64 s.2.2)] ∧ DeadLe Γ [⟨0, some (s.1.map i64)⟩, ⟨0, some [oref 2 0 0 a2.length]⟩, ⟨0, some (s.2.1.map f32)⟩]) ?_ _ _ _ hz_9 ⟨(of_decide_eq_true hn7), (of_decide_eq_true hn8), ⟨aR, aR, aR, aR, trivial⟩, ⟨⟨rfl, .inr rfl⟩, ⟨rfl, .inr rfl⟩, ⟨rfl, .inr rfl⟩, trivial⟩⟩))
   rintro ⟨L17, L19, v21⟩ τ9 Γ9 y9_ ⟨hl18, hl20, hw9, hd9⟩ h9_ ho9 hr9
   refine RunC.wl (τ' := [(0, oref 0 0 0 a1.length), (1, i64 a0), (2, fn (.func 29) [] [optr 1 0 0]), (6, i64 v21)]) (Γ' := [⟨0, some (L17.map i64)⟩, ⟨0, some [oref 2 0 0 a2.length]⟩, ⟨0, some (L19.map f32)⟩]) hw9 hd9 ?_
   replace hl18 : L17.length = a1.length := hl18
   replace hl20 : L19.length = a2.length := hl20
   replace h9_ : x_slices_stableCmpFunc_int64_0o_2Fi_LowMatrix_1_2c0p1_C10o2_b6 a0 a1 a2 L17 L19 v21 = some y9_ := h9_
   unfold x_slices_stableCmpFunc_int64_0o_2Fi_LowMatrix_1_2c0p1_C10o2_b6 at h9_
   refine RunC.seq ?_
   refine RunC.seq ?_
   rcases bsel_some h9_ with ⟨hc9, h9_⟩ | ⟨hc9, h9_⟩
   ·refine RunC.regionW ?_
    refine zM (r := i64 v21) rfl rfl rfl rfl rfl ?_
    refine zM (r := i64 a0) rfl rfl rfl rfl rfl ?_
    refine zL (r := b true) rfl rfl rfl (LOp.eqb (LOp.lss rfl rfl rfl) hc9) ?_
    refine zN ?_
    refine RunC.cond_true rfl rfl ?_
    refine RunC.skip ?_
    refine RunC.block ?_
    refine RunC.seq ?_
    obtain ⟨x22, hx10, h9_⟩ := olet_some h9_
    refine RunC.regionW ?_
    refine zM (r := i64 v21) rfl rfl rfl rfl rfl ?_
    refine zL (r := i64 x22) rfl rfl rfl (LOp.eqr (LOp.mul rfl rfl rfl) (congrArg (ik .i64) hx10)) ?_
    refine zA (r := i64 0) rfl rfl rfl rfl rfl ?_
    refine zA (r := i64 x22) rfl rfl rfl rfl rfl ?_
    refine zN ?_
    refine RunC.seq ?_
    obtain ⟨z10, hz_10, h9_⟩ := obind_some h9_
    refine RunC.cutN (fun τ Γ => ∃ (L34 : List Int) (L36 : List F) (v38 : Int), L34.length = a1.length ∧ L36.length = a2.length ∧ WeakLe τ [(0, oref 0 0 0 a1.length), (1, i64 a0), (2, fn (.func 29) [] [optr 1 0 0]), (6, i64 v21), (7, i64 v38)] ∧ DeadLe Γ [⟨0, some (L34.map i64)⟩, ⟨0, some [oref 2 0 0 a2.length]⟩, ⟨0, some (L36.map f32)⟩] ∧ z10 = .inl (L34, L36, v38)) ?_ ?_
    ·refine RunC.block (RunC.loop (RunL.loopM (x := z10) (x_slices_stableCmpFunc_int64_0o_2Fi_LowMatrix_1_2c0p1_C10o2_s4 a0 a1 a2 v21) (fun (s : (List Int) × (List F) × Int × Int) τ Γ => s.1.length = a1.length ∧ s.2.1.length = a2.length ∧ WeakLe τ [(0, oref 0 0 0 a1.length), (1, i64 a0), (2, fn (.func 29) [] [optr 1 0 0]), (6, i64 v21), (7, i64 s.2.2.1), (8, i64 s.2.2.2)] ∧ DeadLe Γ [⟨0, some (s.1.map i64)⟩, ⟨0, some [oref 2 0 0 a2.length]⟩, ⟨0, some (s.2.1.map f32)⟩]) ?_ _ _ _ hz_10 ⟨hl18, hl20, ⟨aR, aR, aR, aR, aR, aR, trivial⟩, ⟨⟨rfl, .inr rfl⟩, ⟨rfl, .inr rfl⟩, ⟨rfl, .inr rfl⟩, trivial⟩⟩))
     rintro ⟨L23, L25, v27, v28⟩ τ10 Γ10 y10_ ⟨hl24, hl26, hw10, hd10⟩ h10_ ho10 hr10
     refine RunC.wl (τ' := [(0, oref 0 0 0 a1.length), (1, i64 a0), (2, fn (.func 29) [] [optr 1 0 0]), (6, i64 v21), (7, i64 v27), (8, i64 v28)]) (Γ' := [⟨0, some (L23.map i64)⟩, ⟨0, some [oref 2 0 0 a2.length]⟩, ⟨0, some (L25.map f32)⟩]) hw10 hd10 ?_
     replace hl24 : L23.length = a1.length := hl24
     replace hl26 : L25.length = a2.length := hl26
     replace h10_ : x_slices_stableCmpFunc_int64_0o_2Fi_LowMatrix_1_2c0p1_C10o2_b4 a0 a1 a2 v21 L23 L25 v27 v28 = some y10_ := h10_
     unfold x_slices_stableCmpFunc_int64_0o_2Fi_LowMatrix_1_2c0p1_C10o2_b4 at h10_
     refine RunC.seq ?_
     refine RunC.seq ?_
     rcases bsel_some h10_ with ⟨hc11, h10_⟩ | ⟨hc11, h10_⟩
     ·refine RunC.regionW ?_
      refine zM (r := i64 v28) rfl rfl rfl rfl rfl ?_
      refine zM (r := i64 a0) rfl rfl rfl rfl rfl ?_
      refine zL (r := b true) rfl rfl rfl (LOp.eqb (LOp.leq rfl rfl rfl) hc11) ?_
      refine zN ?_
      refine RunC.cond_true rfl rfl ?_
      refine RunC.skip ?_
      refine RunC.block ?_
      refine RunC.seq ?_
      obtain ⟨x29, hx12, h10_⟩ := olet_some h10_
      obtain ⟨r30, r31, hf13, h10_⟩ := obind2_some h10_
      obtain ⟨hn14, h10_⟩ := need_some h10_
      obtain ⟨hn15, h10_⟩ := need_some h10_
      refine RunC.regionW ?_
      refine zM (r := oref 0 0 0 a1.length) rfl rfl rfl rfl rfl ?_
      refine zM (r := i64 v27) rfl rfl rfl rfl rfl ?_
      refine zM (r := i64 v27) rfl rfl rfl rfl rfl ?_
      refine zM (r := i64 v21) rfl rfl rfl rfl rfl ?_
      refine zL (r := i64 x29) rfl rfl rfl (LOp.eqr (LOp.add rfl rfl rfl) (congrArg (ik .i64) hx12)) ?_
      refine zM (r := i64 v28) rfl rfl rfl rfl rfl ?_
      refine zM (r := fn (.func 29) [] [optr 1 0 0]) rfl rfl rfl rfl rfl ?_
      refine ROps.callO (A := [oref 0 0 0 a1.length, i64 v27, i64 x29, i64 v28, fn (.func 29) [] [optr 1 0 0]]) (args := [oref 0 0 0 L23.length, i64 v27, i64 x29, i64 v28, fn (.func 29) [] [optr 1 0 0]]) (Γc := [⟨0, some (L23.map i64)⟩, ⟨0, some [oref 2 0 0 L25.length]⟩, ⟨0, some (L25.map f32)⟩]) (Γc' := [⟨0, some (r30.map i64)⟩, ⟨0, some [oref 2 0 0 L25.length]⟩, ⟨0, some (r31.map f32)⟩]) (r' := tup []) (Γ' := [⟨0, some (r30.map i64)⟩, ⟨0, some [oref 2 0 0 a2.length]⟩, ⟨0, some (r31.map f32)⟩]) [(0, 0), (1, 0), (2, 0)] [] rfl (CallAs.func ent105 rfl rfl) rfl rfl (SelOk.of (show List.Nodup [0, 1, 2] from by decide) (SelL.arr0 (f := i64) (fun _ => rfl) rfl (SelL.cells0 rfl (by simp [ren, rens, sigma, rens_f32, rens_f64, rens_i64, rens_ik, rens_str, rens_cp, hl24, hl26]) rfl (SelL.arr0 (f := f32) (fun _ => rfl) rfl trivial)))) (live_of ⟨⟨_, _, rfl⟩, ⟨_, _, rfl⟩, ⟨_, _, rfl⟩, trivial⟩) (by simp [ren, rens, sigma, rens_f32, rens_f64, rens_i64, rens_ik, rens_str, rens_cp, hl24, hl26]) rfl (x_slices_symMergeCmpFunc_int64_0o_4Fi_LowMatrix_1_4c0p1_C10o2_ok v27 x29 v28 L23 L25 r30 r31 hf13) rfl (news_of trivial) (show List.Nodup [0, 1, 2] from by decide) (by simp [ren, rens, sigma, of_decide_eq_true hn14, of_decide_eq_true hn15]) (by simp [backOb, sigma, ren, rens, rens_f32, rens_f64, rens_i64, rens_ik, rens_str, rens_cp, hl24, hl26, of_decide_eq_true hn14, of_decide_eq_true hn15]) ?_
      refine zN ?_
      refine zQ ?_
      refine zM (r := i64 v28) rfl rfl rfl rfl rfl ?_
      refine zA (r := i64 v28) rfl rfl rfl rfl rfl ?_
      refine zN ?_
      obtain ⟨x32, hx16, h10_⟩ := olet_some h10_
      obtain ⟨x33, hx17, h10_⟩ := olet_some h10_
      refine RunC.regionW ?_
      refine zM (r := i64 v28) rfl rfl rfl rfl rfl ?_
      refine zM (r := i64 v21) rfl rfl rfl rfl rfl ?_
      refine zL (r := i64 x32) rfl rfl rfl (LOp.eqr (LOp.mul rfl rfl rfl) (congrArg (ik .i64) hx16)) ?_
      refine zL (r := i64 x33) rfl rfl rfl (LOp.eqr (LOp.add rfl rfl rfl) (congrArg (ik .i64) hx17)) ?_
      refine zA (r := i64 x33) rfl rfl rfl rfl rfl ?_
      refine zN ?_
      cases Option.some.inj h10_
      exact ⟨_, rfl, (of_decide_eq_true hn14), (of_decide_eq_true hn15), ⟨aR, aR, aR, aR, aR, aR, trivial⟩, ⟨⟨rfl, .inr rfl⟩, ⟨rfl, .inr rfl⟩, ⟨rfl, .inr rfl⟩, trivial⟩⟩
     ·refine RunC.regionW ?_
      refine zM (r := i64 v28) rfl rfl rfl rfl rfl ?_
      refine zM (r := i64 a0) rfl rfl rfl rfl rfl ?_
      refine zL (r := b false) rfl rfl rfl (LOp.eqb (LOp.leq rfl rfl rfl) hc11) ?_
      refine zN ?_
      refine RunC.cond_false rfl rfl ?_
      refine RunC.exit ?_
      cases Option.some.inj h10_
      have hx := ho10 _ rfl
      exact ⟨L23, L25, v27, hl24, hl26, ⟨aR, aR, aR, aR, aR, trivial⟩, ⟨⟨rfl, .inr rfl⟩, ⟨rfl, .inr rfl⟩, ⟨rfl, .inr rfl⟩, trivial⟩, hx⟩
    ·rintro τ11 Γ11 ⟨L34, L36, v38, hl35, hl37, hw11, hd11, rfl⟩
     refine RunC.wl hw11 hd11 ?_
     replace h9_ : x_slices_stableCmpFunc_int64_0o_2Fi_LowMatrix_1_2c0p1_C10o2_k4 a0 a1 a2 v21 L34 L36 v38 = some y9_ := h9_
     unfold x_slices_stableCmpFunc_int64_0o_2Fi_LowMatrix_1_2c0p1_C10o2_k4 at h9_
     refine RunC.seq ?_
     refine RunC.cutN (fun τ Γ => ∃ (L42 : List Int) (L44 : List F), L42.length = a1.length ∧ L44.length = a2.length ∧ WeakLe τ [(0, oref 0 0 0 a1.length), (1, i64 a0), (2, fn (.func 29) [] [optr 1 0 0]), (6, i64 v21)] ∧ DeadLe Γ [⟨0, some (L42.map i64)⟩, ⟨0, some [oref 2 0 0 a2.length]⟩, ⟨0, some (L44.map f32)⟩] ∧ x_slices_stableCmpFunc_int64_0o_2Fi_LowMatrix_1_2c0p1_C10o2_k5 v21 L42 L44 = some y9_) ?_ ?_
     ·refine RunC.seq ?_
      obtain ⟨x39, hx18, h9_⟩ := olet_some h9_
      refine RunC.regionW ?_
      refine zM (r := i64 v38) rfl rfl rfl rfl rfl ?_
      refine zM (r := i64 v21) rfl rfl rfl rfl rfl ?_
      refine zL (r := i64 x39) rfl rfl rfl (LOp.eqr (LOp.add rfl rfl rfl) (congrArg (ik .i64) hx18)) ?_
      refine zA (r := i64 x39) rfl rfl rfl rfl rfl ?_
      refine zN ?_
      refine RunC.seq ?_
      rcases bsel_some h9_ with ⟨hc19, h9_⟩ | ⟨hc19, h9_⟩
      ·refine RunC.regionW ?_
       refine zM (r := i64 x39) rfl rfl rfl rfl rfl ?_
       refine zM (r := i64 a0) rfl rfl rfl rfl rfl ?_
       refine zL (r := b true) rfl rfl rfl (LOp.eqb (LOp.lss rfl rfl rfl) hc19) ?_
       refine zN ?_
       refine RunC.cond_true rfl rfl ?_
       obtain ⟨r40, r41, hf20, h9_⟩ := obind2_some h9_
       obtain ⟨hn21, h9_⟩ := need_some h9_
       obtain ⟨hn22, h9_⟩ := need_some h9_
       refine RunC.regionW ?_
       refine zM (r := oref 0 0 0 a1.length) rfl rfl rfl rfl rfl ?_
       refine zM (r := i64 v38) rfl rfl rfl rfl rfl ?_
       refine zM (r := i64 x39) rfl rfl rfl rfl rfl ?_
       refine zM (r := i64 a0) rfl rfl rfl rfl rfl ?_
       refine zM (r := fn (.func 29) [] [optr 1 0 0]) rfl rfl rfl rfl rfl ?_
       refine ROps.callO (A := [oref 0 0 0 a1.length, i64 v38, i64 x39, i64 a0, fn (.func 29) [] [optr 1 0 0]]) (args := [oref 0 0 0 L34.length, i64 v38, i64 x39, i64 a0, fn (.func 29) [] [optr 1 0 0]]) (Γc := [⟨0, some (L34.map i64)⟩, ⟨0, some [oref 2 0 0 L36.length]⟩, ⟨0, some (L36.map f32)⟩]) (Γc' := [⟨0, some (r40.map i64)⟩, ⟨0, some [oref 2 0 0 L36.length]⟩, ⟨0, some (r41.map f32)⟩]) (r' := tup []) (Γ' := [⟨0, some (r40.map i64)⟩, ⟨0, some [oref 2 0 0 a2.length]⟩, ⟨0, some (r41.map f32)⟩]) [(0, 0), (1, 0), (2, 0)] [] rfl (CallAs.func ent105 rfl rfl) rfl rfl (SelOk.of (show List.Nodup [0, 1, 2] from by decide) (SelL.arr0 (f := i64) (fun _ => rfl) rfl (SelL.cells0 rfl (by simp [ren, rens, sigma, rens_f32, rens_f64, rens_i64, rens_ik, rens_str, rens_cp, hl35, hl37]) rfl (SelL.arr0 (f := f32) (fun _ => rfl) rfl trivial)))) (live_of ⟨⟨_, _, rfl⟩, ⟨_, _, rfl⟩, ⟨_, _, rfl⟩, trivial⟩) (by simp [ren, rens, sigma, rens_f32, rens_f64, rens_i64, rens_ik, rens_str, rens_cp, hl35, hl37]) rfl (x_slices_symMergeCmpFunc_int64_0o_4Fi_LowMatrix_1_4c0p1_C10o2_ok v38 x39 a0 L34 L36 r40 r41 hf20) rfl (news_of trivial) (show List.Nodup [0, 1, 2] from by decide) (by simp [ren, rens, sigma, of_decide_eq_true hn21, of_decide_eq_true hn22]) (by simp [backOb, sigma, ren, rens, rens_f32, rens_f64, rens_i64, rens_ik, rens_str, rens_cp, hl35, hl37, of_decide_eq_true hn21, of_decide_eq_true hn22]) ?_
       refine zN ?_
       exact ⟨r40, r41, (of_decide_eq_true hn21), (of_decide_eq_true hn22), ⟨aR, aR, aR, aR, trivial⟩, ⟨⟨rfl, .inr rfl⟩, ⟨rfl, .inr rfl⟩, ⟨rfl, .inr rfl⟩, trivial⟩, h9_⟩
      ·refine RunC.regionW ?_
       refine zM (r := i64 x39) rfl rfl rfl rfl rfl ?_
       refine zM (r := i64 a0) rfl rfl rfl rfl rfl ?_
       refine zL (r := b false) rfl rfl rfl (LOp.eqb (LOp.lss rfl rfl rfl) hc19) ?_
       refine zN ?_
       refine RunC.cond_false rfl rfl ?_
       refine RunC.skip ?_
       exact ⟨L34, L36, hl35, hl37, ⟨aR, aR, aR, aR, trivial⟩, ⟨⟨rfl, .inr rfl⟩, ⟨rfl, .inr rfl⟩, ⟨rfl, .inr rfl⟩, trivial⟩, h9_⟩
     ·rintro τ12 Γ12 ⟨L42, L44, hl43, hl45, hw12, hd12, h9_⟩
      refine RunC.wl hw12 hd12 ?_
      unfold x_slices_stableCmpFunc_int64_0o_2Fi_LowMatrix_1_2c0p1_C10o2_k5 at h9_
      obtain ⟨x46, hx23, h9_⟩ := olet_some h9_
      refine RunC.regionW ?_
      refine zM (r := i64 v21) rfl rfl rfl rfl rfl ?_
      refine zL (r := i64 x46) rfl rfl rfl (LOp.eqr (LOp.mul rfl rfl rfl) (congrArg (ik .i64) hx23)) ?_
      refine zA (r := i64 x46) rfl rfl rfl rfl rfl ?_
      refine zN ?_
      cases Option.some.inj h9_
      exact ⟨_, rfl, hl43, hl45, ⟨aR, aR, aR, aR, trivial⟩, ⟨⟨rfl, .inr rfl⟩, ⟨rfl, .inr rfl⟩, ⟨rfl, .inr rfl⟩, trivial⟩⟩
   ·refine RunC.regionW ?_
    refine zM (r := i64 v21) rfl rfl rfl rfl rfl ?_
    refine zM (r := i64 a0) rfl rfl rfl rfl rfl ?_
    refine zL (r := b false) rfl rfl rfl (LOp.eqb (LOp.lss rfl rfl rfl) hc9) ?_
    refine zN ?_
    refine RunC.cond_false rfl rfl ?_
    refine RunC.exit ?_
    cases Option.some.inj h9_
    have hx := ho9 _ rfl
    exact ⟨L17, L19, hl18, hl20, trivial, ⟨⟨rfl, .inr rfl⟩, ⟨rfl, .inr rfl⟩, ⟨rfl, .inr rfl⟩, trivial⟩, hx⟩
  ·rintro τ13 Γ13 ⟨L47, L49, hl48, hl50, hw13, hd13, rfl⟩
   replace h : x_slices_stableCmpFunc_int64_0o_2Fi_LowMatrix_1_2c0p1_C10o2_k6 L47 L49 = some (q0, q1) := h
   unfold x_slices_stableCmpFunc_int64_0o_2Fi_LowMatrix_1_2c0p1_C10o2_k6 at h
   refine bodyQ.wl hw13 hd13 ?_
   have hq := Option.some.inj h
   obtain ⟨hq0, hq⟩ := Prod.mk.inj hq
   subst q0
   subst q1
   exact bodyQ.mk (r' := tup []) [(0, 0), (1, 0), (2, 0)] (.inl rfl) rfl (show List.Nodup [0, 1, 2] from by decide) rfl rfl (Res.zero rfl) (SelL.arr (f := i64) (fun _ => rfl) rfl (SelL.cells rfl (by first | rfl | simp [ren, rens, sigma, rens_f32, rens_f64, rens_i64, rens_ik, rens_str, rens_cp]) rfl (SelL.arr (f := f32) (fun _ => rfl) rfl trivial)))
noncomputable def x_slices_SortStableFunc_int64_int64_0o_1Fi_LowMatrix_1_1c0p1_C10o2 (a0 : List Int) (a1 : List F) : Option ((List Int) × (List F)) :=
 obind2 (x_slices_stableCmpFunc_int64_0o_2Fi_LowMatrix_1_2c0p1_C10o2 ((a0.length : Nat) : Int) a0 a1) fun (r1 : List Int) (r2 : List F) =>
 need (decide (r1.length = a0.length)) <|
 need (decide (r2.length = a1.length)) <|
 some (r1, r2)
theorem x_slices_SortStableFunc_int64_int64_0o_1Fi_LowMatrix_1_1c0p1_C10o2_ok (a0 : List Int) (a1 : List F) (q0 : List Int) (q1 : List F) (h : x_slices_SortStableFunc_int64_int64_0o_1Fi_LowMatrix_1_1c0p1_C10o2 a0 a1 = some (q0, q1)) : Ev Tryz.prog 28 [oref 0 0 0 a0.length, fn (.func 29) [] [optr 1 0 0]] [⟨0, some (a0.map i64)⟩, ⟨0, some [oref 2 0 0 a1.length]⟩, ⟨0, some (a1.map f32)⟩] (tup []) [⟨0, some (q0.map i64)⟩, ⟨0, some [oref 2 0 0 a1.length]⟩, ⟨0, some (q1.map f32)⟩] := by
 refine Ev.start Tryz.func28 rfl rfl 0 (τ := [(0, oref 0 0 0 a0.length), (1, fn (.func 29) [] [optr 1 0 0])]) rfl (Γ' := [⟨0, some (a0.map i64)⟩, ⟨0, some [oref 2 0 0 a1.length]⟩, ⟨0, some (a1.map f32)⟩]) rfl (n := 18) rfl (g := 3) rfl (by decide) ?_
 unfold x_slices_SortStableFunc_int64_int64_0o_1Fi_LowMatrix_1_1c0p1_C10o2 at h
 obtain ⟨r1, r2, hf1, h⟩ := obind2_some h
 obtain ⟨hn2, h⟩ := need_some h
 obtain ⟨hn3, h⟩ := need_some h
 refine RunC.regionW ?_
 refine zM (r := oref 0 0 0 a0.length) rfl rfl rfl rfl rfl ?_
 refine zM (r := oref 0 0 0 a0.length) rfl rfl rfl rfl rfl ?_
 refine zL (r := i64 ((a0.length : Nat) : Int)) rfl rfl rfl (LOp.len_oref und53 rfl rfl) ?_
 refine zM (r := fn (.func 29) [] [optr 1 0 0]) rfl rfl rfl rfl rfl ?_
 refine ROps.callO (A := [oref 0 0 0 a0.length, i64 ((a0.length : Nat) : Int), fn (.func 29) [] [optr 1 0 0]]) (args := [oref 0 0 0 a0.length, i64 ((a0.length : Nat) : Int), fn (.func 29) [] [optr 1 0 0]]) (Γc := [⟨0, some (a0.map i64)⟩, ⟨0, some [oref 2 0 0 a1.length]⟩, ⟨0, some (a1.map f32)⟩]) (Γc' := [⟨0, some (r1.map i64)⟩, ⟨0, some [oref 2 0 0 a1.length]⟩, ⟨0, some (r2.map f32)⟩]) (r' := tup []) (Γ' := [⟨0, some (r1.map i64)⟩, ⟨0, some [oref 2 0 0 a1.length]⟩, ⟨0, some (r2.map f32)⟩]) [(0, 0), (1, 0), (2, 0)] [] rfl (CallAs.func ent66 rfl rfl) rfl rfl (SelOk.of (show List.Nodup [0, 1, 2] from by decide) (SelL.arr0 (f := i64) (fun _ => rfl) rfl (SelL.cells0 rfl (by simp [ren, rens, sigma, rens_f32, rens_f64, rens_i64, rens_ik, rens_str, rens_cp]) rfl (SelL.arr0 (f := f32) (fun _ => rfl) rfl trivial)))) (live_of ⟨⟨_, _, rfl⟩, ⟨_, _, rfl⟩, ⟨_, _, rfl⟩, trivial⟩) (by simp [ren, rens, sigma, rens_f32, rens_f64, rens_i64, rens_ik, rens_str, rens_cp]) rfl (x_slices_stableCmpFunc_int64_0o_2Fi_LowMatrix_1_2c0p1_C10o2_ok ((a0.length : Nat) : Int) a0 a1 r1 r2 hf1) rfl (news_of trivial) (show List.Nodup [0, 1, 2] from by decide) (by simp [ren, rens, sigma, of_decide_eq_true hn2, of_decide_eq_true hn3]) (by simp [backOb, sigma, ren, rens, rens_f32, rens_f64, rens_i64, rens_ik, rens_str, rens_cp, of_decide_eq_true hn2, of_decide_eq_true hn3]) ?_
 refine zN ?_
 have hq := Option.some.inj h
 obtain ⟨hq0, hq⟩ := Prod.mk.inj hq
 subst q0
 subst q1
 exact bodyQ.mk (r' := tup []) [(0, 0), (1, 0), (2, 0)] (.inl rfl) rfl (show List.Nodup [0, 1, 2] from by decide) rfl rfl (Res.zero rfl) (SelL.arr (f := i64) (fun _ => rfl) rfl (SelL.cells rfl (by first | rfl | simp [ren, rens, sigma, rens_f32, rens_f64, rens_i64, rens_ik, rens_str, rens_cp]) rfl (SelL.arr (f := f32) (fun _ => rfl) rfl trivial)))
noncomputable def x_math_bits_Len64 (a0 : Int) : Option (Int) :=
 bsel (decide (4294967296 ≤ a0)) (
  none) (
  bsel (decide (65536 ≤ a0)) (
   none) (
   bsel (decide (256 ≤ a0)) (
    none) (
    olet (IntKind.u8.wrap a0) fun (x1 : Int) =>
    obind (sat? lit_77d67bd0 x1) fun (e2 : Int) =>
    olet (IntKind.i64.wrap e2) fun (x3 : Int) =>
    olet (IntKind.i64.wrap (0 + x3)) fun (x4 : Int) =>
    some x4)))
theorem x_math_bits_Len64_ok (a0 : Int) (q0 : Int) (h : x_math_bits_Len64 a0 = some q0) : Ev Tryz.prog 116 [ik .u64 a0] [] (i64 q0) [] := by
 refine Ev.start Tryz.func116 rfl rfl 0 (τ := [(0, ik .u64 a0)]) rfl (Γ' := []) rfl (n := 51) rfl (g := 0) rfl (fun _ => rfl) ?_
 unfold x_math_bits_Len64 at h
 refine zQ ?_
 refine zA (r := i64 0) rfl rfl rfl rfl rfl ?_
 refine zN ?_
 refine RunC.seq ?_
 refine RunC.seq ?_
 rcases bsel_some h with ⟨hc1, h⟩ | ⟨hc1, h⟩
 ·refine RunC.regionW ?_
  refine zM (r := ik .u64 a0) rfl rfl rfl rfl rfl ?_
  refine zL (r := b true) rfl rfl rfl (LOp.eqb (LOp.geq rfl rfl rfl) hc1) ?_
  refine zN ?_
  refine RunC.cond_true rfl rfl ?_
  refine RunC.seq ?_
  cases h
 ·refine RunC.regionW ?_
  refine zM (r := ik .u64 a0) rfl rfl rfl rfl rfl ?_
  refine zL (r := b false) rfl rfl rfl (LOp.eqb (LOp.geq rfl rfl rfl) hc1) ?_
  refine zN ?_
  refine RunC.cond_false rfl rfl ?_
  refine RunC.skip ?_
  refine RunC.seq ?_
  refine RunC.seq ?_
  rcases bsel_some h with ⟨hc2, h⟩ | ⟨hc2, h⟩
  ·refine RunC.regionW ?_
   refine zM (r := ik .u64 a0) rfl rfl rfl rfl rfl ?_
   refine zL (r := b true) rfl rfl rfl (LOp.eqb (LOp.geq rfl rfl rfl) hc2) ?_
   refine zN ?_
   refine RunC.cond_true rfl rfl ?_
   refine RunC.seq ?_
   cases h
  ·refine RunC.regionW ?_
   refine zM (r := ik .u64 a0) rfl rfl rfl rfl rfl ?_
   refine zL (r := b false) rfl rfl rfl (LOp.eqb (LOp.geq rfl rfl rfl) hc2) ?_
   refine zN ?_
   refine RunC.cond_false rfl rfl ?_
   refine RunC.skip ?_
   refine RunC.seq ?_
   refine RunC.seq ?_
   rcases bsel_some h with ⟨hc3, h⟩ | ⟨hc3, h⟩
   ·refine RunC.regionW ?_
    refine zM (r := ik .u64 a0) rfl rfl rfl rfl rfl ?_
    refine zL (r := b true) rfl rfl rfl (LOp.eqb (LOp.geq rfl rfl rfl) hc3) ?_
    refine zN ?_
    refine RunC.cond_true rfl rfl ?_
    refine RunC.seq ?_
    cases h
   ·refine RunC.regionW ?_
    refine zM (r := ik .u64 a0) rfl rfl rfl rfl rfl ?_
    refine zL (r := b false) rfl rfl rfl (LOp.eqb (LOp.geq rfl rfl rfl) hc3) ?_
    refine zN ?_
    refine RunC.cond_false rfl rfl ?_
    refine RunC.skip ?_
    refine RunC.seq ?_
    obtain ⟨x1, hx4, h⟩ := olet_some h
    obtain ⟨e2, he5, h⟩ := obind_some h
    obtain ⟨x3, hx6, h⟩ := olet_some h
    obtain ⟨x4, hx7, h⟩ := olet_some h
    refine RunC.regionW ?_
    refine zM (r := i64 0) rfl rfl rfl rfl rfl ?_
    refine zM (r := ik .u64 a0) rfl rfl rfl rfl rfl ?_
    refine zL (r := ik .u8 x1) rfl rfl rfl (LOp.eqr (LOp.i2i (src := 121) (dst := 5) ⟨_, pun121⟩ pun5 rfl rfl) (congrArg (ik .u8) hx4)) ?_
    refine zL (r := ik .u8 e2) rfl rfl rfl (LOp.index_str und9 rfl rfl rfl he5) ?_
    refine zL (r := i64 x3) rfl rfl rfl (LOp.eqr (LOp.i2i (src := 5) (dst := 3) ⟨_, pun5⟩ pun3 rfl rfl) (congrArg (ik .i64) hx6)) ?_
    refine zL (r := i64 x4) rfl rfl rfl (LOp.eqr (LOp.add rfl rfl rfl) (congrArg (ik .i64) hx7)) ?_
    refine zA (r := i64 x4) rfl rfl rfl rfl rfl ?_
    refine zN ?_
    refine RunC.ret ?_
    have hq := Option.some.inj h
    subst q0
    exact bodyQ.pure (.inr rfl) rfl (Res.one rfl (RV.tmp rfl))
noncomputable def x_math_bits_Len (a0 : Int) : Option (Int) :=
 obind (x_math_bits_Len64 a0) fun (r1 : Int) =>
 some r1
theorem x_math_bits_Len_ok (a0 : Int) (q0 : Int) (h : x_math_bits_Len a0 = some q0) : Ev Tryz.prog 69 [ik .u64 a0] [] (i64 q0) [] := by
 refine Ev.start Tryz.func69 rfl rfl 0 (τ := [(0, ik .u64 a0)]) rfl (Γ' := []) rfl (n := 17) rfl (g := 0) rfl (fun _ => rfl) ?_
 unfold x_math_bits_Len at h
 refine zQ ?_
 refine zA (r := i64 0) rfl rfl rfl rfl rfl ?_
 refine zN ?_
 refine RunC.seq ?_
 refine RunC.cond_false rfl rfl ?_
 refine RunC.skip ?_
 refine RunC.seq ?_
 obtain ⟨r1, hf1, h⟩ := obind_some h
 refine RunC.regionW ?_
 refine zM (r := ik .u64 a0) rfl rfl rfl rfl rfl ?_
 refine ROps.d (r := i64 r1) (fs := []) (Γ' := []) rfl rfl rfl (TOp.callB (CallAs.func ent116 rfl rfl) (Bors.cons (Bor.pure rfl) Bors.nil) rfl rfl (x_math_bits_Len64_ok a0 r1 hf1)) rfl ?_
 refine zA (r := i64 r1) rfl rfl rfl rfl rfl ?_
 refine zN ?_
 refine RunC.ret ?_
 have hq := Option.some.inj h
 subst q0
 exact bodyQ.pure (.inr rfl) rfl (Res.one rfl (RV.tmp rfl))
noncomputable def x_cmp_isNaN_int64 (a0 : Int) : Option (Bool) :=
 some (!decide (a0 = a0))
theorem x_cmp_isNaN_int64_ok (a0 : Int) (q0 : Bool) (h : x_cmp_isNaN_int64 a0 = some q0) : Ev Tryz.prog 138 [i64 a0] [] (b q0) [] := by
 refine Ev.start Tryz.func138 rfl rfl 0 (τ := [(0, i64 a0)]) rfl (Γ' := []) rfl (n := 13) rfl (g := 0) rfl (fun _ => rfl) ?_
 unfold x_cmp_isNaN_int64 at h
 refine zQ ?_
 refine zA (r := b false) rfl rfl rfl rfl rfl ?_
 refine zN ?_
 refine zQ ?_
 refine zM (r := i64 a0) rfl rfl rfl rfl rfl ?_
 refine zM (r := i64 a0) rfl rfl rfl rfl rfl ?_
 refine zL (r := b (!decide (a0 = a0))) rfl rfl rfl (LOp.neq rfl rfl rfl) ?_
 refine zA (r := b (!decide (a0 = a0))) rfl rfl rfl rfl rfl ?_
 refine zN ?_
 refine RunC.ret ?_
 have hq := Option.some.inj h
 subst q0
 exact bodyQ.pure (.inr rfl) rfl (Res.one rfl (RV.tmp rfl))
noncomputable def x_cmp_Less_int64 (a0 : Int) (a1 : Int) : Option (Bool) :=
 obind (x_cmp_isNaN_int64 a0) fun (r1 : Bool) =>
 bsel r1 (
  obind (x_cmp_isNaN_int64 a1) fun (r2 : Bool) =>
  bsel r2 (
   some (decide (a0 < a1))) (
   some true)) (
  some (decide (a0 < a1)))
theorem x_cmp_Less_int64_ok (a0 : Int) (a1 : Int) (q0 : Bool) (h : x_cmp_Less_int64 a0 a1 = some q0) : Ev Tryz.prog 112 [i64 a0, i64 a1] [] (b q0) [] := by
 refine Ev.start Tryz.func112 rfl rfl 0 (τ := [(0, i64 a0), (1, i64 a1)]) rfl (Γ' := []) rfl (n := 35) rfl (g := 0) rfl (fun _ => rfl) ?_
 unfold x_cmp_Less_int64 at h
 refine zQ ?_
 refine zA (r := b false) rfl rfl rfl rfl rfl ?_
 refine zN ?_
 refine RunC.seq ?_
 obtain ⟨r1, hf1, h⟩ := obind_some h
 rcases bsel_some h with ⟨hc2, h⟩ | ⟨hc2, h⟩
 ·obtain ⟨r2, hf3, h⟩ := obind_some h
  rcases bsel_some h with ⟨hc4, h⟩ | ⟨hc4, h⟩
  ·refine RunC.regionW ?_
   refine zM (r := i64 a0) rfl rfl rfl rfl rfl ?_
   refine ROps.d (r := b true) (fs := []) (Γ' := []) rfl rfl rfl (TOp.eqb (TOp.callB (CallAs.func ent138 rfl rfl) (Bors.cons (Bor.pure rfl) Bors.nil) rfl rfl (x_cmp_isNaN_int64_ok a0 r1 hf1)) hc2) rfl ?_
   refine zM (r := b true) rfl rfl rfl rfl rfl ?_
   refine zM (r := i64 a1) rfl rfl rfl rfl rfl ?_
   refine ROps.d (r := b true) (fs := []) (Γ' := []) rfl rfl rfl (TOp.eqb (TOp.callB (CallAs.func ent138 rfl rfl) (Bors.cons (Bor.pure rfl) Bors.nil) rfl rfl (x_cmp_isNaN_int64_ok a1 r2 hf3)) hc4) rfl ?_
   refine zL (r := b false) rfl rfl rfl (LOp.eqb (LOp.not rfl rfl) rfl) ?_
   refine zL (r := b false) rfl rfl rfl (LOp.pick_true rfl rfl rfl) ?_
   refine zM (r := b false) rfl rfl rfl rfl rfl ?_
   refine zM (r := i64 a0) rfl rfl rfl rfl rfl ?_
   refine zM (r := i64 a1) rfl rfl rfl rfl rfl ?_
   refine zL (r := b (decide (a0 < a1))) rfl rfl rfl (LOp.lss rfl rfl rfl) ?_
   refine zL (r := b (decide (a0 < a1))) rfl rfl rfl (LOp.pick_false rfl rfl rfl) ?_
   refine zA (r := b (decide (a0 < a1))) rfl rfl rfl rfl rfl ?_
   refine zN ?_
   refine RunC.ret ?_
   have hq := Option.some.inj h
   subst q0
   exact bodyQ.pure (.inr rfl) rfl (Res.one rfl (RV.tmp rfl))
  ·refine RunC.regionW ?_
   refine zM (r := i64 a0) rfl rfl rfl rfl rfl ?_
   refine ROps.d (r := b true) (fs := []) (Γ' := []) rfl rfl rfl (TOp.eqb (TOp.callB (CallAs.func ent138 rfl rfl) (Bors.cons (Bor.pure rfl) Bors.nil) rfl rfl (x_cmp_isNaN_int64_ok a0 r1 hf1)) hc2) rfl ?_
   refine zM (r := b true) rfl rfl rfl rfl rfl ?_
   refine zM (r := i64 a1) rfl rfl rfl rfl rfl ?_
   refine ROps.d (r := b false) (fs := []) (Γ' := []) rfl rfl rfl (TOp.eqb (TOp.callB (CallAs.func ent138 rfl rfl) (Bors.cons (Bor.pure rfl) Bors.nil) rfl rfl (x_cmp_isNaN_int64_ok a1 r2 hf3)) hc4) rfl ?_
   refine zL (r := b true) rfl rfl rfl (LOp.eqb (LOp.not rfl rfl) rfl) ?_
   refine zL (r := b true) rfl rfl rfl (LOp.pick_true rfl rfl rfl) ?_
   refine zM (r := b true) rfl rfl rfl rfl rfl ?_
   refine ROps.s rfl rfl rfl ?_
   refine ROps.s rfl rfl rfl ?_
   refine ROps.s rfl rfl rfl ?_
   refine zL (r := b true) rfl rfl rfl (LOp.pick_true rfl rfl rfl) ?_
   refine zA (r := b true) rfl rfl rfl rfl rfl ?_
   refine zN ?_
   refine RunC.ret ?_
   have hq := Option.some.inj h
   subst q0
   exact bodyQ.pure (.inr rfl) rfl (Res.one rfl (RV.tmp rfl))
 ·refine RunC.regionW ?_
  refine zM (r := i64 a0) rfl rfl rfl rfl rfl ?_
  refine ROps.d (r := b false) (fs := []) (Γ' := []) rfl rfl rfl (TOp.eqb (TOp.callB (CallAs.func ent138 rfl rfl) (Bors.cons (Bor.pure rfl) Bors.nil) rfl rfl (x_cmp_isNaN_int64_ok a0 r1 hf1)) hc2) rfl ?_
  refine zM (r := b false) rfl rfl rfl rfl rfl ?_
  refine ROps.s rfl rfl rfl ?_
  refine ROps.s rfl rfl rfl ?_
  refine ROps.s rfl rfl rfl ?_
  refine zL (r := b false) rfl rfl rfl (LOp.pick_false rfl rfl rfl) ?_
  refine zM (r := b false) rfl rfl rfl rfl rfl ?_
  refine zM (r := i64 a0) rfl rfl rfl rfl rfl ?_
  refine zM (r := i64 a1) rfl rfl rfl rfl rfl ?_
  refine zL (r := b (decide (a0 < a1))) rfl rfl rfl (LOp.lss rfl rfl rfl) ?_
  refine zL (r := b (decide (a0 < a1))) rfl rfl rfl (LOp.pick_false rfl rfl rfl) ?_
  refine zA (r := b (decide (a0 < a1))) rfl rfl rfl rfl rfl ?_
  refine zN ?_
  refine RunC.ret ?_
  have hq := Option.some.inj h
  subst q0
  exact bodyQ.pure (.inr rfl) rfl (Res.one rfl (RV.tmp rfl))
noncomputable def x_slices_insertionSortOrdered_int64_0o_b2 (a0 : Int) (L5 : List Int) (v7 : Int) : Option (LR ((List Int) × Int) ((List Int)) ((List Int))) :=
 bsel (decide (a0 < v7)) (
  obind (at? L5 v7) fun (e8 : Int) =>
  olet (IntKind.i64.wrap (v7 - 1)) fun (x9 : Int) =>
  obind (at? L5 x9) fun (e10 : Int) =>
  obind (x_cmp_Less_int64 e8 e10) fun (r11 : Bool) =>
  bsel r11 (
   olet (IntKind.i64.wrap (v7 - 1)) fun (x12 : Int) =>
   olet (IntKind.i64.wrap (v7 - 1)) fun (x13 : Int) =>
   obind (at? L5 x13) fun (e14 : Int) =>
   obind (at? L5 v7) fun (e15 : Int) =>
   obind (setAt? L5 v7 e14) fun (L16 : List Int) =>
   obind (setAt? L16 x12 e15) fun (L17 : List Int) =>
   olet (IntKind.i64.wrap (v7 - 1)) fun (x18 : Int) =>
   some (LR.next (L17, x18))) (
   some (LR.out L5))) (
  some (LR.out L5))
noncomputable def x_slices_insertionSortOrdered_int64_0o_s2 (a0 : Int) : ((List Int) × Int) → Option (LR ((List Int) × Int) ((List Int)) ((List Int))) := fun s => x_slices_insertionSortOrdered_int64_0o_b2 a0 s.1 s.2
noncomputable def x_slices_insertionSortOrdered_int64_0o_k2 (v4 : Int) (L19 : List Int) : Option (LR ((List Int) × Int) ((List Int)) ((List Int))) :=
 olet (IntKind.i64.wrap (v4 + 1)) fun (x21 : Int) =>
 some (LR.next (L19, x21))
noncomputable def x_slices_insertionSortOrdered_int64_0o_b3 (a0 : Int) (a1 : Int) (L2 : List Int) (v4 : Int) : Option (LR ((List Int) × Int) ((List Int)) ((List Int))) :=
 bsel (decide (v4 < a1)) (
  obind (loopM (x_slices_insertionSortOrdered_int64_0o_s2 a0) (L2, v4)) fun z => osum z (fun e => x_slices_insertionSortOrdered_int64_0o_k2 v4 e) (fun r => some (LR.ret r))) (
  some (LR.out L2))
noncomputable def x_slices_insertionSortOrdered_int64_0o_s3 (a0 : Int) (a1 : Int) : ((List Int) × Int) → Option (LR ((List Int) × Int) ((List Int)) ((List Int))) := fun s => x_slices_insertionSortOrdered_int64_0o_b3 a0 a1 s.1 s.2
noncomputable def x_slices_insertionSortOrdered_int64_0o_k3 (L22 : List Int) : Option ((List Int)) :=
 some L22
noncomputable def x_slices_insertionSortOrdered_int64_0o (a0 : Int) (a1 : Int) (a2 : List Int) : Option ((List Int)) :=
 olet (IntKind.i64.wrap (a0 + 1)) fun (x1 : Int) =>
 obind (loopM (x_slices_insertionSortOrdered_int64_0o_s3 a0 a1) (a2, x1)) fun z => osum z (fun e => x_slices_insertionSortOrdered_int64_0o_k3 e) (fun r => some r)
theorem x_slices_insertionSortOrdered_int64_0o_ok (a0 : Int) (a1 : Int) (a2 : List Int) (q0 : List Int) (h : x_slices_insertionSortOrdered_int64_0o a0 a1 a2 = some q0) : Ev Tryz.prog 106 [oref 0 0 0 a2.length, i64 a0, i64 a1] [⟨0, some (a2.map i64)⟩] (tup []) [⟨0, some (q0.map i64)⟩] := by
 refine Ev.start Tryz.func106 rfl rfl 0 (τ := [(0, oref 0 0 0 a2.length), (1, i64 a0), (2, i64 a1)]) rfl (Γ' := [⟨0, some (a2.map i64)⟩]) rfl (n := 98) rfl (g := 1) rfl (by decide) ?_
 unfold x_slices_insertionSortOrdered_int64_0o at h
 refine RunC.seq ?_
 obtain ⟨x1, hx1, h⟩ := olet_some h
 refine RunC.regionW ?_
 refine zM (r := i64 a0) rfl rfl rfl rfl rfl ?_
 refine zL (r := i64 x1) rfl rfl rfl (LOp.eqr (LOp.add rfl rfl rfl) (congrArg (ik .i64) hx1)) ?_
 refine zA (r := i64 x1) rfl rfl rfl rfl rfl ?_
 refine zN ?_
 obtain ⟨z4, hz_4, h⟩ := obind_some h
 refine RunC.cutN (fun τ Γ => ∃ (L22 : List Int), L22.length = a2.length ∧ WeakLe τ [] ∧ DeadLe Γ [⟨0, some (L22.map i64)⟩] ∧ z4 = .inl L22) ?_ ?_
 ·refine RunC.block (RunC.loop (RunL.loopM (x := z4) (x_slices_insertionSortOrdered_int64_0o_s3 a0 a1) (fun (s : (List Int) × Int) τ Γ => s.1.length = a2.length ∧ WeakLe τ [(0, oref 0 0 0 a2.length), (1, i64 a0), (2, i64 a1), (6, i64 s.2)] ∧ DeadLe Γ [⟨0, some (s.1.map i64)⟩]) ?_ _ _ _ hz_4 ⟨rfl, ⟨aR, aR, aR, aR, trivial⟩, ⟨⟨rfl, .inr rfl⟩, trivial⟩⟩))
  rintro ⟨L2, v4⟩ τ4 Γ4 y4_ ⟨hl3, hw4, hd4⟩ h4_ ho4 hr4
  refine RunC.wl (τ' := [(0, oref 0 0 0 a2.length), (1, i64 a0), (2, i64 a1), (6, i64 v4)]) (Γ' := [⟨0, some (L2.map i64)⟩]) hw4 hd4 ?_
  replace hl3 : L2.length = a2.length := hl3
  replace h4_ : x_slices_insertionSortOrdered_int64_0o_b3 a0 a1 L2 v4 = some y4_ := h4_
  unfold x_slices_insertionSortOrdered_int64_0o_b3 at h4_
  refine RunC.seq ?_
  refine RunC.seq ?_
  rcases bsel_some h4_ with ⟨hc2, h4_⟩ | ⟨hc2, h4_⟩
  ·refine RunC.regionW ?_
   refine zM (r := i64 v4) rfl rfl rfl rfl rfl ?_
   refine zM (r := i64 a1) rfl rfl rfl rfl rfl ?_
   refine zL (r := b true) rfl rfl rfl (LOp.eqb (LOp.lss rfl rfl rfl) hc2) ?_
   refine zN ?_
   refine RunC.cond_true rfl rfl ?_
   refine RunC.skip ?_
   refine RunC.seq ?_
   refine RunC.block ?_
   refine zQ ?_
   refine zM (r := i64 v4) rfl rfl rfl rfl rfl ?_
   refine zA (r := i64 v4) rfl rfl rfl rfl rfl ?_
   refine zN ?_
   obtain ⟨z5, hz_5, h4_⟩ := obind_some h4_
   refine RunC.cutN (fun τ Γ => ∃ (L19 : List Int), L19.length = a2.length ∧ WeakLe τ [(0, oref 0 0 0 a2.length), (1, i64 a0), (2, i64 a1), (6, i64 v4)] ∧ DeadLe Γ [⟨0, some (L19.map i64)⟩] ∧ z5 = .inl L19) ?_ ?_
   ·refine RunC.block (RunC.loop (RunL.loopM (x := z5) (x_slices_insertionSortOrdered_int64_0o_s2 a0) (fun (s : (List Int) × Int) τ Γ => s.1.length = a2.length ∧ WeakLe τ [(0, oref 0 0 0 a2.length), (1, i64 a0), (2, i64 a1), (6, i64 v4), (7, i64 s.2)] ∧ DeadLe Γ [⟨0, some (s.1.map i64)⟩]) ?_ _ _ _ hz_5 ⟨hl3, ⟨aR, aR, aR, aR, aR, trivial⟩, ⟨⟨rfl, .inr rfl⟩, trivial⟩⟩))
    rintro ⟨L5, v7⟩ τ5 Γ5 y5_ ⟨hl6, hw5, hd5⟩ h5_ ho5 hr5
    refine RunC.wl (τ' := [(0, oref 0 0 0 a2.length), (1, i64 a0), (2, i64 a1), (6, i64 v4), (7, i64 v7)]) (Γ' := [⟨0, some (L5.map i64)⟩]) hw5 hd5 ?_
    replace hl6 : L5.length = a2.length := hl6
    replace h5_ : x_slices_insertionSortOrdered_int64_0o_b2 a0 L5 v7 = some y5_ := h5_
    unfold x_slices_insertionSortOrdered_int64_0o_b2 at h5_
    refine RunC.seq ?_
    refine RunC.seq ?_
    rcases bsel_some h5_ with ⟨hc3, h5_⟩ | ⟨hc3, h5_⟩
    ·obtain ⟨e8, he4, h5_⟩ := obind_some h5_
     obtain ⟨x9, hx5, h5_⟩ := olet_some h5_
     obtain ⟨e10, he6, h5_⟩ := obind_some h5_
     obtain ⟨r11, hf7, h5_⟩ := obind_some h5_
     rcases bsel_some h5_ with ⟨hc8, h5_⟩ | ⟨hc8, h5_⟩
     ·refine RunC.region_draw (Γ' := [⟨0, some (L5.map i64)⟩]) 15 mixed 
       (TR.l (r := i64 v7) rfl rfl (LOp.move rfl rfl) <|
       (TR.l (r := i64 a0) rfl rfl (LOp.move rfl rfl) <|
       (TR.l (r := b true) rfl rfl (LOp.eqb (LOp.gtr rfl rfl rfl) hc3) <|
       (TR.l (r := b true) rfl rfl (LOp.move rfl rfl) <|
       (TR.l (r := oref 0 0 0 a2.length) rfl rfl (LOp.move rfl rfl) <|
       (TR.l (r := i64 v7) rfl rfl (LOp.move rfl rfl) <|
       (TR.d (r := optr 0 0 v7.toNat) (fs := []) rfl rfl (TOp.ixo und53 siz2 rfl rfl rfl (at_in he4 hl6) rfl) <|
       (TR.d (r := i64 e8) (fs := []) rfl rfl (TOp.load1_o rfl (at_cell he4) agg2 rfl rfl) <|
       (TR.l (r := oref 0 0 0 a2.length) rfl rfl (LOp.move rfl rfl) <|
       (TR.l (r := i64 v7) rfl rfl (LOp.move rfl rfl) <|
       (TR.l (r := i64 x9) rfl rfl (LOp.eqr (LOp.sub rfl rfl rfl) (congrArg (ik .i64) hx5)) <|
       (TR.d (r := optr 0 0 x9.toNat) (fs := []) rfl rfl (TOp.ixo und53 siz2 rfl rfl rfl (at_in he6 hl6) rfl) <|
       (TR.d (r := i64 e10) (fs := []) rfl rfl (TOp.load1_o rfl (at_cell he6) agg2 rfl rfl) <|
       (TR.d (r := b true) (fs := []) rfl rfl (TOp.eqb (TOp.callB (CallAs.func ent112 rfl rfl) (Bors.cons (Bor.pure rfl) (Bors.cons (Bor.pure rfl) Bors.nil)) rfl rfl (x_cmp_Less_int64_ok e8 e10 r11 hf7)) hc8) <|
       (TR.l (r := b true) rfl rfl (LOp.pick_true rfl rfl rfl) <|
       TR.nil))))))))))))))) rfl (by kernel_rfl) rfl fills_nil rfl ?_
      iterate 15 refine ROps.dropS ?_
      refine ROps.drop0 ?_
      refine zN ?_
      refine RunC.cond_true rfl rfl ?_
      refine RunC.skip ?_
      refine RunC.seq ?_
      refine RunC.block ?_
      obtain ⟨x12, hx9, h5_⟩ := olet_some h5_
      obtain ⟨x13, hx10, h5_⟩ := olet_some h5_
      obtain ⟨e14, he11, h5_⟩ := obind_some h5_
      obtain ⟨e15, he12, h5_⟩ := obind_some h5_
      obtain ⟨L16, he13, h5_⟩ := obind_some h5_
      obtain ⟨L17, he14, h5_⟩ := obind_some h5_
      refine RunC.region_draw (Γ' := [⟨0, some (L5.map i64)⟩]) 15 mixed 
       (TR.l (r := oref 0 0 0 a2.length) rfl rfl (LOp.move rfl rfl) <|
       (TR.l (r := i64 v7) rfl rfl (LOp.move rfl rfl) <|
       (TR.loose (r := oref 0 0 0 a2.length) rfl rfl (LOp.move rfl rfl) <|
       (TR.loose (r := i64 v7) rfl rfl (LOp.move rfl rfl) <|
       (TR.loose (r := i64 x12) rfl rfl (LOp.eqr (LOp.sub rfl rfl rfl) (congrArg (ik .i64) hx9)) <|
       (TR.l (r := oref 0 0 0 a2.length) rfl rfl (LOp.move rfl rfl) <|
       (TR.l (r := i64 v7) rfl rfl (LOp.move rfl rfl) <|
       (TR.l (r := i64 x13) rfl rfl (LOp.eqr (LOp.sub rfl rfl rfl) (congrArg (ik .i64) hx10)) <|
       (TR.d (r := optr 0 0 x13.toNat) (fs := []) rfl rfl (TOp.ixo und53 siz2 rfl rfl rfl (at_in he11 hl6) rfl) <|
       (TR.d (r := i64 e14) (fs := []) rfl rfl (TOp.load1_o rfl (at_cell he11) agg2 rfl rfl) <|
       (TR.l (r := oref 0 0 0 a2.length) rfl rfl (LOp.move rfl rfl) <|
       (TR.l (r := i64 v7) rfl rfl (LOp.move rfl rfl) <|
       (TR.d (r := optr 0 0 v7.toNat) (fs := []) rfl rfl (TOp.ixo und53 siz2 rfl rfl rfl (at_in he12 hl6) rfl) <|
       (TR.d (r := i64 e15) (fs := []) rfl rfl (TOp.load1_o rfl (at_cell he12) agg2 rfl rfl) <|
       (TR.d (r := optr 0 0 v7.toNat) (fs := []) rfl rfl (TOp.ixo und53 siz2 rfl rfl rfl (set_in he13 hl6) rfl) <|
       TR.nil))))))))))))))) rfl (by kernel_rfl) rfl fills_nil rfl ?_
      iterate 15 refine ROps.dropS ?_
      refine ROps.drop0 ?_
      refine ROps.st (f := i64) (i := v7) (Γ' := [⟨0, some (L16.map i64)⟩]) rfl siz2 rfl rfl rfl aR rfl rfl rfl he13 rfl ?_
      refine ROps.d (r := optr 0 0 x12.toNat) (fs := []) (Γ' := [⟨0, some (L16.map i64)⟩]) rfl rfl rfl (TOp.ixo und53 siz2 rfl rfl rfl (set_in he14 ((setAt?_len he13).trans hl6)) rfl) rfl ?_
      refine ROps.st (f := i64) (i := x12) (Γ' := [⟨0, some (L17.map i64)⟩]) rfl siz2 rfl rfl rfl aR rfl rfl rfl he14 rfl ?_
      refine zN ?_
      refine RunC.wl (τ' := [(0, oref 0 0 0 a2.length), (1, i64 a0), (2, i64 a1), (6, i64 v4), (7, i64 v7), (20, oref 0 0 0 a2.length), (21, i64 v7), (22, optr 0 0 v7.toNat), (23, i64 e8), (24, oref 0 0 0 a2.length), (25, i64 v7), (26, i64 x9), (27, optr 0 0 x9.toNat), (28, i64 e10), (29, b true)]) (Γ' := [⟨0, some (L17.map i64)⟩]) ⟨aR, aR, aR, aR, aR, aR, aR, aR, aR, aR, aR, aR, aR, aR, aR, trivial⟩ ⟨⟨rfl, .inr rfl⟩, trivial⟩ ?_
      obtain ⟨x18, hx15, h5_⟩ := olet_some h5_
      refine RunC.regionW ?_
      refine zM (r := i64 v7) rfl rfl rfl rfl rfl ?_
      refine zL (r := i64 x18) rfl rfl rfl (LOp.eqr (LOp.sub rfl rfl rfl) (congrArg (ik .i64) hx15)) ?_
      refine zA (r := i64 x18) rfl rfl rfl rfl rfl ?_
      refine zN ?_
      cases Option.some.inj h5_
      exact ⟨_, rfl, ((setAt?_len he14).trans ((setAt?_len he13).trans hl6)), ⟨aR, aR, aR, aR, aR, trivial⟩, ⟨⟨rfl, .inr rfl⟩, trivial⟩⟩
     ·refine RunC.region_draw (Γ' := [⟨0, some (L5.map i64)⟩]) 15 mixed 
       (TR.l (r := i64 v7) rfl rfl (LOp.move rfl rfl) <|
       (TR.l (r := i64 a0) rfl rfl (LOp.move rfl rfl) <|
       (TR.l (r := b true) rfl rfl (LOp.eqb (LOp.gtr rfl rfl rfl) hc3) <|
       (TR.l (r := b true) rfl rfl (LOp.move rfl rfl) <|
       (TR.l (r := oref 0 0 0 a2.length) rfl rfl (LOp.move rfl rfl) <|
       (TR.l (r := i64 v7) rfl rfl (LOp.move rfl rfl) <|
       (TR.d (r := optr 0 0 v7.toNat) (fs := []) rfl rfl (TOp.ixo und53 siz2 rfl rfl rfl (at_in he4 hl6) rfl) <|
       (TR.d (r := i64 e8) (fs := []) rfl rfl (TOp.load1_o rfl (at_cell he4) agg2 rfl rfl) <|
       (TR.l (r := oref 0 0 0 a2.length) rfl rfl (LOp.move rfl rfl) <|
       (TR.l (r := i64 v7) rfl rfl (LOp.move rfl rfl) <|
       (TR.l (r := i64 x9) rfl rfl (LOp.eqr (LOp.sub rfl rfl rfl) (congrArg (ik .i64) hx5)) <|
       (TR.d (r := optr 0 0 x9.toNat) (fs := []) rfl rfl (TOp.ixo und53 siz2 rfl rfl rfl (at_in he6 hl6) rfl) <|
       (TR.d (r := i64 e10) (fs := []) rfl rfl (TOp.load1_o rfl (at_cell he6) agg2 rfl rfl) <|
       (TR.d (r := b false) (fs := []) rfl rfl (TOp.eqb (TOp.callB (CallAs.func ent112 rfl rfl) (Bors.cons (Bor.pure rfl) (Bors.cons (Bor.pure rfl) Bors.nil)) rfl rfl (x_cmp_Less_int64_ok e8 e10 r11 hf7)) hc8) <|
       (TR.l (r := b false) rfl rfl (LOp.pick_true rfl rfl rfl) <|
       TR.nil))))))))))))))) rfl (by kernel_rfl) rfl fills_nil rfl ?_
      iterate 15 refine ROps.dropS ?_
      refine ROps.drop0 ?_
      refine zN ?_
      refine RunC.cond_false rfl rfl ?_
      refine RunC.exit ?_
      cases Option.some.inj h5_
      have hx := ho5 _ rfl
      exact ⟨L5, hl6, ⟨aR, aR, aR, aR, trivial⟩, ⟨⟨rfl, .inr rfl⟩, trivial⟩, hx⟩
    ·refine RunC.region_draw (Γ' := [⟨0, some (L5.map i64)⟩]) 15 mixed 
      (TR.l (r := i64 v7) rfl rfl (LOp.move rfl rfl) <|
      (TR.l (r := i64 a0) rfl rfl (LOp.move rfl rfl) <|
      (TR.l (r := b false) rfl rfl (LOp.eqb (LOp.gtr rfl rfl rfl) hc3) <|
      (TR.l (r := b false) rfl rfl (LOp.move rfl rfl) <|
      (TR.s rfl rfl <|
      (TR.s rfl rfl <|
      (TR.s rfl rfl <|
      (TR.s rfl rfl <|
      (TR.s rfl rfl <|
      (TR.s rfl rfl <|
      (TR.s rfl rfl <|
      (TR.s rfl rfl <|
      (TR.s rfl rfl <|
      (TR.s rfl rfl <|
      (TR.l (r := b false) rfl rfl (LOp.pick_false rfl rfl rfl) <|
      TR.nil))))))))))))))) rfl (by kernel_rfl) rfl fills_nil rfl ?_
     iterate 15 refine ROps.dropS ?_
     refine ROps.drop0 ?_
     refine zN ?_
     refine RunC.cond_false rfl rfl ?_
     refine RunC.exit ?_
     cases Option.some.inj h5_
     have hx := ho5 _ rfl
     exact ⟨L5, hl6, ⟨aR, aR, aR, aR, trivial⟩, ⟨⟨rfl, .inr rfl⟩, trivial⟩, hx⟩
   ·rintro τ6 Γ6 ⟨L19, hl20, hw6, hd6, rfl⟩
    refine RunC.wl hw6 hd6 ?_
    replace h4_ : x_slices_insertionSortOrdered_int64_0o_k2 v4 L19 = some y4_ := h4_
    unfold x_slices_insertionSortOrdered_int64_0o_k2 at h4_
    obtain ⟨x21, hx16, h4_⟩ := olet_some h4_
    refine RunC.regionW ?_
    refine zM (r := i64 v4) rfl rfl rfl rfl rfl ?_
    refine zL (r := i64 x21) rfl rfl rfl (LOp.eqr (LOp.add rfl rfl rfl) (congrArg (ik .i64) hx16)) ?_
    refine zA (r := i64 x21) rfl rfl rfl rfl rfl ?_
    refine zN ?_
    cases Option.some.inj h4_
    exact ⟨_, rfl, hl20, ⟨aR, aR, aR, aR, trivial⟩, ⟨⟨rfl, .inr rfl⟩, trivial⟩⟩
  ·refine RunC.regionW ?_
   refine zM (r := i64 v4) rfl rfl rfl rfl rfl ?_
   refine zM (r := i64 a1) rfl rfl rfl rfl rfl ?_
   refine zL (r := b false) rfl rfl rfl (LOp.eqb (LOp.lss rfl rfl rfl) hc2) ?_
   refine zN ?_
   refine RunC.cond_false rfl rfl ?_
   refine RunC.exit ?_
   cases Option.some.inj h4_
   have hx := ho4 _ rfl
   exact ⟨L2, hl3, trivial, ⟨⟨rfl, .inr rfl⟩, trivial⟩, hx⟩
 ·rintro τ7 Γ7 ⟨L22, hl23, hw7, hd7, rfl⟩
  replace h : x_slices_insertionSortOrdered_int64_0o_k3 L22 = some q0 := h
  unfold x_slices_insertionSortOrdered_int64_0o_k3 at h
  refine bodyQ.wl hw7 hd7 ?_
  have hq := Option.some.inj h
  subst q0
  exact bodyQ.mk (r' := tup []) [(0, 0)] (.inl rfl) rfl (show List.Nodup [0] from by decide) rfl rfl (Res.zero rfl) (SelL.arr (f := i64) (fun _ => rfl) rfl trivial)
noncomputable def x_slices_pdqsortOrdered_int64_0o_b1 (a0 : Int) (a1 : Int) (a2 : Int) (a3 : List Int) : Option (LR (Unit) (Unit) ((List Int))) :=
 olet (IntKind.i64.wrap (a1 - a0)) fun (x1 : Int) =>
 bsel (decide (x1 ≤ 12)) (
  obind (x_slices_insertionSortOrdered_int64_0o a0 a1 a3) fun (r2 : List Int) =>
  need (decide (r2.length = a3.length)) <|
  some (LR.ret r2)) (
  bsel (decide (a2 = 0)) (
   none) (
   none))
noncomputable def x_slices_pdqsortOrdered_int64_0o_s1 (a0 : Int) (a1 : Int) (a2 : Int) (a3 : List Int) : (Unit) → Option (LR (Unit) (Unit) ((List Int))) := fun s => x_slices_pdqsortOrdered_int64_0o_b1 a0 a1 a2 a3
noncomputable def x_slices_pdqsortOrdered_int64_0o (a0 : Int) (a1 : Int) (a2 : Int) (a3 : List Int) : Option ((List Int)) :=
 obind (loopM (x_slices_pdqsortOrdered_int64_0o_s1 a0 a1 a2 a3) ()) fun z => osum z (fun _ => none) (fun r => some r)
theorem x_slices_pdqsortOrdered_int64_0o_ok (a0 : Int) (a1 : Int) (a2 : Int) (a3 : List Int) (q0 : List Int) (h : x_slices_pdqsortOrdered_int64_0o a0 a1 a2 a3 = some q0) : Ev Tryz.prog 68 [oref 0 0 0 a3.length, i64 a0, i64 a1, i64 a2] [⟨0, some (a3.map i64)⟩] (tup []) [⟨0, some (q0.map i64)⟩] := by
 refine Ev.start Tryz.func68 rfl rfl 0 (τ := [(0, oref 0 0 0 a3.length), (1, i64 a0), (2, i64 a1), (3, i64 a2)]) rfl (Γ' := [⟨0, some (a3.map i64)⟩]) rfl (n := 268) rfl (g := 1) rfl (by decide) ?_
 unfold x_slices_pdqsortOrdered_int64_0o at h
 refine zQ ?_
 refine zA (r := b true) rfl rfl rfl rfl rfl ?_
 refine zN ?_
 refine zQ ?_
 refine zA (r := b true) rfl rfl rfl rfl rfl ?_
 refine zN ?_
 obtain ⟨z2, hz_2, h⟩ := obind_some h
 refine RunC.block (RunC.loop (RunL.loopM (x := z2) (x_slices_pdqsortOrdered_int64_0o_s1 a0 a1 a2 a3) (fun (s : Unit) τ Γ => WeakLe τ [(0, oref 0 0 0 a3.length), (1, i64 a0), (2, i64 a1), (3, i64 a2), (8, b true), (9, b true)] ∧ DeadLe Γ [⟨0, some (a3.map i64)⟩]) ?_ _ _ _ hz_2 ⟨⟨aR, aR, aR, aR, aR, aR, trivial⟩, ⟨⟨rfl, .inr rfl⟩, trivial⟩⟩))
 rintro ⟨⟩ τ2 Γ2 y2_ ⟨hw2, hd2⟩ h2_ ho2 hr2
 refine RunC.wl (τ' := [(0, oref 0 0 0 a3.length), (1, i64 a0), (2, i64 a1), (3, i64 a2), (8, b true), (9, b true)]) (Γ' := [⟨0, some (a3.map i64)⟩]) hw2 hd2 ?_
 replace h2_ : x_slices_pdqsortOrdered_int64_0o_b1 a0 a1 a2 a3 = some y2_ := h2_
 unfold x_slices_pdqsortOrdered_int64_0o_b1 at h2_
 refine RunC.block ?_
 refine RunC.seq ?_
 obtain ⟨x1, hx1, h2_⟩ := olet_some h2_
 refine RunC.regionW ?_
 refine zM (r := i64 a1) rfl rfl rfl rfl rfl ?_
 refine zM (r := i64 a0) rfl rfl rfl rfl rfl ?_
 refine zL (r := i64 x1) rfl rfl rfl (LOp.eqr (LOp.sub rfl rfl rfl) (congrArg (ik .i64) hx1)) ?_
 refine zA (r := i64 x1) rfl rfl rfl rfl rfl ?_
 refine zN ?_
 refine RunC.seq ?_
 refine RunC.seq ?_
 rcases bsel_some h2_ with ⟨hc2, h2_⟩ | ⟨hc2, h2_⟩
 ·refine RunC.regionW ?_
  refine zM (r := i64 x1) rfl rfl rfl rfl rfl ?_
  refine zL (r := b true) rfl rfl rfl (LOp.eqb (LOp.leq rfl rfl rfl) hc2) ?_
  refine zN ?_
  refine RunC.cond_true rfl rfl ?_
  refine RunC.seq ?_
  obtain ⟨r2, hf3, h2_⟩ := obind_some h2_
  obtain ⟨hn4, h2_⟩ := need_some h2_
  refine RunC.regionW ?_
  refine zM (r := oref 0 0 0 a3.length) rfl rfl rfl rfl rfl ?_
  refine zM (r := i64 a0) rfl rfl rfl rfl rfl ?_
  refine zM (r := i64 a1) rfl rfl rfl rfl rfl ?_
  refine ROps.callO (A := [oref 0 0 0 a3.length, i64 a0, i64 a1]) (args := [oref 0 0 0 a3.length, i64 a0, i64 a1]) (Γc := [⟨0, some (a3.map i64)⟩]) (Γc' := [⟨0, some (r2.map i64)⟩]) (r' := tup []) (Γ' := [⟨0, some (r2.map i64)⟩]) [(0, 0)] [] rfl (CallAs.func ent106 rfl rfl) rfl rfl (SelOk.of (show List.Nodup [0] from by decide) (SelL.arr0 (f := i64) (fun _ => rfl) rfl trivial)) (live_of ⟨⟨_, _, rfl⟩, trivial⟩) (by simp [ren, rens, sigma, rens_f32, rens_f64, rens_i64, rens_ik, rens_str, rens_cp]) rfl (x_slices_insertionSortOrdered_int64_0o_ok a0 a1 a3 r2 hf3) rfl (news_of trivial) (show List.Nodup [0] from by decide) (by simp [ren, rens, sigma, of_decide_eq_true hn4]) (by simp [backOb, sigma, ren, rens, rens_f32, rens_f64, rens_i64, rens_ik, rens_str, rens_cp]) ?_
  refine zN ?_
  refine RunC.ret ?_
  cases Option.some.inj h2_
  have hx3_ := hr2 _ rfl
  subst hx3_
  have hq := Option.some.inj h
  subst q0
  exact bodyQ.mk (r' := tup []) [(0, 0)] (.inr rfl) rfl (show List.Nodup [0] from by decide) rfl rfl (Res.zero rfl) (SelL.arr (f := i64) (fun _ => rfl) rfl trivial)
 ·refine RunC.regionW ?_
  refine zM (r := i64 x1) rfl rfl rfl rfl rfl ?_
  refine zL (r := b false) rfl rfl rfl (LOp.eqb (LOp.leq rfl rfl rfl) hc2) ?_
  refine zN ?_
  refine RunC.cond_false rfl rfl ?_
  refine RunC.skip ?_
  refine RunC.seq ?_
  refine RunC.seq ?_
  rcases bsel_some h2_ with ⟨hc5, h2_⟩ | ⟨hc5, h2_⟩
  ·refine RunC.regionW ?_
   refine zM (r := i64 a2) rfl rfl rfl rfl rfl ?_
   refine zL (r := b true) rfl rfl rfl (LOp.eqb (LOp.eql rfl rfl rfl) hc5) ?_
   refine zN ?_
   refine RunC.cond_true rfl rfl ?_
   refine RunC.seq ?_
   cases h2_
  ·refine RunC.regionW ?_
   refine zM (r := i64 a2) rfl rfl rfl rfl rfl ?_
   refine zL (r := b false) rfl rfl rfl (LOp.eqb (LOp.eql rfl rfl rfl) hc5) ?_
   refine zN ?_
   refine RunC.cond_false rfl rfl ?_
   refine RunC.skip ?_
   refine RunC.seq ?_
   refine zQ ?_
   refine zM (r := b true) rfl rfl rfl rfl rfl ?_
   refine zL (r := b false) rfl rfl rfl (LOp.eqb (LOp.not rfl rfl) rfl) ?_
   refine zN ?_
   refine RunC.cond_false rfl rfl ?_
   refine RunC.skip ?_
   refine RunC.seq ?_
   cases h2_
noncomputable def x_slices_Sort_int64_int64_0o (a0 : List Int) : Option ((List Int)) :=
 olet (IntKind.u64.wrap ((a0.length : Nat) : Int)) fun (x1 : Int) =>
 obind (x_math_bits_Len x1) fun (r2 : Int) =>
 obind (x_slices_pdqsortOrdered_int64_0o 0 ((a0.length : Nat) : Int) r2 a0) fun (r3 : List Int) =>
 need (decide (r3.length = a0.length)) <|
 some r3
theorem x_slices_Sort_int64_int64_0o_ok (a0 : List Int) (q0 : List Int) (h : x_slices_Sort_int64_int64_0o a0 = some q0) : Ev Tryz.prog 31 [oref 0 0 0 a0.length] [⟨0, some (a0.map i64)⟩] (tup []) [⟨0, some (q0.map i64)⟩] := by
 refine Ev.start Tryz.func31 rfl rfl 0 (τ := [(0, oref 0 0 0 a0.length)]) rfl (Γ' := [⟨0, some (a0.map i64)⟩]) rfl (n := 22) rfl (g := 1) rfl (by decide) ?_
 unfold x_slices_Sort_int64_int64_0o at h
 refine zQ ?_
 refine zM (r := oref 0 0 0 a0.length) rfl rfl rfl rfl rfl ?_
 refine zL (r := i64 ((a0.length : Nat) : Int)) rfl rfl rfl (LOp.len_oref und53 rfl rfl) ?_
 refine zA (r := i64 ((a0.length : Nat) : Int)) rfl rfl rfl rfl rfl ?_
 refine zN ?_
 obtain ⟨x1, hx1, h⟩ := olet_some h
 obtain ⟨r2, hf2, h⟩ := obind_some h
 obtain ⟨r3, hf3, h⟩ := obind_some h
 obtain ⟨hn4, h⟩ := need_some h
 refine RunC.regionW ?_
 refine zM (r := oref 0 0 0 a0.length) rfl rfl rfl rfl rfl ?_
 refine zM (r := i64 ((a0.length : Nat) : Int)) rfl rfl rfl rfl rfl ?_
 refine zM (r := i64 ((a0.length : Nat) : Int)) rfl rfl rfl rfl rfl ?_
 refine zL (r := ik .u64 x1) rfl rfl rfl (LOp.eqr (LOp.i2i (src := 3) (dst := 89) ⟨_, pun3⟩ pun89 rfl rfl) (congrArg (ik .u64) hx1)) ?_
 refine ROps.d (r := i64 r2) (fs := []) (Γ' := [⟨0, some (a0.map i64)⟩]) rfl rfl rfl (TOp.callB (CallAs.func ent69 rfl rfl) (Bors.cons (Bor.pure rfl) Bors.nil) rfl rfl (x_math_bits_Len_ok x1 r2 hf2)) rfl ?_
 refine ROps.callO (A := [oref 0 0 0 a0.length, i64 0, i64 ((a0.length : Nat) : Int), i64 r2]) (args := [oref 0 0 0 a0.length, i64 0, i64 ((a0.length : Nat) : Int), i64 r2]) (Γc := [⟨0, some (a0.map i64)⟩]) (Γc' := [⟨0, some (r3.map i64)⟩]) (r' := tup []) (Γ' := [⟨0, some (r3.map i64)⟩]) [(0, 0)] [] rfl (CallAs.func ent68 rfl rfl) rfl rfl (SelOk.of (show List.Nodup [0] from by decide) (SelL.arr0 (f := i64) (fun _ => rfl) rfl trivial)) (live_of ⟨⟨_, _, rfl⟩, trivial⟩) (by simp [ren, rens, sigma, rens_f32, rens_f64, rens_i64, rens_ik, rens_str, rens_cp]) rfl (x_slices_pdqsortOrdered_int64_0o_ok 0 ((a0.length : Nat) : Int) r2 a0 r3 hf3) rfl (news_of trivial) (show List.Nodup [0] from by decide) (by simp [ren, rens, sigma, of_decide_eq_true hn4]) (by simp [backOb, sigma, ren, rens, rens_f32, rens_f64, rens_i64, rens_ik, rens_str, rens_cp]) ?_
 refine zN ?_
 have hq := Option.some.inj h
 subst q0
 exact bodyQ.mk (r' := tup []) [(0, 0)] (.inl rfl) rfl (show List.Nodup [0] from by decide) rfl rfl (Res.zero rfl) (SelL.arr (f := i64) (fun _ => rfl) rfl trivial)
noncomputable def i_LowMatrix_2_b1 (a0 : Int) (a1 : Int) (a2 : List Int) (a3 : Int) (a4 : Int) (a5 : List F) (a6 : Int) (a7 : Int) (a8 : List F) (y1 : F) (v2 : Int) : Option (LR (F × Int) (F) (F)) :=
 bsel (decide (v2 < (a2.length : Int))) (
  obind (at? a2 v2) fun (e3 : Int) =>
  obind (i_Matrix_at a3 a4 a5 a0 e3) fun (r4 : F) =>
  obind (i_Matrix_at a6 a7 a8 a1 e3) fun (r5 : F) =>
  obind (i_mul r4 r5) fun (r6 : F) =>
  olet (fop .add .f32 y1 r6) fun (x7 : F) =>
  olet (IntKind.i64.wrap (v2 + 1)) fun (x8 : Int) =>
  some (LR.next (x7, x8))) (
  some (LR.out y1))
noncomputable def i_LowMatrix_2_s1 (a0 : Int) (a1 : Int) (a2 : List Int) (a3 : Int) (a4 : Int) (a5 : List F) (a6 : Int) (a7 : Int) (a8 : List F) : (F × Int) → Option (LR (F × Int) (F) (F)) := fun s => i_LowMatrix_2_b1 a0 a1 a2 a3 a4 a5 a6 a7 a8 s.1 s.2
noncomputable def i_LowMatrix_2_k1 (y9 : F) : Option (F) :=
 some y9
noncomputable def i_LowMatrix_2 (a0 : Int) (a1 : Int) (a2 : List Int) (a3 : Int) (a4 : Int) (a5 : List F) (a6 : Int) (a7 : Int) (a8 : List F) : Option (F) :=
 obind (loopM (i_LowMatrix_2_s1 a0 a1 a2 a3 a4 a5 a6 a7 a8) (some 0, 0)) fun z => osum z (fun e => i_LowMatrix_2_k1 e) (fun r => some r)
theorem i_LowMatrix_2_ok (a0 : Int) (a1 : Int) (a2 : List Int) (a3 : Int) (a4 : Int) (a5 : List F) (a6 : Int) (a7 : Int) (a8 : List F) (q0 : F) (h : i_LowMatrix_2 a0 a1 a2 a3 a4 a5 a6 a7 a8 = some q0) : Ev Tryz.prog 33 [i64 a0, i64 a1, ptr [sl a2.length (a2.map i64)], ptr [i64 a3, i64 a4, sl a5.length (a5.map f32)], ptr [i64 a6, i64 a7, sl a8.length (a8.map f32)]] [] (f32 q0) [] := by
 refine Ev.start Tryz.func33 rfl rfl 0 (τ := [(0, i64 a0), (1, i64 a1), (2, ptr [sl a2.length (a2.map i64)]), (3, ptr [i64 a3, i64 a4, sl a5.length (a5.map f32)]), (4, ptr [i64 a6, i64 a7, sl a8.length (a8.map f32)])]) rfl (Γ' := []) rfl (n := 61) rfl (g := 0) rfl (fun _ => rfl) ?_
 unfold i_LowMatrix_2 at h
 refine zQ ?_
 refine zL (r := f32 (some 0)) rfl rfl rfl (LOp.le (LOp.assign rfl rfl) (ALe.fl (by kernel_rfl) (by kernel_rfl))) ?_
 refine zN ?_
 refine zQ ?_
 refine zL (r := f32 (some 0)) rfl rfl rfl (LOp.le (LOp.assign rfl rfl) (ALe.fl (by kernel_rfl) (by kernel_rfl))) ?_
 refine zN ?_
 refine RunC.seq ?_
 refine zQ ?_
 refine zL (r := sl a2.length (a2.map i64)) rfl rfl rfl (LOp.load1 agg53 rfl rfl) ?_
 refine zL (r := i64 (a2.length : Int)) rfl rfl rfl (LOp.len_sl und53 rfl rfl) ?_
 refine zM (r := i64 0) rfl rfl rfl rfl rfl ?_
 refine zN ?_
 obtain ⟨z2, hz_2, h⟩ := obind_some h
 refine RunC.cutN (fun τ Γ => ∃ (y9 : F), WeakLe τ [(8, f32 y9)] ∧ DeadLe Γ [] ∧ z2 = .inl y9) ?_ ?_
 ·refine RunC.block (RunC.loop (RunL.loopM (x := z2) (i_LowMatrix_2_s1 a0 a1 a2 a3 a4 a5 a6 a7 a8) (fun (s : F × Int) τ Γ => WeakLe τ [(0, i64 a0), (1, i64 a1), (3, ptr [i64 a3, i64 a4, sl a5.length (a5.map f32)]), (4, ptr [i64 a6, i64 a7, sl a8.length (a8.map f32)]), (8, f32 s.1), (11, sl a2.length (a2.map i64)), (12, i64 (a2.length : Int)), (13, i64 s.2)] ∧ DeadLe Γ []) ?_ _ _ _ hz_2 ⟨⟨aR, aR, aR, aR, aR, aR, aR, aR, trivial⟩, trivial⟩))
  rintro ⟨y1, v2⟩ τ2 Γ2 y2_ ⟨hw2, hd2⟩ h2_ ho2 hr2
  refine RunC.wl (τ' := [(0, i64 a0), (1, i64 a1), (3, ptr [i64 a3, i64 a4, sl a5.length (a5.map f32)]), (4, ptr [i64 a6, i64 a7, sl a8.length (a8.map f32)]), (8, f32 y1), (11, sl a2.length (a2.map i64)), (12, i64 (a2.length : Int)), (13, i64 v2)]) (Γ' := []) hw2 hd2 ?_
  replace h2_ : i_LowMatrix_2_b1 a0 a1 a2 a3 a4 a5 a6 a7 a8 y1 v2 = some y2_ := h2_
  unfold i_LowMatrix_2_b1 at h2_
  refine RunC.seq ?_
  rcases bsel_some h2_ with ⟨hc1, h2_⟩ | ⟨hc1, h2_⟩
  ·refine RunC.regionW ?_
   refine zL (r := b true) rfl rfl rfl (LOp.eqb (LOp.lss rfl rfl rfl) hc1) ?_
   refine zN ?_
   refine RunC.seq ?_
   refine RunC.cond_true rfl rfl ?_
   refine RunC.skip ?_
   refine RunC.seq ?_
   refine RunC.block ?_
   refine RunC.seq ?_
   obtain ⟨e3, he2, h2_⟩ := obind_some h2_
   refine RunC.regionW ?_
   refine zL (r := ptr [i64 e3]) rfl rfl rfl (LOp.le (LOp.ix (f := i64) und53 siz2 rfl rfl rfl rfl he2) ALe.ptr) ?_
   refine zL (r := i64 e3) rfl rfl rfl (LOp.load1 agg2 rfl rfl) ?_
   refine zA (r := i64 e3) rfl rfl rfl rfl rfl ?_
   refine zN ?_
   obtain ⟨r4, hf3, h2_⟩ := obind_some h2_
   obtain ⟨r5, hf4, h2_⟩ := obind_some h2_
   obtain ⟨r6, hf5, h2_⟩ := obind_some h2_
   obtain ⟨x7, hx6, h2_⟩ := olet_some h2_
   refine RunC.region_draw (Γ' := []) 12 mixed 
    (TR.l (r := f32 y1) rfl rfl (LOp.move rfl rfl) <|
    (TR.l (r := agg [i64 a3, i64 a4, sl a5.length (a5.map f32)]) rfl rfl (LOp.loadAgg agg26 siz26 rfl rfl rfl rfl) <|
    (TR.l (r := i64 a0) rfl rfl (LOp.move rfl rfl) <|
    (TR.l (r := i64 e3) rfl rfl (LOp.move rfl rfl) <|
    (TR.d (r := f32 r4) (fs := []) rfl rfl (TOp.callB (CallAs.func ent35 rfl rfl) (Bors.cons (Bor.agg (Bors.cons (Bor.pure rfl) (Bors.cons (Bor.pure rfl) (Bors.cons (Bor.sl (fun _ => rfl)) Bors.nil)))) (Bors.cons (Bor.pure rfl) (Bors.cons (Bor.pure rfl) Bors.nil))) rfl rfl (i_Matrix_at_ok a3 a4 a5 a0 e3 r4 hf3)) <|
    (TR.l (r := agg [i64 a6, i64 a7, sl a8.length (a8.map f32)]) rfl rfl (LOp.loadAgg agg26 siz26 rfl rfl rfl rfl) <|
    (TR.l (r := i64 a1) rfl rfl (LOp.move rfl rfl) <|
    (TR.l (r := i64 e3) rfl rfl (LOp.move rfl rfl) <|
    (TR.d (r := f32 r5) (fs := []) rfl rfl (TOp.callB (CallAs.func ent35 rfl rfl) (Bors.cons (Bor.agg (Bors.cons (Bor.pure rfl) (Bors.cons (Bor.pure rfl) (Bors.cons (Bor.sl (fun _ => rfl)) Bors.nil)))) (Bors.cons (Bor.pure rfl) (Bors.cons (Bor.pure rfl) Bors.nil))) rfl rfl (i_Matrix_at_ok a6 a7 a8 a1 e3 r5 hf4)) <|
    (TR.d (r := f32 r6) (fs := []) rfl rfl (TOp.callB (CallAs.func ent34 rfl rfl) (Bors.cons (Bor.pure rfl) (Bors.cons (Bor.pure rfl) Bors.nil)) rfl rfl (i_mul_ok r4 r5 r6 hf5)) <|
    (TR.d (r := f32 x7) (fs := []) rfl rfl (TOp.eqr (TOp.fop (.inl rfl) rfl (OpF.tmp rfl) (OpF.tmp rfl)) (congrArg (f .f32) hx6)) <|
    (TR.l (r := f32 x7) rfl rfl (LOp.assign rfl rfl) <|
    TR.nil)))))))))))) rfl (by kernel_rfl) rfl fills_nil rfl ?_
   iterate 12 refine ROps.dropS ?_
   refine ROps.drop0 ?_
   refine zN ?_
   refine RunC.wl (τ' := [(0, i64 a0), (1, i64 a1), (3, ptr [i64 a3, i64 a4, sl a5.length (a5.map f32)]), (4, ptr [i64 a6, i64 a7, sl a8.length (a8.map f32)]), (8, f32 x7), (11, sl a2.length (a2.map i64)), (12, i64 (a2.length : Int)), (13, i64 v2)]) (Γ' := []) ⟨aR, aR, aR, aR, aR, aR, aR, aR, trivial⟩ trivial ?_
   obtain ⟨x8, hx7, h2_⟩ := olet_some h2_
   refine RunC.regionW ?_
   refine zL (r := i64 x8) rfl rfl rfl (LOp.eqr (LOp.add rfl rfl rfl) (congrArg (ik .i64) hx7)) ?_
   refine zM (r := i64 x8) rfl rfl rfl rfl rfl ?_
   refine zN ?_
   cases Option.some.inj h2_
   exact ⟨_, rfl, ⟨aR, aR, aR, aR, aR, aR, aR, aR, trivial⟩, trivial⟩
  ·refine RunC.regionW ?_
   refine zL (r := b false) rfl rfl rfl (LOp.eqb (LOp.lss rfl rfl rfl) hc1) ?_
   refine zN ?_
   refine RunC.seq ?_
   refine RunC.cond_false rfl rfl ?_
   refine RunC.exit ?_
   cases Option.some.inj h2_
   have hx := ho2 _ rfl
   exact ⟨y1, ⟨aR, trivial⟩, trivial, hx⟩
 ·rintro τ3 Γ3 ⟨y9, hw3, hd3, rfl⟩
  refine RunC.wl hw3 hd3 ?_
  replace h : i_LowMatrix_2_k1 y9 = some q0 := h
  unfold i_LowMatrix_2_k1 at h
  refine zQ ?_
  refine zM (r := f32 y9) rfl rfl rfl rfl rfl ?_
  refine zA (r := f32 y9) rfl rfl rfl rfl rfl ?_
  refine zN ?_
  refine RunC.ret ?_
  have hq := Option.some.inj h
  subst q0
  exact bodyQ.pure (.inr rfl) rfl (Res.one rfl (RV.tmp rfl))
noncomputable def i_made_2Fi_LowMatrix_2_b2 (a1 : Int) (a2 : List Int) (a3 : Int) (a4 : Int) (a5 : List F) (a6 : Int) (a7 : Int) (a8 : List F) (r1 : Int) (r2 : Int) (r3 : List F) (v6 : Int) (L7 : List F) (v9 : Int) : Option (LR ((List F) × Int) ((List F)) (Int × Int × (List F))) :=
 bsel (decide (v9 < a1)) (
  obind (i_LowMatrix_2 v6 v9 a2 a3 a4 a5 a6 a7 a8) fun (r11 : F) =>
  obind (i_Matrix_set_02o r1 r2 v6 v9 r11 L7) fun (r12 : List F) =>
  need (decide (r12.length = r3.length)) <|
  olet (IntKind.i64.wrap (v9 + 1)) fun (x13 : Int) =>
  some (LR.next (r12, x13))) (
  some (LR.out L7))
noncomputable def i_made_2Fi_LowMatrix_2_s2 (a1 : Int) (a2 : List Int) (a3 : Int) (a4 : Int) (a5 : List F) (a6 : Int) (a7 : Int) (a8 : List F) (r1 : Int) (r2 : Int) (r3 : List F) (v6 : Int) : ((List F) × Int) → Option (LR ((List F) × Int) ((List F)) (Int × Int × (List F))) := fun s => i_made_2Fi_LowMatrix_2_b2 a1 a2 a3 a4 a5 a6 a7 a8 r1 r2 r3 v6 s.1 s.2
noncomputable def i_made_2Fi_LowMatrix_2_k2 (v6 : Int) (L14 : List F) : Option (LR ((List F) × Int) ((List F)) (Int × Int × (List F))) :=
 olet (IntKind.i64.wrap (v6 + 1)) fun (x16 : Int) =>
 some (LR.next (L14, x16))
noncomputable def i_made_2Fi_LowMatrix_2_b3 (a0 : Int) (a1 : Int) (a2 : List Int) (a3 : Int) (a4 : Int) (a5 : List F) (a6 : Int) (a7 : Int) (a8 : List F) (r1 : Int) (r2 : Int) (r3 : List F) (L4 : List F) (v6 : Int) : Option (LR ((List F) × Int) ((List F)) (Int × Int × (List F))) :=
 bsel (decide (v6 < a0)) (
  obind (loopM (i_made_2Fi_LowMatrix_2_s2 a1 a2 a3 a4 a5 a6 a7 a8 r1 r2 r3 v6) (L4, 0)) fun z => osum z (fun e => i_made_2Fi_LowMatrix_2_k2 v6 e) (fun r => some (LR.ret r))) (
  some (LR.out L4))
noncomputable def i_made_2Fi_LowMatrix_2_s3 (a0 : Int) (a1 : Int) (a2 : List Int) (a3 : Int) (a4 : Int) (a5 : List F) (a6 : Int) (a7 : Int) (a8 : List F) (r1 : Int) (r2 : Int) (r3 : List F) : ((List F) × Int) → Option (LR ((List F) × Int) ((List F)) (Int × Int × (List F))) := fun s => i_made_2Fi_LowMatrix_2_b3 a0 a1 a2 a3 a4 a5 a6 a7 a8 r1 r2 r3 s.1 s.2
noncomputable def i_made_2Fi_LowMatrix_2_k3 (r1 : Int) (r2 : Int) (L17 : List F) : Option (Int × Int × (List F)) :=
 some (r1, r2, L17)
noncomputable def i_made_2Fi_LowMatrix_2 (a0 : Int) (a1 : Int) (a2 : List Int) (a3 : Int) (a4 : Int) (a5 : List F) (a6 : Int) (a7 : Int) (a8 : List F) : Option (Int × Int × (List F)) :=
 obind3 (i_newMatrix a0 a1) fun (r1 : Int) (r2 : Int) (r3 : List F) =>
 obind (loopM (i_made_2Fi_LowMatrix_2_s3 a0 a1 a2 a3 a4 a5 a6 a7 a8 r1 r2 r3) (r3, 0)) fun z => osum z (fun e => i_made_2Fi_LowMatrix_2_k3 r1 r2 e) (fun r => some r)
theorem i_made_2Fi_LowMatrix_2_ok (a0 : Int) (a1 : Int) (a2 : List Int) (a3 : Int) (a4 : Int) (a5 : List F) (a6 : Int) (a7 : Int) (a8 : List F) (q0 : Int) (q1 : Int) (q2 : List F) (h : i_made_2Fi_LowMatrix_2 a0 a1 a2 a3 a4 a5 a6 a7 a8 = some (q0, q1, q2)) : Ev Tryz.prog 32 [i64 a0, i64 a1, fn (.func 33) [] [ptr [sl a2.length (a2.map i64)], ptr [i64 a3, i64 a4, sl a5.length (a5.map f32)], ptr [i64 a6, i64 a7, sl a8.length (a8.map f32)]]] [] (agg [i64 q0, i64 q1, oref 0 0 0 q2.length]) [⟨0, some (q2.map f32)⟩] := by
 refine Ev.start Tryz.func32 rfl rfl 3 (τ := [(0, i64 a0), (1, i64 a1), (2, fn (.func 33) [] [ptr [sl a2.length (a2.map i64)], ptr [i64 a3, i64 a4, sl a5.length (a5.map f32)], ptr [i64 a6, i64 a7, sl a8.length (a8.map f32)]])]) rfl (Γ' := [⟨0, none⟩, ⟨0, none⟩, ⟨0, none⟩]) rfl (n := 65) rfl (g := 0) rfl (fun _ => rfl) ?_
 unfold i_made_2Fi_LowMatrix_2 at h
 refine zQ ?_
 refine ROps.d (r := optr 0 1 0) (fs := [(0, [i64 0, i64 0, nilsl])]) (Γ' := [⟨1, some [i64 0, i64 0, nilsl]⟩, ⟨0, none⟩, ⟨0, none⟩]) rfl rfl rfl (TOp.alloc_o (g := ⟨0, none⟩) 0 rfl zer26 zok26 rfl) rfl ?_
 refine zN ?_
 refine RunC.seq ?_
 obtain ⟨r1, r2, r3, hf1, h⟩ := obind3_some h
 refine RunC.regionW ?_
 refine zM (r := i64 a0) rfl rfl rfl rfl rfl ?_
 refine zM (r := i64 a1) rfl rfl rfl rfl rfl ?_
 refine ROps.d (r := agg [i64 r1, i64 r2, oref 1 1 0 r3.length]) (fs := [(1, (r3.map f32))]) (Γ' := [⟨1, some [i64 0, i64 0, nilsl]⟩, ⟨1, some (r3.map f32)⟩, ⟨0, none⟩]) rfl rfl rfl (TOp.callBN (ls := [(r3.map f32)]) [1] (CallAs.func ent70 rfl rfl) (Bors.cons (Bor.pure rfl) (Bors.cons (Bor.pure rfl) Bors.nil)) rfl (i_newMatrix_ok a0 a1 r1 r2 r3 hf1) (and_all (lts0_map (f := f32) (fun _ => rfl) _) rfl) (and_all (noss_map (f := f32) (fun _ => rfl) _) rfl) rfl (by decide) (ns_of ⟨⟨_, rfl⟩, trivial⟩)) rfl ?_
 refine ROps.d (r := optr 2 1 0) (fs := [(2, [i64 0, i64 0, nilsl])]) (Γ' := [⟨1, some [i64 0, i64 0, nilsl]⟩, ⟨1, some (r3.map f32)⟩, ⟨1, some [i64 0, i64 0, nilsl]⟩]) rfl rfl rfl (TOp.alloc_o (g := ⟨0, none⟩) 2 rfl zer26 zok26 rfl) rfl ?_
 refine ROps.store_le (r := agg [i64 r1, i64 r2, oref 1 1 0 r3.length]) (l' := [i64 r1, i64 r2, oref 1 1 0 r3.length]) (Γ' := [⟨1, some [i64 0, i64 0, nilsl]⟩, ⟨1, some (r3.map f32)⟩, ⟨1, some [i64 r1, i64 r2, oref 1 1 0 r3.length]⟩]) rfl siz26 rfl rfl rfl aR rfl rfl rfl rfl (Nat.le_of_ble_eq_true rfl) rfl rfl ?_
 refine zN ?_
 refine RunC.seq ?_
 refine zQ ?_
 refine zM (r := i64 a0) rfl rfl rfl rfl rfl ?_
 refine zM (r := i64 0) rfl rfl rfl rfl rfl ?_
 refine zN ?_
 obtain ⟨z4, hz_4, h⟩ := obind_some h
 refine RunC.cutN (fun τ Γ => ∃ (L17 : List F), L17.length = r3.length ∧ WeakLe τ [(6, optr 0 1 0), (7, optr 2 1 0)] ∧ DeadLe Γ [⟨1, some [i64 0, i64 0, nilsl]⟩, ⟨1, some (L17.map f32)⟩, ⟨1, some [i64 r1, i64 r2, oref 1 1 0 r3.length]⟩] ∧ z4 = .inl L17) ?_ ?_
 ·refine RunC.block (RunC.loop (RunL.loopM (x := z4) (i_made_2Fi_LowMatrix_2_s3 a0 a1 a2 a3 a4 a5 a6 a7 a8 r1 r2 r3) (fun (s : (List F) × Int) τ Γ => s.1.length = r3.length ∧ WeakLe τ [(1, i64 a1), (2, fn (.func 33) [] [ptr [sl a2.length (a2.map i64)], ptr [i64 a3, i64 a4, sl a5.length (a5.map f32)], ptr [i64 a6, i64 a7, sl a8.length (a8.map f32)]]), (6, optr 0 1 0), (7, optr 2 1 0), (13, i64 a0), (14, i64 s.2)] ∧ DeadLe Γ [⟨1, some [i64 0, i64 0, nilsl]⟩, ⟨1, some (s.1.map f32)⟩, ⟨1, some [i64 r1, i64 r2, oref 1 1 0 r3.length]⟩]) ?_ _ _ _ hz_4 ⟨rfl, ⟨aR, aR, aR, aR, aR, aR, trivial⟩, ⟨⟨rfl, .inr rfl⟩, ⟨rfl, .inr rfl⟩, ⟨rfl, .inr rfl⟩, trivial⟩⟩))
  rintro ⟨L4, v6⟩ τ4 Γ4 y4_ ⟨hl5, hw4, hd4⟩ h4_ ho4 hr4
  refine RunC.wl (τ' := [(1, i64 a1), (2, fn (.func 33) [] [ptr [sl a2.length (a2.map i64)], ptr [i64 a3, i64 a4, sl a5.length (a5.map f32)], ptr [i64 a6, i64 a7, sl a8.length (a8.map f32)]]), (6, optr 0 1 0), (7, optr 2 1 0), (13, i64 a0), (14, i64 v6)]) (Γ' := [⟨1, some [i64 0, i64 0, nilsl]⟩, ⟨1, some (L4.map f32)⟩, ⟨1, some [i64 r1, i64 r2, oref 1 1 0 r3.length]⟩]) hw4 hd4 ?_
  replace hl5 : L4.length = r3.length := hl5
  replace h4_ : i_made_2Fi_LowMatrix_2_b3 a0 a1 a2 a3 a4 a5 a6 a7 a8 r1 r2 r3 L4 v6 = some y4_ := h4_
  unfold i_made_2Fi_LowMatrix_2_b3 at h4_
  refine RunC.seq ?_
  rcases bsel_some h4_ with ⟨hc2, h4_⟩ | ⟨hc2, h4_⟩
  ·refine RunC.regionW ?_
   refine zL (r := b true) rfl rfl rfl (LOp.eqb (LOp.lss rfl rfl rfl) hc2) ?_
   refine zN ?_
   refine RunC.seq ?_
   refine RunC.cond_true rfl rfl ?_
   refine RunC.skip ?_
   refine RunC.seq ?_
   refine RunC.block ?_
   refine zQ ?_
   refine zM (r := i64 v6) rfl rfl rfl rfl rfl ?_
   refine zA (r := i64 v6) rfl rfl rfl rfl rfl ?_
   refine zN ?_
   refine zQ ?_
   refine zM (r := i64 a1) rfl rfl rfl rfl rfl ?_
   refine zM (r := i64 0) rfl rfl rfl rfl rfl ?_
   refine zN ?_
   obtain ⟨z5, hz_5, h4_⟩ := obind_some h4_
   refine RunC.cutN (fun τ Γ => ∃ (L14 : List F), L14.length = r3.length ∧ WeakLe τ [(1, i64 a1), (2, fn (.func 33) [] [ptr [sl a2.length (a2.map i64)], ptr [i64 a3, i64 a4, sl a5.length (a5.map f32)], ptr [i64 a6, i64 a7, sl a8.length (a8.map f32)]]), (6, optr 0 1 0), (7, optr 2 1 0), (13, i64 a0), (14, i64 v6)] ∧ DeadLe Γ [⟨1, some [i64 0, i64 0, nilsl]⟩, ⟨1, some (L14.map f32)⟩, ⟨1, some [i64 r1, i64 r2, oref 1 1 0 r3.length]⟩] ∧ z5 = .inl L14) ?_ ?_
   ·refine RunC.block (RunC.loop (RunL.loopM (x := z5) (i_made_2Fi_LowMatrix_2_s2 a1 a2 a3 a4 a5 a6 a7 a8 r1 r2 r3 v6) (fun (s : (List F) × Int) τ Γ => s.1.length = r3.length ∧ WeakLe τ [(1, i64 a1), (2, fn (.func 33) [] [ptr [sl a2.length (a2.map i64)], ptr [i64 a3, i64 a4, sl a5.length (a5.map f32)], ptr [i64 a6, i64 a7, sl a8.length (a8.map f32)]]), (6, optr 0 1 0), (7, optr 2 1 0), (8, i64 v6), (13, i64 a0), (14, i64 v6), (17, i64 a1), (18, i64 s.2)] ∧ DeadLe Γ [⟨1, some [i64 0, i64 0, nilsl]⟩, ⟨1, some (s.1.map f32)⟩, ⟨1, some [i64 r1, i64 r2, oref 1 1 0 r3.length]⟩]) ?_ _ _ _ hz_5 ⟨hl5, ⟨aR, aR, aR, aR, aR, aR, aR, aR, aR, trivial⟩, ⟨⟨rfl, .inr rfl⟩, ⟨rfl, .inr rfl⟩, ⟨rfl, .inr rfl⟩, trivial⟩⟩))
    rintro ⟨L7, v9⟩ τ5 Γ5 y5_ ⟨hl8, hw5, hd5⟩ h5_ ho5 hr5
    refine RunC.wl (τ' := [(1, i64 a1), (2, fn (.func 33) [] [ptr [sl a2.length (a2.map i64)], ptr [i64 a3, i64 a4, sl a5.length (a5.map f32)], ptr [i64 a6, i64 a7, sl a8.length (a8.map f32)]]), (6, optr 0 1 0), (7, optr 2 1 0), (8, i64 v6), (13, i64 a0), (14, i64 v6), (17, i64 a1), (18, i64 v9)]) (Γ' := [⟨1, some [i64 0, i64 0, nilsl]⟩, ⟨1, some (L7.map f32)⟩, ⟨1, some [i64 r1, i64 r2, oref 1 1 0 r3.length]⟩]) hw5 hd5 ?_
    replace hl8 : L7.length = r3.length := hl8
    replace h5_ : i_made_2Fi_LowMatrix_2_b2 a1 a2 a3 a4 a5 a6 a7 a8 r1 r2 r3 v6 L7 v9 = some y5_ := h5_
    unfold i_made_2Fi_LowMatrix_2_b2 at h5_
    refine RunC.seq ?_
    rcases bsel_some h5_ with ⟨hc3, h5_⟩ | ⟨hc3, h5_⟩
    ·refine RunC.regionW ?_
     refine zL (r := b true) rfl rfl rfl (LOp.eqb (LOp.lss rfl rfl rfl) hc3) ?_
     refine zN ?_
     refine RunC.seq ?_
     refine RunC.cond_true rfl rfl ?_
     refine RunC.skip ?_
     refine RunC.seq ?_
     refine RunC.block ?_
     refine zQ ?_
     refine zM (r := i64 v9) rfl rfl rfl rfl rfl ?_
     refine zA (r := i64 v9) rfl rfl rfl rfl rfl ?_
     refine zN ?_
     obtain ⟨r11, hf5, h5_⟩ := obind_some h5_
     obtain ⟨r12, hf6, h5_⟩ := obind_some h5_
     obtain ⟨hn7, h5_⟩ := need_some h5_
     refine RunC.region_draw (Γ' := [⟨1, some [i64 0, i64 0, nilsl]⟩, ⟨1, some (L7.map f32)⟩, ⟨1, some [i64 r1, i64 r2, oref 1 1 0 r3.length]⟩]) 7 mixed 
      (TR.d (r := agg [i64 r1, i64 r2, oref 1 1 0 r3.length]) (fs := []) rfl rfl (TOp.loadAgg_o rfl agg26 siz26 rfl rfl rfl rfl) <|
      (TR.l (r := i64 v6) rfl rfl (LOp.move rfl rfl) <|
      (TR.l (r := i64 v9) rfl rfl (LOp.move rfl rfl) <|
      (TR.l (r := fn (.func 33) [] [ptr [sl a2.length (a2.map i64)], ptr [i64 a3, i64 a4, sl a5.length (a5.map f32)], ptr [i64 a6, i64 a7, sl a8.length (a8.map f32)]]) rfl rfl (LOp.move rfl rfl) <|
      (TR.l (r := i64 v6) rfl rfl (LOp.move rfl rfl) <|
      (TR.l (r := i64 v9) rfl rfl (LOp.move rfl rfl) <|
      (TR.d (r := f32 r11) (fs := []) rfl rfl (TOp.callB (CallAs.fn ent33 rfl rfl rfl rfl) (Bors.cons (Bor.pure rfl) (Bors.cons (Bor.pure rfl) (Bors.cons (Bor.ptr (Bors.cons (Bor.sl (fun _ => rfl)) Bors.nil)) (Bors.cons (Bor.ptr (Bors.cons (Bor.pure rfl) (Bors.cons (Bor.pure rfl) (Bors.cons (Bor.sl (fun _ => rfl)) Bors.nil)))) (Bors.cons (Bor.ptr (Bors.cons (Bor.pure rfl) (Bors.cons (Bor.pure rfl) (Bors.cons (Bor.sl (fun _ => rfl)) Bors.nil)))) Bors.nil))))) rfl rfl (i_LowMatrix_2_ok v6 v9 a2 a3 a4 a5 a6 a7 a8 r11 hf5)) <|
      TR.nil))))))) rfl (by kernel_rfl) rfl fills_nil rfl ?_
     iterate 7 refine ROps.dropS ?_
     refine ROps.drop0 ?_
     refine ROps.callO (A := [agg [i64 r1, i64 r2, oref 1 1 0 r3.length], i64 v6, i64 v9, f32 r11]) (args := [agg [i64 r1, i64 r2, oref 0 0 0 L7.length], i64 v6, i64 v9, f32 r11]) (Γc := [⟨0, some (L7.map f32)⟩]) (Γc' := [⟨0, some (r12.map f32)⟩]) (r' := tup []) (Γ' := [⟨1, some [i64 0, i64 0, nilsl]⟩, ⟨1, some (r12.map f32)⟩, ⟨1, some [i64 r1, i64 r2, oref 1 1 0 r3.length]⟩]) [(1, 1)] [] rfl (CallAs.func ent71 rfl rfl) rfl rfl (SelOk.of (show List.Nodup [1] from by decide) (SelL.arr0 (f := f32) (fun _ => rfl) rfl trivial)) (live_of ⟨⟨_, _, rfl⟩, trivial⟩) (by simp [ren, rens, sigma, rens_f32, rens_f64, rens_i64, rens_ik, rens_str, rens_cp, hl8]) rfl (i_Matrix_set_02o_ok r1 r2 v6 v9 r11 L7 r12 hf6) rfl (news_of trivial) (show List.Nodup [1] from by decide) (by simp [ren, rens, sigma, of_decide_eq_true hn7]) (by simp [backOb, sigma, ren, rens, rens_f32, rens_f64, rens_i64, rens_ik, rens_str, rens_cp]) ?_
     refine zN ?_
     obtain ⟨x13, hx8, h5_⟩ := olet_some h5_
     refine RunC.regionW ?_
     refine zL (r := i64 x13) rfl rfl rfl (LOp.eqr (LOp.add rfl rfl rfl) (congrArg (ik .i64) hx8)) ?_
     refine zM (r := i64 x13) rfl rfl rfl rfl rfl ?_
     refine zN ?_
     cases Option.some.inj h5_
     exact ⟨_, rfl, (of_decide_eq_true hn7), ⟨aR, aR, aR, aR, aR, aR, aR, aR, aR, trivial⟩, ⟨⟨rfl, .inr rfl⟩, ⟨rfl, .inr rfl⟩, ⟨rfl, .inr rfl⟩, trivial⟩⟩
    ·refine RunC.regionW ?_
     refine zL (r := b false) rfl rfl rfl (LOp.eqb (LOp.lss rfl rfl rfl) hc3) ?_
     refine zN ?_
     refine RunC.seq ?_
     refine RunC.cond_false rfl rfl ?_
     refine RunC.exit ?_
     cases Option.some.inj h5_
     have hx := ho5 _ rfl
     exact ⟨L7, hl8, ⟨aR, aR, aR, aR, aR, aR, trivial⟩, ⟨⟨rfl, .inr rfl⟩, ⟨rfl, .inr rfl⟩, ⟨rfl, .inr rfl⟩, trivial⟩, hx⟩
   ·rintro τ6 Γ6 ⟨L14, hl15, hw6, hd6, rfl⟩
    refine RunC.wl hw6 hd6 ?_
    replace h4_ : i_made_2Fi_LowMatrix_2_k2 v6 L14 = some y4_ := h4_
    unfold i_made_2Fi_LowMatrix_2_k2 at h4_
    obtain ⟨x16, hx9, h4_⟩ := olet_some h4_
    refine RunC.regionW ?_
    refine zL (r := i64 x16) rfl rfl rfl (LOp.eqr (LOp.add rfl rfl rfl) (congrArg (ik .i64) hx9)) ?_
    refine zM (r := i64 x16) rfl rfl rfl rfl rfl ?_
    refine zN ?_
    cases Option.some.inj h4_
    exact ⟨_, rfl, hl15, ⟨aR, aR, aR, aR, aR, aR, trivial⟩, ⟨⟨rfl, .inr rfl⟩, ⟨rfl, .inr rfl⟩, ⟨rfl, .inr rfl⟩, trivial⟩⟩
  ·refine RunC.regionW ?_
   refine zL (r := b false) rfl rfl rfl (LOp.eqb (LOp.lss rfl rfl rfl) hc2) ?_
   refine zN ?_
   refine RunC.seq ?_
   refine RunC.cond_false rfl rfl ?_
   refine RunC.exit ?_
   cases Option.some.inj h4_
   have hx := ho4 _ rfl
   exact ⟨L4, hl5, ⟨aR, aR, trivial⟩, ⟨⟨rfl, .inr rfl⟩, ⟨rfl, .inr rfl⟩, ⟨rfl, .inr rfl⟩, trivial⟩, hx⟩
 ·rintro τ7 Γ7 ⟨L17, hl18, hw7, hd7, rfl⟩
  refine RunC.wl hw7 hd7 ?_
  replace h : i_made_2Fi_LowMatrix_2_k3 r1 r2 L17 = some (q0, q1, q2) := h
  unfold i_made_2Fi_LowMatrix_2_k3 at h
  refine zQ ?_
  refine ROps.d (r := agg [i64 r1, i64 r2, oref 1 1 0 r3.length]) (fs := []) (Γ' := [⟨1, some [i64 0, i64 0, nilsl]⟩, ⟨1, some (L17.map f32)⟩, ⟨1, some [i64 r1, i64 r2, oref 1 1 0 r3.length]⟩]) rfl rfl rfl (TOp.loadAgg_o rfl agg26 siz26 rfl rfl rfl rfl) rfl ?_
  refine ROps.store_le (r := agg [i64 r1, i64 r2, oref 1 1 0 r3.length]) (l' := [i64 r1, i64 r2, oref 1 1 0 r3.length]) (Γ' := [⟨1, some [i64 r1, i64 r2, oref 1 1 0 r3.length]⟩, ⟨1, some (L17.map f32)⟩, ⟨1, some [i64 r1, i64 r2, oref 1 1 0 r3.length]⟩]) rfl siz26 rfl rfl rfl aR rfl rfl rfl rfl (Nat.le_of_ble_eq_true rfl) rfl rfl ?_
  refine zN ?_
  refine RunC.ret ?_
  have hq := Option.some.inj h
  obtain ⟨hq0, hq⟩ := Prod.mk.inj hq
  obtain ⟨hq1, hq⟩ := Prod.mk.inj hq
  subst q0
  subst q1
  subst q2
  exact bodyQ.mk (r' := agg [i64 r1, i64 r2, oref 1 1 0 L17.length]) [(1, 1)] (.inr rfl) rfl (show List.Nodup [1] from by decide) rfl rfl (Res.eq (Res.one rfl (RV.cell agg26 siz26 rfl rfl rfl rfl)) (by rw [(show L17.length = r3.length from hl18)] <;> rfl)) (SelL.arr0 (f := f32) (fun _ => rfl) rfl trivial)
end Go.Proofs.YtcoookgeialmnaaGreat
