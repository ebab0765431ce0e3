/- Generated. -/
import Derived.Test.YtjbifkimffmhpaaG0
namespace Go.Proofs.Ytjbifkimffmhpaa
open Go Go.AM
set_option maxRecDepth 20000
set_option maxHeartbeats 4000000
set_option linter.unusedVariables false
set_option linter.unusedSimpArgs false
noncomputable def i_CrossOf_k6 (v23 : Int) (v30 : Int) (v31 : Int) : Option (LR (Int × Int × Int) (Int × Int) (Int × Int × Bool × (List F) × (List Int) × (List Int))) :=
  olet (IntKind.i64.wrap (v23 + 1)) fun (x34 : Int) =>
  some (LR.next (v30, v31, x34))
noncomputable def i_CrossOf_b7 (r4 : Int) (r5 : Int) (r6 : List F) (L14 : List F) (v21 : Int) (v22 : Int) (v23 : Int) : Option (LR (Int × Int × Int) (Int × Int) (Int × Int × Bool × (List F) × (List Int) × (List Int))) :=
  bsel (decide (v23 < ((r6.length : Nat) : Int))) (
    obind (at? L14 v23) fun (e24 : F) =>
    obind (i_absolute e24) fun (r25 : F) =>
    obind (i_Matrix_at r4 r5 L14 v21 v22) fun (r26 : F) =>
    obind (i_absolute r26) fun (r27 : F) =>
    bsel (flt .f32 r27 r25) (
      need (!decide (r5 = 0)) <|
      olet (IntKind.i64.wrap (v23.tdiv r5)) fun (x28 : Int) =>
      need (!decide (r5 = 0)) <|
      olet (v23.tmod r5) fun (x29 : Int) =>
      i_CrossOf_k6 v23 x28 x29) (
      i_CrossOf_k6 v23 v21 v22)) (
    some (LR.out (v21, v22)))
noncomputable def i_CrossOf_s7 (r4 : Int) (r5 : Int) (r6 : List F) (L14 : List F) : (Int × Int × Int) → Option (LR (Int × Int × Int) (Int × Int) (Int × Int × Bool × (List F) × (List Int) × (List Int))) := fun s => i_CrossOf_b7 r4 r5 r6 L14 s.1 s.2.1 s.2.2
noncomputable def i_CrossOf_b8 (r5 : Int) (r6 : List F) (r39 : F) (r41 : List F) (r42 : List F) (L43 : List F) (L45 : List F) (v47 : Int) : Option (LR ((List F) × (List F) × Int) ((List F) × (List F)) (Int × Int × Bool × (List F) × (List Int) × (List Int))) :=
  bsel (decide (v47 < ((r6.length : Nat) : Int))) (
    need (!decide (r5 = 0)) <|
    olet (IntKind.i64.wrap (v47.tdiv r5)) fun (x48 : Int) =>
    obind (at? r42 x48) fun (e49 : F) =>
    olet (fop .quo .f32 e49 r39) fun (x50 : F) =>
    need (!decide (r5 = 0)) <|
    olet (v47.tmod r5) fun (x51 : Int) =>
    obind (at? r41 x51) fun (e52 : F) =>
    obind (i_mul x50 e52) fun (r53 : F) =>
    obind (at? L45 v47) fun (e54 : F) =>
    olet (fop .add .f32 e54 r53) fun (x55 : F) =>
    obind (setAt? L45 v47 x55) fun (L56 : List F) =>
    obind (at? L43 v47) fun (e57 : F) =>
    olet (fop .sub .f32 e57 r53) fun (x58 : F) =>
    obind (setAt? L43 v47 x58) fun (L59 : List F) =>
    olet (IntKind.i64.wrap (v47 + 1)) fun (x60 : Int) =>
    some (LR.next (L59, L56, x60))) (
    some (LR.out (L43, L45)))
noncomputable def i_CrossOf_s8 (r5 : Int) (r6 : List F) (r39 : F) (r41 : List F) (r42 : List F) : ((List F) × (List F) × Int) → Option (LR ((List F) × (List F) × Int) ((List F) × (List F)) (Int × Int × Bool × (List F) × (List Int) × (List Int))) := fun s => i_CrossOf_b8 r5 r6 r39 r41 r42 s.1 s.2.1 s.2.2
noncomputable def i_CrossOf_k8 (r4 : Int) (r5 : Int) (r7 : Int) (r8 : Int) (L18 : List Int) (L19 : List Int) (v20 : Int) (v37 : Int) (v38 : Int) (L61 : List F) (L63 : List F) : Option (LR ((List F) × (List F) × (List Int) × (List Int) × Int) ((List F) × (List Int) × (List Int)) (Int × Int × Bool × (List F) × (List Int) × (List Int))) :=
  obind (i_ValidMatrix r7 r8 L63) fun (r65 : Bool) =>
  bsel r65 (
    obind (i_ValidMatrix r4 r5 L61) fun (r66 : Bool) =>
    bsel r66 (
      need (apok 8 L18.length 1) <|
      need (apok 8 L19.length 1) <|
      olet (IntKind.i64.wrap (v20 + 1)) fun (x67 : Int) =>
      some (LR.next (L61, L63, (L18 ++ ([v37] : List Int)), (L19 ++ ([v38] : List Int)), x67))) (
      some (LR.ret (0, 0, false, ([] : List F), ([] : List Int), ([] : List Int))))) (
    some (LR.ret (0, 0, false, ([] : List F), ([] : List Int), ([] : List Int))))
noncomputable def i_CrossOf_k7 (a3 : F) (r4 : Int) (r5 : Int) (r6 : List F) (r7 : Int) (r8 : Int) (L14 : List F) (L16 : List F) (L18 : List Int) (L19 : List Int) (v20 : Int) (v37 : Int) (v38 : Int) : Option (LR ((List F) × (List F) × (List Int) × (List Int) × Int) ((List F) × (List Int) × (List Int)) (Int × Int × Bool × (List F) × (List Int) × (List Int))) :=
  obind (i_Matrix_at r4 r5 L14 v37 v38) fun (r39 : F) =>
  obind (i_absolute r39) fun (r40 : F) =>
  bsel (fle .f32 r40 a3) (
    some (LR.out (L16, L18, L19))) (
    obind (i_Matrix_row r4 r5 L14 v37) fun (r41 : List F) =>
    obind (i_Matrix_column r4 r5 L14 v38) fun (r42 : List F) =>
    obind (loopM (i_CrossOf_s8 r5 r6 r39 r41 r42) (L14, L16, 0)) fun z => osum z (fun e => i_CrossOf_k8 r4 r5 r7 r8 L18 L19 v20 v37 v38 e.1 e.2) (fun r => some (LR.ret r)))
noncomputable def i_CrossOf_b9 (a3 : F) (a4 : Int) (r4 : Int) (r5 : Int) (r6 : List F) (r7 : Int) (r8 : Int) (L14 : List F) (L16 : List F) (L18 : List Int) (L19 : List Int) (v20 : Int) : Option (LR ((List F) × (List F) × (List Int) × (List Int) × Int) ((List F) × (List Int) × (List Int)) (Int × Int × Bool × (List F) × (List Int) × (List Int))) :=
  bsel (decide (v20 < a4)) (
    obind (loopM (i_CrossOf_s7 r4 r5 r6 L14) (0, 0, 0)) fun z => osum z (fun e => i_CrossOf_k7 a3 r4 r5 r6 r7 r8 L14 L16 L18 L19 v20 e.1 e.2) (fun r => some (LR.ret r))) (
    some (LR.out (L16, L18, L19)))
noncomputable def i_CrossOf_s9 (a3 : F) (a4 : Int) (r4 : Int) (r5 : Int) (r6 : List F) (r7 : Int) (r8 : Int) : ((List F) × (List F) × (List Int) × (List Int) × Int) → Option (LR ((List F) × (List F) × (List Int) × (List Int) × Int) ((List F) × (List Int) × (List Int)) (Int × Int × Bool × (List F) × (List Int) × (List Int))) := fun s => i_CrossOf_b9 a3 a4 r4 r5 r6 r7 r8 s.1 s.2.1 s.2.2.1 s.2.2.2.1 s.2.2.2.2
noncomputable def i_CrossOf_k9 (r7 : Int) (r8 : Int) (L72 : List F) (L74 : List Int) (L75 : List Int) : Option (Int × Int × Bool × (List F) × (List Int) × (List Int)) :=
  some (r7, r8, true, L72, L74, L75)
noncomputable def i_CrossOf (a0 : Int) (a1 : Int) (a2 : List F) (a3 : F) (a4 : Int) : Option (Int × Int × Bool × (List F) × (List Int) × (List Int)) :=
  obind (i_ValidMatrix a0 a1 a2) fun (r1 : Bool) =>
  bsel r1 (
    obind (i_IsFinite a3) fun (r2 : Bool) =>
    bsel r2 (
      bsel (flt .f32 a3 (some 0)) (
        some (0, 0, false, ([] : List F), ([] : List Int), ([] : List Int))) (
        obind (i_isSide a4) fun (r3 : Bool) =>
        bsel r3 (
          obind3 (i_Matrix_clone a0 a1 a2) fun (r4 : Int) (r5 : Int) (r6 : List F) =>
          obind3 (i_newMatrix a0 a1) fun (r7 : Int) (r8 : Int) (r9 : List F) =>
          obind (loopM (i_CrossOf_s9 a3 a4 r4 r5 r6 r7 r8) (r6, r9, ([] : List Int), ([] : List Int), 0)) fun z => osum z (fun e => i_CrossOf_k9 r7 r8 e.1 e.2.1 e.2.2) (fun r => some r)) (
          some (0, 0, false, ([] : List F), ([] : List Int), ([] : List Int))))) (
      some (0, 0, false, ([] : List F), ([] : List Int), ([] : List Int)))) (
    some (0, 0, false, ([] : List F), ([] : List Int), ([] : List Int)))
theorem i_CrossOf_ok (a0 : Int) (a1 : Int) (a2 : List F) (a3 : F) (a4 : Int) (q0 : Int) (q1 : Int) (q2 : Bool) (q3 : List F) (q4 : List Int) (q5 : List Int) (h : i_CrossOf a0 a1 a2 a3 a4 = some (q0, q1, q2, q3, q4, q5)) : Ev Try.prog 12 [AV.agg [AV.i64 a0, AV.i64 a1, AV.sl a2.length (a2.map AV.f32)], AV.f32 a3, AV.i64 a4] [] (AV.tup [AV.agg [AV.i64 q0, AV.i64 q1, AV.oref 0 0 0 q3.length], AV.oref 1 0 0 q4.length, AV.oref 2 0 0 q5.length, AV.b q2]) [⟨0, some (q3.map AV.f32)⟩, ⟨0, some (q4.map AV.i64)⟩, ⟨0, some (q5.map AV.i64)⟩] := by
  refine Ev.start Try.func12 rfl rfl 10 (τ := [(0, AV.agg [AV.i64 a0, AV.i64 a1, AV.sl a2.length (a2.map AV.f32)]), (1, AV.f32 a3), (2, AV.i64 a4)]) rfl (Γ' := [⟨0, none⟩, ⟨0, none⟩, ⟨0, none⟩, ⟨0, none⟩, ⟨0, none⟩, ⟨0, none⟩, ⟨0, none⟩, ⟨0, none⟩, ⟨0, none⟩, ⟨0, none⟩]) rfl (n := 153) rfl (g := 0) rfl ?_
  unfold i_CrossOf at h
  refine RunC.seq ?_
  refine RunC.regionW ?_
  refine ROps.d (r := AV.ptr [AV.i64 a0, AV.i64 a1, AV.sl a2.length (a2.map AV.f32)]) (fs := []) (Γ' := [⟨0, none⟩, ⟨0, none⟩, ⟨0, none⟩, ⟨0, none⟩, ⟨0, none⟩, ⟨0, none⟩, ⟨0, none⟩, ⟨0, none⟩, ⟨0, none⟩, ⟨0, none⟩]) rfl rfl rfl (TOp.box_s rfl rfl rfl) rfl ?_
  refine ROps.d (r := AV.optr 0 1 0) (fs := [(0, [AV.i64 0, AV.i64 0, AV.nilsl])]) (Γ' := [⟨1, some [AV.i64 0, AV.i64 0, AV.nilsl]⟩, ⟨0, none⟩, ⟨0, none⟩, ⟨0, none⟩, ⟨0, none⟩, ⟨0, none⟩, ⟨0, none⟩, ⟨0, none⟩, ⟨0, none⟩, ⟨0, none⟩]) rfl rfl rfl (TOp.alloc_o (g := ⟨0, none⟩) 0 rfl zer27 zok27 rfl) rfl ?_
  refine ROps.l (r := AV.nilsl) rfl rfl rfl (LOp.assign rfl rfl) ?_
  refine ROps.l (r := AV.nilsl) rfl rfl rfl (LOp.assign rfl rfl) ?_
  refine ROps.l (r := AV.b false) rfl rfl rfl (LOp.assign rfl rfl) ?_
  refine ROps.nil ?_
  refine RunC.seq ?_
  refine RunC.seq ?_
  obtain ⟨r1, hf1, h⟩ := obind_some h
  rcases bsel_some h with ⟨hc2, h⟩ | ⟨hc2, h⟩
  · obtain ⟨r2, hf3, h⟩ := obind_some h
    rcases bsel_some h with ⟨hc4, h⟩ | ⟨hc4, h⟩
    · rcases bsel_some h with ⟨hc5, h⟩ | ⟨hc5, h⟩
      · refine RunC.regionW ?_
        refine ROps.l (r := AV.agg [AV.i64 a0, AV.i64 a1, AV.sl a2.length (a2.map AV.f32)]) rfl rfl rfl (LOp.loadAgg agg27 siz27 rfl rfl rfl rfl) ?_
        refine ROps.d (r := AV.b true) (fs := []) (Γ' := [⟨1, some [AV.i64 0, AV.i64 0, AV.nilsl]⟩, ⟨0, none⟩, ⟨0, none⟩, ⟨0, none⟩, ⟨0, none⟩, ⟨0, none⟩, ⟨0, none⟩, ⟨0, none⟩, ⟨0, none⟩, ⟨0, none⟩]) rfl rfl rfl (TOp.eqb (TOp.callB (CallAs.func ent45 rfl rfl) (Bors.cons (Bor.agg (Bors.cons (Bor.pure rfl) (Bors.cons (Bor.pure rfl) (Bors.cons (Bor.sl (fun _ => rfl)) Bors.nil)))) Bors.nil) rfl rfl (i_ValidMatrix_ok a0 a1 a2 r1 hf1)) hc2) rfl ?_
        refine ROps.l (r := AV.b false) rfl rfl rfl (LOp.eqb (LOp.not rfl rfl) rfl) ?_
        refine ROps.l (r := AV.b false) rfl rfl rfl (LOp.move rfl rfl) ?_
        refine ROps.l (r := AV.f32 a3) rfl rfl rfl (LOp.move rfl rfl) ?_
        refine ROps.d (r := AV.b true) (fs := []) (Γ' := [⟨1, some [AV.i64 0, AV.i64 0, AV.nilsl]⟩, ⟨0, none⟩, ⟨0, none⟩, ⟨0, none⟩, ⟨0, none⟩, ⟨0, none⟩, ⟨0, none⟩, ⟨0, none⟩, ⟨0, none⟩, ⟨0, none⟩]) rfl rfl rfl (TOp.eqb (TOp.callB (CallAs.func ent46 rfl rfl) (Bors.cons (Bor.pure rfl) Bors.nil) rfl rfl (i_IsFinite_ok a3 r2 hf3)) hc4) rfl ?_
        refine ROps.l (r := AV.b false) rfl rfl rfl (LOp.eqb (LOp.not rfl rfl) rfl) ?_
        refine ROps.l (r := AV.b false) rfl rfl rfl (LOp.pick_false rfl rfl rfl) ?_
        refine ROps.l (r := AV.b false) rfl rfl rfl (LOp.move rfl rfl) ?_
        refine ROps.l (r := AV.f32 a3) rfl rfl rfl (LOp.move rfl rfl) ?_
        refine ROps.l (r := AV.b true) rfl rfl rfl (LOp.eqb (LOp.flt rfl (OpF.tmp rfl) (OpF.const rfl (by kernel_rfl) (by kernel_rfl))) hc5) ?_
        refine ROps.l (r := AV.b true) rfl rfl rfl (LOp.pick_false rfl rfl rfl) ?_
        refine ROps.l (r := AV.b true) rfl rfl rfl (LOp.move rfl rfl) ?_
        refine ROps.s rfl rfl rfl ?_
        refine ROps.s rfl rfl rfl ?_
        refine ROps.s rfl rfl rfl ?_
        refine ROps.l (r := AV.b true) rfl rfl rfl (LOp.pick_true rfl rfl rfl) ?_
        refine ROps.nil ?_
        refine RunC.wl (τ' := [(1, AV.f32 a3), (2, AV.i64 a4), (3, AV.ptr [AV.i64 a0, AV.i64 a1, AV.sl a2.length (a2.map AV.f32)]), (6, AV.optr 0 1 0), (39, AV.b true)]) (Γ' := [⟨1, some [AV.i64 0, AV.i64 0, AV.nilsl]⟩, ⟨0, none⟩, ⟨0, none⟩, ⟨0, none⟩, ⟨0, none⟩, ⟨0, none⟩, ⟨0, none⟩, ⟨0, none⟩, ⟨0, none⟩, ⟨0, none⟩]) ⟨(ALe.refl _), (ALe.refl _), (ALe.refl _), (ALe.refl _), (ALe.refl _), trivial⟩ ⟨⟨rfl, .inr rfl⟩, ⟨rfl, .inr rfl⟩, ⟨rfl, .inr rfl⟩, ⟨rfl, .inr rfl⟩, ⟨rfl, .inr rfl⟩, ⟨rfl, .inr rfl⟩, ⟨rfl, .inr rfl⟩, ⟨rfl, .inr rfl⟩, ⟨rfl, .inr rfl⟩, ⟨rfl, .inr rfl⟩, trivial⟩ ?_
        refine RunC.cond_true rfl rfl ?_
        refine RunC.seq ?_
        refine RunC.regionW ?_
        refine ROps.l (r := AV.agg [AV.i64 0, AV.i64 0, AV.nilsl]) rfl rfl rfl (LOp.build (qs := []) zer27 zok27 und27 plc27 rfl trivial rfl) ?_
        refine ROps.store_le (r := AV.agg [AV.i64 0, AV.i64 0, AV.nilsl]) (l' := [AV.i64 0, AV.i64 0, AV.nilsl]) (Γ' := [⟨1, some [AV.i64 0, AV.i64 0, AV.nilsl]⟩, ⟨0, none⟩, ⟨0, none⟩, ⟨0, none⟩, ⟨0, none⟩, ⟨0, none⟩, ⟨0, none⟩, ⟨0, none⟩, ⟨0, none⟩, ⟨0, none⟩]) rfl siz27 rfl rfl rfl (ALe.refl _) rfl rfl rfl rfl (Nat.le_of_ble_eq_true rfl) rfl rfl ?_
        refine ROps.l (r := AV.nilsl) rfl rfl rfl (LOp.assign rfl rfl) ?_
        refine ROps.l (r := AV.nilsl) rfl rfl rfl (LOp.assign rfl rfl) ?_
        refine ROps.l (r := AV.b false) rfl rfl rfl (LOp.assign rfl rfl) ?_
        refine ROps.nil ?_
        refine RunC.nil_cell (l' := [AV.i64 0, AV.i64 0, AV.oref 1 1 0 0]) (Γ' := [⟨1, some [AV.i64 0, AV.i64 0, AV.oref 1 1 0 0]⟩, ⟨1, some (([] : List F).map AV.f32)⟩, ⟨0, none⟩, ⟨0, none⟩, ⟨0, none⟩, ⟨0, none⟩, ⟨0, none⟩, ⟨0, none⟩, ⟨0, none⟩, ⟨0, none⟩]) 0 2 1 rfl rfl rfl rfl rfl ?_
        refine RunC.nil_slot (Γ' := [⟨1, some [AV.i64 0, AV.i64 0, AV.oref 1 1 0 0]⟩, ⟨1, some (([] : List F).map AV.f32)⟩, ⟨1, some (([] : List Int).map AV.i64)⟩, ⟨0, none⟩, ⟨0, none⟩, ⟨0, none⟩, ⟨0, none⟩, ⟨0, none⟩, ⟨0, none⟩, ⟨0, none⟩]) 7 2 rfl rfl rfl ?_
        refine RunC.nil_slot (Γ' := [⟨1, some [AV.i64 0, AV.i64 0, AV.oref 1 1 0 0]⟩, ⟨1, some (([] : List F).map AV.f32)⟩, ⟨1, some (([] : List Int).map AV.i64)⟩, ⟨1, some (([] : List Int).map AV.i64)⟩, ⟨0, none⟩, ⟨0, none⟩, ⟨0, none⟩, ⟨0, none⟩, ⟨0, none⟩, ⟨0, none⟩]) 8 3 rfl rfl rfl ?_
        refine RunC.ret ?_
        have hq := Option.some.inj h
        obtain ⟨hq0, hq⟩ := Prod.mk.inj hq
        obtain ⟨hq1, hq⟩ := Prod.mk.inj hq
        obtain ⟨hq2, hq⟩ := Prod.mk.inj hq
        obtain ⟨hq3, hq⟩ := Prod.mk.inj hq
        obtain ⟨hq4, hq⟩ := Prod.mk.inj hq
        subst q0
        subst q1
        subst q2
        subst q3
        subst q4
        subst q5
        exact bodyQ.mk (r' := AV.tup [AV.agg [AV.i64 0, AV.i64 0, AV.oref 1 1 0 (([] : List F).length)], AV.oref 2 1 0 (([] : List Int).length), AV.oref 3 1 0 (([] : List Int).length), AV.b false]) [(1, 1), (2, 1), (3, 1)] (.inr rfl) rfl (show List.Nodup [1, 2, 3] from by decide) rfl rfl (Res.eq (Res.four rfl (RV.cell agg27 siz27 rfl rfl rfl rfl) (RV.tmp rfl) (RV.tmp rfl) (RV.tmp rfl)) (by rw [(show ([] : List F).length = 0 from rfl), (show ([] : List Int).length = 0 from rfl)] <;> rfl)) (SelL.arr0 (f := AV.f32) (fun _ => rfl) rfl (SelL.arr0 (f := AV.i64) (fun _ => rfl) rfl (SelL.arr0 (f := AV.i64) (fun _ => rfl) rfl trivial)))
      · obtain ⟨r3, hf6, h⟩ := obind_some h
        rcases bsel_some h with ⟨hc7, h⟩ | ⟨hc7, h⟩
        · refine RunC.regionW ?_
          refine ROps.l (r := AV.agg [AV.i64 a0, AV.i64 a1, AV.sl a2.length (a2.map AV.f32)]) rfl rfl rfl (LOp.loadAgg agg27 siz27 rfl rfl rfl rfl) ?_
          refine ROps.d (r := AV.b true) (fs := []) (Γ' := [⟨1, some [AV.i64 0, AV.i64 0, AV.nilsl]⟩, ⟨0, none⟩, ⟨0, none⟩, ⟨0, none⟩, ⟨0, none⟩, ⟨0, none⟩, ⟨0, none⟩, ⟨0, none⟩, ⟨0, none⟩, ⟨0, none⟩]) rfl rfl rfl (TOp.eqb (TOp.callB (CallAs.func ent45 rfl rfl) (Bors.cons (Bor.agg (Bors.cons (Bor.pure rfl) (Bors.cons (Bor.pure rfl) (Bors.cons (Bor.sl (fun _ => rfl)) Bors.nil)))) Bors.nil) rfl rfl (i_ValidMatrix_ok a0 a1 a2 r1 hf1)) hc2) rfl ?_
          refine ROps.l (r := AV.b false) rfl rfl rfl (LOp.eqb (LOp.not rfl rfl) rfl) ?_
          refine ROps.l (r := AV.b false) rfl rfl rfl (LOp.move rfl rfl) ?_
          refine ROps.l (r := AV.f32 a3) rfl rfl rfl (LOp.move rfl rfl) ?_
          refine ROps.d (r := AV.b true) (fs := []) (Γ' := [⟨1, some [AV.i64 0, AV.i64 0, AV.nilsl]⟩, ⟨0, none⟩, ⟨0, none⟩, ⟨0, none⟩, ⟨0, none⟩, ⟨0, none⟩, ⟨0, none⟩, ⟨0, none⟩, ⟨0, none⟩, ⟨0, none⟩]) rfl rfl rfl (TOp.eqb (TOp.callB (CallAs.func ent46 rfl rfl) (Bors.cons (Bor.pure rfl) Bors.nil) rfl rfl (i_IsFinite_ok a3 r2 hf3)) hc4) rfl ?_
          refine ROps.l (r := AV.b false) rfl rfl rfl (LOp.eqb (LOp.not rfl rfl) rfl) ?_
          refine ROps.l (r := AV.b false) rfl rfl rfl (LOp.pick_false rfl rfl rfl) ?_
          refine ROps.l (r := AV.b false) rfl rfl rfl (LOp.move rfl rfl) ?_
          refine ROps.l (r := AV.f32 a3) rfl rfl rfl (LOp.move rfl rfl) ?_
          refine ROps.l (r := AV.b false) rfl rfl rfl (LOp.eqb (LOp.flt rfl (OpF.tmp rfl) (OpF.const rfl (by kernel_rfl) (by kernel_rfl))) hc5) ?_
          refine ROps.l (r := AV.b false) rfl rfl rfl (LOp.pick_false rfl rfl rfl) ?_
          refine ROps.l (r := AV.b false) rfl rfl rfl (LOp.move rfl rfl) ?_
          refine ROps.l (r := AV.i64 a4) rfl rfl rfl (LOp.move rfl rfl) ?_
          refine ROps.d (r := AV.b true) (fs := []) (Γ' := [⟨1, some [AV.i64 0, AV.i64 0, AV.nilsl]⟩, ⟨0, none⟩, ⟨0, none⟩, ⟨0, none⟩, ⟨0, none⟩, ⟨0, none⟩, ⟨0, none⟩, ⟨0, none⟩, ⟨0, none⟩, ⟨0, none⟩]) rfl rfl rfl (TOp.eqb (TOp.callB (CallAs.func ent47 rfl rfl) (Bors.cons (Bor.pure rfl) Bors.nil) rfl rfl (i_isSide_ok a4 r3 hf6)) hc7) rfl ?_
          refine ROps.l (r := AV.b false) rfl rfl rfl (LOp.eqb (LOp.not rfl rfl) rfl) ?_
          refine ROps.l (r := AV.b false) rfl rfl rfl (LOp.pick_false rfl rfl rfl) ?_
          refine ROps.nil ?_
          refine RunC.wl (τ' := [(1, AV.f32 a3), (2, AV.i64 a4), (3, AV.ptr [AV.i64 a0, AV.i64 a1, AV.sl a2.length (a2.map AV.f32)]), (6, AV.optr 0 1 0), (39, AV.b false)]) (Γ' := [⟨1, some [AV.i64 0, AV.i64 0, AV.nilsl]⟩, ⟨0, none⟩, ⟨0, none⟩, ⟨0, none⟩, ⟨0, none⟩, ⟨0, none⟩, ⟨0, none⟩, ⟨0, none⟩, ⟨0, none⟩, ⟨0, none⟩]) ⟨(ALe.refl _), (ALe.refl _), (ALe.refl _), (ALe.refl _), (ALe.refl _), trivial⟩ ⟨⟨rfl, .inr rfl⟩, ⟨rfl, .inr rfl⟩, ⟨rfl, .inr rfl⟩, ⟨rfl, .inr rfl⟩, ⟨rfl, .inr rfl⟩, ⟨rfl, .inr rfl⟩, ⟨rfl, .inr rfl⟩, ⟨rfl, .inr rfl⟩, ⟨rfl, .inr rfl⟩, ⟨rfl, .inr rfl⟩, trivial⟩ ?_
          refine RunC.cond_false rfl rfl ?_
          refine RunC.skip ?_
          refine RunC.seq ?_
          obtain ⟨r4, r5, r6, hf8, h⟩ := obind3_some h
          obtain ⟨r7, r8, r9, hf9, h⟩ := obind3_some h
          refine RunC.region_draw (Γ' := [⟨1, some [AV.i64 0, AV.i64 0, AV.nilsl]⟩, ⟨1, some (r6.map AV.f32)⟩, ⟨1, some (r9.map AV.f32)⟩, ⟨1, some [AV.i64 0, AV.i64 0, AV.nilsl]⟩, ⟨1, some [AV.i64 0, AV.i64 0, AV.nilsl]⟩, ⟨0, none⟩, ⟨0, none⟩, ⟨0, none⟩, ⟨0, none⟩, ⟨0, none⟩]) 9 mixed 
            (TR.l (r := AV.agg [AV.i64 a0, AV.i64 a1, AV.sl a2.length (a2.map AV.f32)]) rfl rfl (LOp.loadAgg agg27 siz27 rfl rfl rfl rfl) <|
            (TR.d (r := AV.agg [AV.i64 r4, AV.i64 r5, AV.oref 1 1 0 r6.length]) (fs := [(1, (r6.map AV.f32))]) rfl rfl (TOp.callBN (ls := [(r6.map AV.f32)]) [1] (CallAs.func ent48 rfl rfl) (Bors.cons (Bor.agg (Bors.cons (Bor.pure rfl) (Bors.cons (Bor.pure rfl) (Bors.cons (Bor.sl (fun _ => rfl)) Bors.nil)))) Bors.nil) rfl (i_Matrix_clone_ok a0 a1 a2 r4 r5 r6 hf8) (and_all (lts0_map (f := AV.f32) (fun _ => rfl) _) rfl) (and_all (noss_map (f := AV.f32) (fun _ => rfl) _) rfl) rfl (by decide) (ns_of ⟨⟨_, rfl⟩, trivial⟩)) <|
            (TR.l (r := AV.ptr [AV.i64 a0, AV.i64 a1, AV.sl a2.length (a2.map AV.f32)]) rfl rfl (LOp.fap und27 rfl siz2 rfl rfl rfl) <|
            (TR.l (r := AV.i64 a0) rfl rfl (LOp.load1 agg2 rfl rfl) <|
            (TR.l (r := AV.ptr [AV.i64 a1, AV.sl a2.length (a2.map AV.f32)]) rfl rfl (LOp.fap und27 rfl siz2 rfl rfl rfl) <|
            (TR.l (r := AV.i64 a1) rfl rfl (LOp.load1 agg2 rfl rfl) <|
            (TR.d (r := AV.agg [AV.i64 r7, AV.i64 r8, AV.oref 2 1 0 r9.length]) (fs := [(2, (r9.map AV.f32))]) rfl rfl (TOp.callBN (ls := [(r9.map AV.f32)]) [2] (CallAs.func ent49 rfl rfl) (Bors.cons (Bor.pure rfl) (Bors.cons (Bor.pure rfl) Bors.nil)) rfl (i_newMatrix_ok a0 a1 r7 r8 r9 hf9) (and_all (lts0_map (f := AV.f32) (fun _ => rfl) _) rfl) (and_all (noss_map (f := AV.f32) (fun _ => rfl) _) rfl) rfl (by decide) (ns_of ⟨⟨_, rfl⟩, trivial⟩)) <|
            (TR.d (r := AV.optr 3 1 0) (fs := [(3, [AV.i64 0, AV.i64 0, AV.nilsl])]) rfl rfl (TOp.alloc_o (g := ⟨0, none⟩) 3 rfl zer27 zok27 rfl) <|
            (TR.d (r := AV.optr 4 1 0) (fs := [(4, [AV.i64 0, AV.i64 0, AV.nilsl])]) rfl rfl (TOp.alloc_o (g := ⟨0, none⟩) 4 rfl zer27 zok27 rfl) <|
            TR.nil))))))))) rfl (by kernel_rfl) rfl (fills_of (by show List.Nodup [1, 2, 3, 4]; decide) ⟨⟨_, rfl⟩, ⟨_, rfl⟩, ⟨_, rfl⟩, ⟨_, rfl⟩, trivial⟩) rfl ?_
          iterate 9 refine ROps.dropS ?_
          refine ROps.drop0 ?_
          refine ROps.store_le (r := AV.agg [AV.i64 r4, AV.i64 r5, AV.oref 1 1 0 r6.length]) (l' := [AV.i64 r4, AV.i64 r5, AV.oref 1 1 0 r6.length]) (Γ' := [⟨1, some [AV.i64 0, AV.i64 0, AV.nilsl]⟩, ⟨1, some (r6.map AV.f32)⟩, ⟨1, some (r9.map AV.f32)⟩, ⟨1, some [AV.i64 r4, AV.i64 r5, AV.oref 1 1 0 r6.length]⟩, ⟨1, some [AV.i64 0, AV.i64 0, AV.nilsl]⟩, ⟨0, none⟩, ⟨0, none⟩, ⟨0, none⟩, ⟨0, none⟩, ⟨0, none⟩]) rfl siz27 rfl rfl rfl (ALe.refl _) rfl rfl rfl rfl (Nat.le_of_ble_eq_true rfl) rfl rfl ?_
          refine ROps.store_le (r := AV.agg [AV.i64 r7, AV.i64 r8, AV.oref 2 1 0 r9.length]) (l' := [AV.i64 r7, AV.i64 r8, AV.oref 2 1 0 r9.length]) (Γ' := [⟨1, some [AV.i64 0, AV.i64 0, AV.nilsl]⟩, ⟨1, some (r6.map AV.f32)⟩, ⟨1, some (r9.map AV.f32)⟩, ⟨1, some [AV.i64 r4, AV.i64 r5, AV.oref 1 1 0 r6.length]⟩, ⟨1, some [AV.i64 r7, AV.i64 r8, AV.oref 2 1 0 r9.length]⟩, ⟨0, none⟩, ⟨0, none⟩, ⟨0, none⟩, ⟨0, none⟩, ⟨0, none⟩]) rfl siz27 rfl rfl rfl (ALe.refl _) rfl rfl rfl rfl (Nat.le_of_ble_eq_true rfl) rfl rfl ?_
          refine ROps.nil ?_
          refine RunC.seq ?_
          refine RunC.regionW ?_
          refine ROps.d (r := AV.oref 5 1 0 0) (fs := [(5, (([] : List Int).map AV.i64))]) (Γ' := [⟨1, some [AV.i64 0, AV.i64 0, AV.nilsl]⟩, ⟨1, some (r6.map AV.f32)⟩, ⟨1, some (r9.map AV.f32)⟩, ⟨1, some [AV.i64 r4, AV.i64 r5, AV.oref 1 1 0 r6.length]⟩, ⟨1, some [AV.i64 r7, AV.i64 r8, AV.oref 2 1 0 r9.length]⟩, ⟨1, some (([] : List Int).map AV.i64)⟩, ⟨0, none⟩, ⟨0, none⟩, ⟨0, none⟩, ⟨0, none⟩]) rfl rfl rfl (TOp.buildSlice_o (g := ⟨0, none⟩) (za := AV.i64 0) (qs := []) 5 rfl und28 siz2 zer2 rfl zel2 rfl rfl trivial rfl) rfl ?_
          refine ROps.d (r := AV.oref 6 1 0 0) (fs := [(6, (([] : List Int).map AV.i64))]) (Γ' := [⟨1, some [AV.i64 0, AV.i64 0, AV.nilsl]⟩, ⟨1, some (r6.map AV.f32)⟩, ⟨1, some (r9.map AV.f32)⟩, ⟨1, some [AV.i64 r4, AV.i64 r5, AV.oref 1 1 0 r6.length]⟩, ⟨1, some [AV.i64 r7, AV.i64 r8, AV.oref 2 1 0 r9.length]⟩, ⟨1, some (([] : List Int).map AV.i64)⟩, ⟨1, some (([] : List Int).map AV.i64)⟩, ⟨0, none⟩, ⟨0, none⟩, ⟨0, none⟩]) rfl rfl rfl (TOp.buildSlice_o (g := ⟨0, none⟩) (za := AV.i64 0) (qs := []) 6 rfl und28 siz2 zer2 rfl zel2 rfl rfl trivial rfl) rfl ?_
          refine ROps.l (r := AV.oref 5 1 0 0) rfl rfl rfl (LOp.assign rfl rfl) ?_
          refine ROps.l (r := AV.oref 6 1 0 0) rfl rfl rfl (LOp.assign rfl rfl) ?_
          refine ROps.nil ?_
          refine RunC.seq ?_
          refine RunC.seq ?_
          refine RunC.regionW ?_
          refine ROps.l (r := AV.i64 a4) rfl rfl rfl (LOp.move rfl rfl) ?_
          refine ROps.l (r := AV.i64 0) rfl rfl rfl (LOp.move rfl rfl) ?_
          refine ROps.nil ?_
          obtain ⟨z10, hz_10, h⟩ := obind_some h
          refine RunC.cutN (fun τ Γ => ∃ (L72 : List F) (L74 : List Int) (L75 : List Int) (u68 : Nat) (u69 : Nat) (u70 : Nat) (u71 : Nat), L72.length = r9.length ∧ WeakLe τ [(6, AV.optr 0 1 0), (11, AV.optr 4 1 0), (12, AV.oref 5 u68 0 L74.length), (13, AV.oref 6 u69 0 L75.length)] ∧ DeadLe Γ [⟨1, some [AV.i64 0, AV.i64 0, AV.nilsl]⟩, ⟨1, none⟩, ⟨1, some (L72.map AV.f32)⟩, ⟨1, none⟩, ⟨1, some [AV.i64 r7, AV.i64 r8, AV.oref 2 1 0 r9.length]⟩, ⟨u68, some (L74.map AV.i64)⟩, ⟨u69, some (L75.map AV.i64)⟩, ⟨u70, none⟩, ⟨u71, none⟩, ⟨0, none⟩] ∧ z10 = .inl (L72, L74, L75)) ?_ ?_
          · refine RunC.block (RunC.loop (RunL.loopM (x := z10) (i_CrossOf_s9 a3 a4 r4 r5 r6 r7 r8) (fun (s : (List F) × (List F) × (List Int) × (List Int) × Int) τ Γ => ∃ (u10 : Nat) (u11 : Nat) (u12 : Nat) (u13 : Nat), s.1.length = r6.length ∧ s.2.1.length = r9.length ∧ WeakLe τ [(1, AV.f32 a3), (6, AV.optr 0 1 0), (10, AV.optr 3 1 0), (11, AV.optr 4 1 0), (12, AV.oref 5 u10 0 s.2.2.1.length), (13, AV.oref 6 u11 0 s.2.2.2.1.length), (50, AV.i64 a4), (51, AV.i64 s.2.2.2.2)] ∧ DeadLe Γ [⟨1, some [AV.i64 0, AV.i64 0, AV.nilsl]⟩, ⟨1, some (s.1.map AV.f32)⟩, ⟨1, some (s.2.1.map AV.f32)⟩, ⟨1, some [AV.i64 r4, AV.i64 r5, AV.oref 1 1 0 r6.length]⟩, ⟨1, some [AV.i64 r7, AV.i64 r8, AV.oref 2 1 0 r9.length]⟩, ⟨u10, some (s.2.2.1.map AV.i64)⟩, ⟨u11, some (s.2.2.2.1.map AV.i64)⟩, ⟨u12, none⟩, ⟨u13, none⟩, ⟨0, none⟩]) ?_ _ _ _ hz_10 ⟨1, 1, 0, 0, rfl, rfl, ⟨(ALe.refl _), (ALe.refl _), (ALe.refl _), (ALe.refl _), (ALe.refl _), (ALe.refl _), (ALe.refl _), (ALe.refl _), trivial⟩, ⟨⟨rfl, .inr rfl⟩, ⟨rfl, .inr rfl⟩, ⟨rfl, .inr rfl⟩, ⟨rfl, .inr rfl⟩, ⟨rfl, .inr rfl⟩, ⟨rfl, .inr rfl⟩, ⟨rfl, .inr rfl⟩, ⟨rfl, .inl rfl⟩, ⟨rfl, .inl rfl⟩, ⟨rfl, .inr rfl⟩, trivial⟩⟩))
            rintro ⟨L14, L16, L18, L19, v20⟩ τ10 Γ10 y10_ ⟨u10, u11, u12, u13, hl15, hl17, hw10, hd10⟩ h10_ ho10 hr10
            refine RunC.wl (τ' := [(1, AV.f32 a3), (6, AV.optr 0 1 0), (10, AV.optr 3 1 0), (11, AV.optr 4 1 0), (12, AV.oref 5 u10 0 L18.length), (13, AV.oref 6 u11 0 L19.length), (50, AV.i64 a4), (51, AV.i64 v20)]) (Γ' := [⟨1, some [AV.i64 0, AV.i64 0, AV.nilsl]⟩, ⟨1, some (L14.map AV.f32)⟩, ⟨1, some (L16.map AV.f32)⟩, ⟨1, some [AV.i64 r4, AV.i64 r5, AV.oref 1 1 0 r6.length]⟩, ⟨1, some [AV.i64 r7, AV.i64 r8, AV.oref 2 1 0 r9.length]⟩, ⟨u10, some (L18.map AV.i64)⟩, ⟨u11, some (L19.map AV.i64)⟩, ⟨u12, none⟩, ⟨u13, none⟩, ⟨0, none⟩]) hw10 hd10 ?_
            replace hl15 : L14.length = r6.length := hl15
            replace hl17 : L16.length = r9.length := hl17
            replace h10_ : i_CrossOf_b9 a3 a4 r4 r5 r6 r7 r8 L14 L16 L18 L19 v20 = some y10_ := h10_
            unfold i_CrossOf_b9 at h10_
            refine RunC.seq ?_
            rcases bsel_some h10_ with ⟨hc10, h10_⟩ | ⟨hc10, h10_⟩
            · refine RunC.regionW ?_
              refine ROps.l (r := AV.b true) rfl rfl rfl (LOp.eqb (LOp.lss rfl rfl rfl) hc10) ?_
              refine ROps.nil ?_
              refine RunC.seq ?_
              refine RunC.cond_true rfl rfl ?_
              refine RunC.skip ?_
              refine RunC.seq ?_
              refine RunC.block ?_
              refine RunC.seq ?_
              refine RunC.regionW ?_
              refine ROps.l (r := AV.i64 0) rfl rfl rfl (LOp.assign rfl rfl) ?_
              refine ROps.l (r := AV.i64 0) rfl rfl rfl (LOp.assign rfl rfl) ?_
              refine ROps.nil ?_
              refine RunC.seq ?_
              refine RunC.seq ?_
              refine RunC.regionW ?_
              refine ROps.l (r := AV.optr 3 1 2) rfl rfl rfl (LOp.fao und27 rfl siz22 rfl rfl rfl) ?_
              refine ROps.d (r := AV.oref 1 1 0 r6.length) (fs := []) (Γ' := [⟨1, some [AV.i64 0, AV.i64 0, AV.nilsl]⟩, ⟨1, some (L14.map AV.f32)⟩, ⟨1, some (L16.map AV.f32)⟩, ⟨1, some [AV.i64 r4, AV.i64 r5, AV.oref 1 1 0 r6.length]⟩, ⟨1, some [AV.i64 r7, AV.i64 r8, AV.oref 2 1 0 r9.length]⟩, ⟨u10, some (L18.map AV.i64)⟩, ⟨u11, some (L19.map AV.i64)⟩, ⟨u12, none⟩, ⟨u13, none⟩, ⟨0, none⟩]) rfl rfl rfl (TOp.load1_o rfl rfl agg22 rfl rfl) rfl ?_
              refine ROps.l (r := AV.i64 ((r6.length : Nat) : Int)) rfl rfl rfl (LOp.len_oref und22 rfl rfl) ?_
              refine ROps.l (r := AV.i64 0) rfl rfl rfl (LOp.move rfl rfl) ?_
              refine ROps.nil ?_
              obtain ⟨z11, hz_11, h10_⟩ := obind_some h10_
              refine RunC.cutN (fun τ Γ => ∃ (v37 : Int) (v38 : Int), L14.length = r6.length ∧ L16.length = r9.length ∧ WeakLe τ [(1, AV.f32 a3), (6, AV.optr 0 1 0), (10, AV.optr 3 1 0), (11, AV.optr 4 1 0), (12, AV.oref 5 u10 0 L18.length), (13, AV.oref 6 u11 0 L19.length), (14, AV.i64 v37), (15, AV.i64 v38), (50, AV.i64 a4), (51, AV.i64 v20)] ∧ DeadLe Γ [⟨1, some [AV.i64 0, AV.i64 0, AV.nilsl]⟩, ⟨1, some (L14.map AV.f32)⟩, ⟨1, some (L16.map AV.f32)⟩, ⟨1, some [AV.i64 r4, AV.i64 r5, AV.oref 1 1 0 r6.length]⟩, ⟨1, some [AV.i64 r7, AV.i64 r8, AV.oref 2 1 0 r9.length]⟩, ⟨u10, some (L18.map AV.i64)⟩, ⟨u11, some (L19.map AV.i64)⟩, ⟨u12, none⟩, ⟨u13, none⟩, ⟨0, none⟩] ∧ z11 = .inl (v37, v38)) ?_ ?_
              · refine RunC.block (RunC.loop (RunL.loopM (x := z11) (i_CrossOf_s7 r4 r5 r6 L14) (fun (s : Int × Int × Int) τ Γ => WeakLe τ [(1, AV.f32 a3), (6, AV.optr 0 1 0), (10, AV.optr 3 1 0), (11, AV.optr 4 1 0), (12, AV.oref 5 u10 0 L18.length), (13, AV.oref 6 u11 0 L19.length), (14, AV.i64 s.1), (15, AV.i64 s.2.1), (50, AV.i64 a4), (51, AV.i64 v20), (54, AV.oref 1 1 0 r6.length), (55, AV.i64 ((r6.length : Nat) : Int)), (56, AV.i64 s.2.2)] ∧ DeadLe Γ [⟨1, some [AV.i64 0, AV.i64 0, AV.nilsl]⟩, ⟨1, some (L14.map AV.f32)⟩, ⟨1, some (L16.map AV.f32)⟩, ⟨1, some [AV.i64 r4, AV.i64 r5, AV.oref 1 1 0 r6.length]⟩, ⟨1, some [AV.i64 r7, AV.i64 r8, AV.oref 2 1 0 r9.length]⟩, ⟨u10, some (L18.map AV.i64)⟩, ⟨u11, some (L19.map AV.i64)⟩, ⟨u12, none⟩, ⟨u13, none⟩, ⟨0, none⟩]) ?_ _ _ _ hz_11 ⟨⟨(ALe.refl _), (ALe.refl _), (ALe.refl _), (ALe.refl _), (ALe.refl _), (ALe.refl _), (ALe.refl _), (ALe.refl _), (ALe.refl _), (ALe.refl _), (ALe.refl _), (ALe.refl _), (ALe.refl _), trivial⟩, ⟨⟨rfl, .inr rfl⟩, ⟨rfl, .inr rfl⟩, ⟨rfl, .inr rfl⟩, ⟨rfl, .inr rfl⟩, ⟨rfl, .inr rfl⟩, ⟨rfl, .inr rfl⟩, ⟨rfl, .inr rfl⟩, ⟨rfl, .inl rfl⟩, ⟨rfl, .inl rfl⟩, ⟨rfl, .inr rfl⟩, trivial⟩⟩))
                rintro ⟨v21, v22, v23⟩ τ11 Γ11 y11_ ⟨hw11, hd11⟩ h11_ ho11 hr11
                refine RunC.wl (τ' := [(1, AV.f32 a3), (6, AV.optr 0 1 0), (10, AV.optr 3 1 0), (11, AV.optr 4 1 0), (12, AV.oref 5 u10 0 L18.length), (13, AV.oref 6 u11 0 L19.length), (14, AV.i64 v21), (15, AV.i64 v22), (50, AV.i64 a4), (51, AV.i64 v20), (54, AV.oref 1 1 0 r6.length), (55, AV.i64 ((r6.length : Nat) : Int)), (56, AV.i64 v23)]) (Γ' := [⟨1, some [AV.i64 0, AV.i64 0, AV.nilsl]⟩, ⟨1, some (L14.map AV.f32)⟩, ⟨1, some (L16.map AV.f32)⟩, ⟨1, some [AV.i64 r4, AV.i64 r5, AV.oref 1 1 0 r6.length]⟩, ⟨1, some [AV.i64 r7, AV.i64 r8, AV.oref 2 1 0 r9.length]⟩, ⟨u10, some (L18.map AV.i64)⟩, ⟨u11, some (L19.map AV.i64)⟩, ⟨u12, none⟩, ⟨u13, none⟩, ⟨0, none⟩]) hw11 hd11 ?_
                replace h11_ : i_CrossOf_b7 r4 r5 r6 L14 v21 v22 v23 = some y11_ := h11_
                unfold i_CrossOf_b7 at h11_
                refine RunC.seq ?_
                rcases bsel_some h11_ with ⟨hc11, h11_⟩ | ⟨hc11, h11_⟩
                · refine RunC.regionW ?_
                  refine ROps.l (r := AV.b true) rfl rfl rfl (LOp.eqb (LOp.lss rfl rfl rfl) hc11) ?_
                  refine ROps.nil ?_
                  refine RunC.seq ?_
                  refine RunC.cond_true rfl rfl ?_
                  refine RunC.skip ?_
                  refine RunC.seq ?_
                  refine RunC.cutN (fun τ Γ => ∃ (v30 : Int) (v31 : Int), L14.length = r6.length ∧ L16.length = r9.length ∧ WeakLe τ [(1, AV.f32 a3), (6, AV.optr 0 1 0), (10, AV.optr 3 1 0), (11, AV.optr 4 1 0), (12, AV.oref 5 u10 0 L18.length), (13, AV.oref 6 u11 0 L19.length), (14, AV.i64 v30), (15, AV.i64 v31), (50, AV.i64 a4), (51, AV.i64 v20), (54, AV.oref 1 1 0 r6.length), (55, AV.i64 ((r6.length : Nat) : Int)), (56, AV.i64 v23)] ∧ DeadLe Γ [⟨1, some [AV.i64 0, AV.i64 0, AV.nilsl]⟩, ⟨1, some (L14.map AV.f32)⟩, ⟨1, some (L16.map AV.f32)⟩, ⟨1, some [AV.i64 r4, AV.i64 r5, AV.oref 1 1 0 r6.length]⟩, ⟨1, some [AV.i64 r7, AV.i64 r8, AV.oref 2 1 0 r9.length]⟩, ⟨u10, some (L18.map AV.i64)⟩, ⟨u11, some (L19.map AV.i64)⟩, ⟨u12, none⟩, ⟨u13, none⟩, ⟨0, none⟩] ∧ i_CrossOf_k6 v23 v30 v31 = some y11_) ?_ ?_
                  · refine RunC.block ?_
                    refine RunC.seq ?_
                    obtain ⟨e24, he12, h11_⟩ := obind_some h11_
                    refine RunC.regionW ?_
                    refine ROps.l (r := AV.i64 v23) rfl rfl rfl (LOp.move rfl rfl) ?_
                    refine ROps.d (r := AV.optr 1 1 v23.toNat) (fs := []) (Γ' := [⟨1, some [AV.i64 0, AV.i64 0, AV.nilsl]⟩, ⟨1, some (L14.map AV.f32)⟩, ⟨1, some (L16.map AV.f32)⟩, ⟨1, some [AV.i64 r4, AV.i64 r5, AV.oref 1 1 0 r6.length]⟩, ⟨1, some [AV.i64 r7, AV.i64 r8, AV.oref 2 1 0 r9.length]⟩, ⟨u10, some (L18.map AV.i64)⟩, ⟨u11, some (L19.map AV.i64)⟩, ⟨u12, none⟩, ⟨u13, none⟩, ⟨0, none⟩]) rfl rfl rfl (TOp.ixo und22 siz25 rfl rfl rfl (at_in he12 hl15) rfl) rfl ?_
                    refine ROps.d (r := AV.f32 e24) (fs := []) (Γ' := [⟨1, some [AV.i64 0, AV.i64 0, AV.nilsl]⟩, ⟨1, some (L14.map AV.f32)⟩, ⟨1, some (L16.map AV.f32)⟩, ⟨1, some [AV.i64 r4, AV.i64 r5, AV.oref 1 1 0 r6.length]⟩, ⟨1, some [AV.i64 r7, AV.i64 r8, AV.oref 2 1 0 r9.length]⟩, ⟨u10, some (L18.map AV.i64)⟩, ⟨u11, some (L19.map AV.i64)⟩, ⟨u12, none⟩, ⟨u13, none⟩, ⟨0, none⟩]) rfl rfl rfl (TOp.load1_o rfl (at_cell he12) agg25 rfl rfl) rfl ?_
                    refine ROps.l (r := AV.i64 v23) rfl rfl rfl (LOp.assign rfl rfl) ?_
                    refine ROps.l (r := AV.f32 e24) rfl rfl rfl (LOp.assign rfl rfl) ?_
                    refine ROps.nil ?_
                    refine RunC.seq ?_
                    obtain ⟨r25, hf13, h11_⟩ := obind_some h11_
                    obtain ⟨r26, hf14, h11_⟩ := obind_some h11_
                    obtain ⟨r27, hf15, h11_⟩ := obind_some h11_
                    rcases bsel_some h11_ with ⟨hc16, h11_⟩ | ⟨hc16, h11_⟩
                    · refine RunC.region_draw (Γ' := [⟨1, some [AV.i64 0, AV.i64 0, AV.nilsl]⟩, ⟨1, some (L14.map AV.f32)⟩, ⟨1, some (L16.map AV.f32)⟩, ⟨1, some [AV.i64 r4, AV.i64 r5, AV.oref 1 1 0 r6.length]⟩, ⟨1, some [AV.i64 r7, AV.i64 r8, AV.oref 2 1 0 r9.length]⟩, ⟨u10, some (L18.map AV.i64)⟩, ⟨u11, some (L19.map AV.i64)⟩, ⟨u12, none⟩, ⟨u13, none⟩, ⟨0, none⟩]) 8 mixed 
                        (TR.l (r := AV.f32 e24) rfl rfl (LOp.move rfl rfl) <|
                        (TR.d (r := AV.f32 r25) (fs := []) rfl rfl (TOp.callB (CallAs.func ent50 rfl rfl) (Bors.cons (Bor.pure rfl) Bors.nil) rfl rfl (i_absolute_ok e24 r25 hf13)) <|
                        (TR.d (r := AV.agg [AV.i64 r4, AV.i64 r5, AV.oref 1 1 0 r6.length]) (fs := []) rfl rfl (TOp.loadAgg_o rfl agg27 siz27 rfl rfl rfl rfl) <|
                        (TR.l (r := AV.i64 v21) rfl rfl (LOp.move rfl rfl) <|
                        (TR.l (r := AV.i64 v22) rfl rfl (LOp.move rfl rfl) <|
                        (TR.d (r := AV.f32 r26) (fs := []) rfl rfl (TOp.callB (CallAs.func ent51 rfl rfl) (Bors.cons (Bor.agg (Bors.cons (Bor.pure rfl) (Bors.cons (Bor.pure rfl) (Bors.cons (Bor.own (f := AV.f32) (fun _ => rfl) rfl hl15) Bors.nil)))) (Bors.cons (Bor.pure rfl) (Bors.cons (Bor.pure rfl) Bors.nil))) rfl rfl (i_Matrix_at_ok r4 r5 L14 v21 v22 r26 hf14)) <|
                        (TR.d (r := AV.f32 r27) (fs := []) rfl rfl (TOp.callB (CallAs.func ent50 rfl rfl) (Bors.cons (Bor.pure rfl) Bors.nil) rfl rfl (i_absolute_ok r26 r27 hf15)) <|
                        (TR.l (r := AV.b true) rfl rfl (LOp.eqb (LOp.fgt rfl (OpF.tmp rfl) (OpF.tmp rfl)) hc16) <|
                        TR.nil)))))))) rfl (by kernel_rfl) rfl fills_nil rfl ?_
                      iterate 8 refine ROps.dropS ?_
                      refine ROps.drop0 ?_
                      refine ROps.nil ?_
                      refine RunC.cond_true rfl rfl ?_
                      obtain ⟨hz17, h11_⟩ := need_some h11_
                      obtain ⟨x28, hx18, h11_⟩ := olet_some h11_
                      obtain ⟨hz19, h11_⟩ := need_some h11_
                      obtain ⟨x29, hx20, h11_⟩ := olet_some h11_
                      refine RunC.region_draw (Γ' := [⟨1, some [AV.i64 0, AV.i64 0, AV.nilsl]⟩, ⟨1, some (L14.map AV.f32)⟩, ⟨1, some (L16.map AV.f32)⟩, ⟨1, some [AV.i64 r4, AV.i64 r5, AV.oref 1 1 0 r6.length]⟩, ⟨1, some [AV.i64 r7, AV.i64 r8, AV.oref 2 1 0 r9.length]⟩, ⟨u10, some (L18.map AV.i64)⟩, ⟨u11, some (L19.map AV.i64)⟩, ⟨u12, none⟩, ⟨u13, none⟩, ⟨0, none⟩]) 10 mixed 
                        (TR.l (r := AV.i64 v23) rfl rfl (LOp.move rfl rfl) <|
                        (TR.l (r := AV.optr 3 1 1) rfl rfl (LOp.fao und27 rfl siz2 rfl rfl rfl) <|
                        (TR.d (r := AV.i64 r5) (fs := []) rfl rfl (TOp.load1_o rfl rfl agg2 rfl rfl) <|
                        (TR.l (r := AV.i64 x28) rfl rfl (LOp.eqr (LOp.quo rfl rfl rfl (nz hz17)) (congrArg (AV.ik .i64) hx18)) <|
                        (TR.l (r := AV.i64 v23) rfl rfl (LOp.move rfl rfl) <|
                        (TR.l (r := AV.optr 3 1 1) rfl rfl (LOp.fao und27 rfl siz2 rfl rfl rfl) <|
                        (TR.d (r := AV.i64 r5) (fs := []) rfl rfl (TOp.load1_o rfl rfl agg2 rfl rfl) <|
                        (TR.l (r := AV.i64 x29) rfl rfl (LOp.eqr (LOp.rem rfl rfl rfl (nz hz19)) (congrArg (AV.ik .i64) hx20)) <|
                        (TR.l (r := AV.i64 x28) rfl rfl (LOp.assign rfl rfl) <|
                        (TR.l (r := AV.i64 x29) rfl rfl (LOp.assign rfl rfl) <|
                        TR.nil)))))))))) rfl (by kernel_rfl) rfl fills_nil rfl ?_
                      iterate 10 refine ROps.dropS ?_
                      refine ROps.drop0 ?_
                      refine ROps.nil ?_
                      exact ⟨x28, x29, hl15, hl17, ⟨(ALe.refl _), (ALe.refl _), (ALe.refl _), (ALe.refl _), (ALe.refl _), (ALe.refl _), (ALe.refl _), (ALe.refl _), (ALe.refl _), (ALe.refl _), (ALe.refl _), (ALe.refl _), (ALe.refl _), trivial⟩, ⟨⟨rfl, .inr rfl⟩, ⟨rfl, .inr rfl⟩, ⟨rfl, .inr rfl⟩, ⟨rfl, .inr rfl⟩, ⟨rfl, .inr rfl⟩, ⟨rfl, .inr rfl⟩, ⟨rfl, .inr rfl⟩, ⟨rfl, .inl rfl⟩, ⟨rfl, .inl rfl⟩, ⟨rfl, .inr rfl⟩, trivial⟩, h11_⟩
                    · refine RunC.region_draw (Γ' := [⟨1, some [AV.i64 0, AV.i64 0, AV.nilsl]⟩, ⟨1, some (L14.map AV.f32)⟩, ⟨1, some (L16.map AV.f32)⟩, ⟨1, some [AV.i64 r4, AV.i64 r5, AV.oref 1 1 0 r6.length]⟩, ⟨1, some [AV.i64 r7, AV.i64 r8, AV.oref 2 1 0 r9.length]⟩, ⟨u10, some (L18.map AV.i64)⟩, ⟨u11, some (L19.map AV.i64)⟩, ⟨u12, none⟩, ⟨u13, none⟩, ⟨0, none⟩]) 8 mixed 
                        (TR.l (r := AV.f32 e24) rfl rfl (LOp.move rfl rfl) <|
                        (TR.d (r := AV.f32 r25) (fs := []) rfl rfl (TOp.callB (CallAs.func ent50 rfl rfl) (Bors.cons (Bor.pure rfl) Bors.nil) rfl rfl (i_absolute_ok e24 r25 hf13)) <|
                        (TR.d (r := AV.agg [AV.i64 r4, AV.i64 r5, AV.oref 1 1 0 r6.length]) (fs := []) rfl rfl (TOp.loadAgg_o rfl agg27 siz27 rfl rfl rfl rfl) <|
                        (TR.l (r := AV.i64 v21) rfl rfl (LOp.move rfl rfl) <|
                        (TR.l (r := AV.i64 v22) rfl rfl (LOp.move rfl rfl) <|
                        (TR.d (r := AV.f32 r26) (fs := []) rfl rfl (TOp.callB (CallAs.func ent51 rfl rfl) (Bors.cons (Bor.agg (Bors.cons (Bor.pure rfl) (Bors.cons (Bor.pure rfl) (Bors.cons (Bor.own (f := AV.f32) (fun _ => rfl) rfl hl15) Bors.nil)))) (Bors.cons (Bor.pure rfl) (Bors.cons (Bor.pure rfl) Bors.nil))) rfl rfl (i_Matrix_at_ok r4 r5 L14 v21 v22 r26 hf14)) <|
                        (TR.d (r := AV.f32 r27) (fs := []) rfl rfl (TOp.callB (CallAs.func ent50 rfl rfl) (Bors.cons (Bor.pure rfl) Bors.nil) rfl rfl (i_absolute_ok r26 r27 hf15)) <|
                        (TR.l (r := AV.b false) rfl rfl (LOp.eqb (LOp.fgt rfl (OpF.tmp rfl) (OpF.tmp rfl)) hc16) <|
                        TR.nil)))))))) rfl (by kernel_rfl) rfl fills_nil rfl ?_
                      iterate 8 refine ROps.dropS ?_
                      refine ROps.drop0 ?_
                      refine ROps.nil ?_
                      refine RunC.cond_false rfl rfl ?_
                      refine RunC.skip ?_
                      exact ⟨v21, v22, hl15, hl17, ⟨(ALe.refl _), (ALe.refl _), (ALe.refl _), (ALe.refl _), (ALe.refl _), (ALe.refl _), (ALe.refl _), (ALe.refl _), (ALe.refl _), (ALe.refl _), (ALe.refl _), (ALe.refl _), (ALe.refl _), trivial⟩, ⟨⟨rfl, .inr rfl⟩, ⟨rfl, .inr rfl⟩, ⟨rfl, .inr rfl⟩, ⟨rfl, .inr rfl⟩, ⟨rfl, .inr rfl⟩, ⟨rfl, .inr rfl⟩, ⟨rfl, .inr rfl⟩, ⟨rfl, .inl rfl⟩, ⟨rfl, .inl rfl⟩, ⟨rfl, .inr rfl⟩, trivial⟩, h11_⟩
                  · rintro τ12 Γ12 ⟨v30, v31, hl32, hl33, hw12, hd12, h11_⟩
                    refine RunC.wl (τ' := [(1, AV.f32 a3), (6, AV.optr 0 1 0), (10, AV.optr 3 1 0), (11, AV.optr 4 1 0), (12, AV.oref 5 u10 0 L18.length), (13, AV.oref 6 u11 0 L19.length), (14, AV.i64 v30), (15, AV.i64 v31), (50, AV.i64 a4), (51, AV.i64 v20), (54, AV.oref 1 1 0 r6.length), (55, AV.i64 ((r6.length : Nat) : Int)), (56, AV.i64 v23)]) (Γ' := [⟨1, some [AV.i64 0, AV.i64 0, AV.nilsl]⟩, ⟨1, some (L14.map AV.f32)⟩, ⟨1, some (L16.map AV.f32)⟩, ⟨1, some [AV.i64 r4, AV.i64 r5, AV.oref 1 1 0 r6.length]⟩, ⟨1, some [AV.i64 r7, AV.i64 r8, AV.oref 2 1 0 r9.length]⟩, ⟨u10, some (L18.map AV.i64)⟩, ⟨u11, some (L19.map AV.i64)⟩, ⟨u12, none⟩, ⟨u13, none⟩, ⟨0, none⟩]) hw12 hd12 ?_
                    unfold i_CrossOf_k6 at h11_
                    obtain ⟨x34, hx21, h11_⟩ := olet_some h11_
                    refine RunC.regionW ?_
                    refine ROps.l (r := AV.i64 x34) rfl rfl rfl (LOp.eqr (LOp.add rfl rfl rfl) (congrArg (AV.ik .i64) hx21)) ?_
                    refine ROps.l (r := AV.i64 x34) rfl rfl rfl (LOp.move rfl rfl) ?_
                    refine ROps.nil ?_
                    cases Option.some.inj h11_
                    exact ⟨_, rfl, ⟨(ALe.refl _), (ALe.refl _), (ALe.refl _), (ALe.refl _), (ALe.refl _), (ALe.refl _), (ALe.refl _), (ALe.refl _), (ALe.refl _), (ALe.refl _), (ALe.refl _), (ALe.refl _), (ALe.refl _), trivial⟩, ⟨⟨rfl, .inr rfl⟩, ⟨rfl, .inr rfl⟩, ⟨rfl, .inr rfl⟩, ⟨rfl, .inr rfl⟩, ⟨rfl, .inr rfl⟩, ⟨rfl, .inr rfl⟩, ⟨rfl, .inr rfl⟩, ⟨rfl, .inl rfl⟩, ⟨rfl, .inl rfl⟩, ⟨rfl, .inr rfl⟩, trivial⟩⟩
                · refine RunC.regionW ?_
                  refine ROps.l (r := AV.b false) rfl rfl rfl (LOp.eqb (LOp.lss rfl rfl rfl) hc11) ?_
                  refine ROps.nil ?_
                  refine RunC.seq ?_
                  refine RunC.cond_false rfl rfl ?_
                  refine RunC.exit ?_
                  cases Option.some.inj h11_
                  have hx := ho11 _ rfl
                  exact ⟨v21, v22, hl15, hl17, ⟨(ALe.refl _), (ALe.refl _), (ALe.refl _), (ALe.refl _), (ALe.refl _), (ALe.refl _), (ALe.refl _), (ALe.refl _), (ALe.refl _), (ALe.refl _), trivial⟩, ⟨⟨rfl, .inr rfl⟩, ⟨rfl, .inr rfl⟩, ⟨rfl, .inr rfl⟩, ⟨rfl, .inr rfl⟩, ⟨rfl, .inr rfl⟩, ⟨rfl, .inr rfl⟩, ⟨rfl, .inr rfl⟩, ⟨rfl, .inl rfl⟩, ⟨rfl, .inl rfl⟩, ⟨rfl, .inr rfl⟩, trivial⟩, hx⟩
              · rintro τ13 Γ13 ⟨v37, v38, hl35, hl36, hw13, hd13, rfl⟩
                refine RunC.wl (τ' := [(1, AV.f32 a3), (6, AV.optr 0 1 0), (10, AV.optr 3 1 0), (11, AV.optr 4 1 0), (12, AV.oref 5 u10 0 L18.length), (13, AV.oref 6 u11 0 L19.length), (14, AV.i64 v37), (15, AV.i64 v38), (50, AV.i64 a4), (51, AV.i64 v20)]) (Γ' := [⟨1, some [AV.i64 0, AV.i64 0, AV.nilsl]⟩, ⟨1, some (L14.map AV.f32)⟩, ⟨1, some (L16.map AV.f32)⟩, ⟨1, some [AV.i64 r4, AV.i64 r5, AV.oref 1 1 0 r6.length]⟩, ⟨1, some [AV.i64 r7, AV.i64 r8, AV.oref 2 1 0 r9.length]⟩, ⟨u10, some (L18.map AV.i64)⟩, ⟨u11, some (L19.map AV.i64)⟩, ⟨u12, none⟩, ⟨u13, none⟩, ⟨0, none⟩]) hw13 hd13 ?_
                replace h10_ : i_CrossOf_k7 a3 r4 r5 r6 r7 r8 L14 L16 L18 L19 v20 v37 v38 = some y10_ := h10_
                unfold i_CrossOf_k7 at h10_
                refine RunC.seq ?_
                obtain ⟨r39, hf22, h10_⟩ := obind_some h10_
                refine RunC.regionW ?_
                refine ROps.d (r := AV.agg [AV.i64 r4, AV.i64 r5, AV.oref 1 1 0 r6.length]) (fs := []) (Γ' := [⟨1, some [AV.i64 0, AV.i64 0, AV.nilsl]⟩, ⟨1, some (L14.map AV.f32)⟩, ⟨1, some (L16.map AV.f32)⟩, ⟨1, some [AV.i64 r4, AV.i64 r5, AV.oref 1 1 0 r6.length]⟩, ⟨1, some [AV.i64 r7, AV.i64 r8, AV.oref 2 1 0 r9.length]⟩, ⟨u10, some (L18.map AV.i64)⟩, ⟨u11, some (L19.map AV.i64)⟩, ⟨u12, none⟩, ⟨u13, none⟩, ⟨0, none⟩]) rfl rfl rfl (TOp.loadAgg_o rfl agg27 siz27 rfl rfl rfl rfl) rfl ?_
                refine ROps.l (r := AV.i64 v37) rfl rfl rfl (LOp.move rfl rfl) ?_
                refine ROps.l (r := AV.i64 v38) rfl rfl rfl (LOp.move rfl rfl) ?_
                refine ROps.d (r := AV.f32 r39) (fs := []) (Γ' := [⟨1, some [AV.i64 0, AV.i64 0, AV.nilsl]⟩, ⟨1, some (L14.map AV.f32)⟩, ⟨1, some (L16.map AV.f32)⟩, ⟨1, some [AV.i64 r4, AV.i64 r5, AV.oref 1 1 0 r6.length]⟩, ⟨1, some [AV.i64 r7, AV.i64 r8, AV.oref 2 1 0 r9.length]⟩, ⟨u10, some (L18.map AV.i64)⟩, ⟨u11, some (L19.map AV.i64)⟩, ⟨u12, none⟩, ⟨u13, none⟩, ⟨0, none⟩]) rfl rfl rfl (TOp.callB (CallAs.func ent51 rfl rfl) (Bors.cons (Bor.agg (Bors.cons (Bor.pure rfl) (Bors.cons (Bor.pure rfl) (Bors.cons (Bor.own (f := AV.f32) (fun _ => rfl) rfl hl35) Bors.nil)))) (Bors.cons (Bor.pure rfl) (Bors.cons (Bor.pure rfl) Bors.nil))) rfl rfl (i_Matrix_at_ok r4 r5 L14 v37 v38 r39 hf22)) rfl ?_
                refine ROps.l (r := AV.f32 r39) rfl rfl rfl (LOp.assign rfl rfl) ?_
                refine ROps.nil ?_
                refine RunC.seq ?_
                refine RunC.seq ?_
                obtain ⟨r40, hf23, h10_⟩ := obind_some h10_
                rcases bsel_some h10_ with ⟨hc24, h10_⟩ | ⟨hc24, h10_⟩
                · refine RunC.regionW ?_
                  refine ROps.l (r := AV.f32 r39) rfl rfl rfl (LOp.move rfl rfl) ?_
                  refine ROps.d (r := AV.f32 r40) (fs := []) (Γ' := [⟨1, some [AV.i64 0, AV.i64 0, AV.nilsl]⟩, ⟨1, some (L14.map AV.f32)⟩, ⟨1, some (L16.map AV.f32)⟩, ⟨1, some [AV.i64 r4, AV.i64 r5, AV.oref 1 1 0 r6.length]⟩, ⟨1, some [AV.i64 r7, AV.i64 r8, AV.oref 2 1 0 r9.length]⟩, ⟨u10, some (L18.map AV.i64)⟩, ⟨u11, some (L19.map AV.i64)⟩, ⟨u12, none⟩, ⟨u13, none⟩, ⟨0, none⟩]) rfl rfl rfl (TOp.callB (CallAs.func ent50 rfl rfl) (Bors.cons (Bor.pure rfl) Bors.nil) rfl rfl (i_absolute_ok r39 r40 hf23)) rfl ?_
                  refine ROps.l (r := AV.f32 a3) rfl rfl rfl (LOp.move rfl rfl) ?_
                  refine ROps.l (r := AV.b true) rfl rfl rfl (LOp.eqb (LOp.fle rfl (OpF.tmp rfl) (OpF.tmp rfl)) hc24) ?_
                  refine ROps.nil ?_
                  refine RunC.cond_true rfl rfl ?_
                  refine RunC.exit ?_
                  cases Option.some.inj h10_
                  have hx := ho10 _ rfl
                  exact ⟨L16, L18, L19, u10, u11, u12, u13, hl36, ⟨(ALe.refl _), (ALe.refl _), (ALe.refl _), (ALe.refl _), trivial⟩, ⟨⟨rfl, .inr rfl⟩, ⟨rfl, .inl rfl⟩, ⟨rfl, .inr rfl⟩, ⟨rfl, .inl rfl⟩, ⟨rfl, .inr rfl⟩, ⟨rfl, .inr rfl⟩, ⟨rfl, .inr rfl⟩, ⟨rfl, .inl rfl⟩, ⟨rfl, .inl rfl⟩, ⟨rfl, .inr rfl⟩, trivial⟩, hx⟩
                · refine RunC.regionW ?_
                  refine ROps.l (r := AV.f32 r39) rfl rfl rfl (LOp.move rfl rfl) ?_
                  refine ROps.d (r := AV.f32 r40) (fs := []) (Γ' := [⟨1, some [AV.i64 0, AV.i64 0, AV.nilsl]⟩, ⟨1, some (L14.map AV.f32)⟩, ⟨1, some (L16.map AV.f32)⟩, ⟨1, some [AV.i64 r4, AV.i64 r5, AV.oref 1 1 0 r6.length]⟩, ⟨1, some [AV.i64 r7, AV.i64 r8, AV.oref 2 1 0 r9.length]⟩, ⟨u10, some (L18.map AV.i64)⟩, ⟨u11, some (L19.map AV.i64)⟩, ⟨u12, none⟩, ⟨u13, none⟩, ⟨0, none⟩]) rfl rfl rfl (TOp.callB (CallAs.func ent50 rfl rfl) (Bors.cons (Bor.pure rfl) Bors.nil) rfl rfl (i_absolute_ok r39 r40 hf23)) rfl ?_
                  refine ROps.l (r := AV.f32 a3) rfl rfl rfl (LOp.move rfl rfl) ?_
                  refine ROps.l (r := AV.b false) rfl rfl rfl (LOp.eqb (LOp.fle rfl (OpF.tmp rfl) (OpF.tmp rfl)) hc24) ?_
                  refine ROps.nil ?_
                  refine RunC.cond_false rfl rfl ?_
                  refine RunC.skip ?_
                  refine RunC.seq ?_
                  obtain ⟨r41, hf25, h10_⟩ := obind_some h10_
                  obtain ⟨r42, hf26, h10_⟩ := obind_some h10_
                  refine RunC.region_draw (Γ' := [⟨1, some [AV.i64 0, AV.i64 0, AV.nilsl]⟩, ⟨1, some (L14.map AV.f32)⟩, ⟨1, some (L16.map AV.f32)⟩, ⟨1, some [AV.i64 r4, AV.i64 r5, AV.oref 1 1 0 r6.length]⟩, ⟨1, some [AV.i64 r7, AV.i64 r8, AV.oref 2 1 0 r9.length]⟩, ⟨u10, some (L18.map AV.i64)⟩, ⟨u11, some (L19.map AV.i64)⟩, ⟨(u12 + 1), some (r41.map AV.f32)⟩, ⟨(u13 + 1), some (r42.map AV.f32)⟩, ⟨0, none⟩]) 8 mixed 
                    (TR.d (r := AV.agg [AV.i64 r4, AV.i64 r5, AV.oref 1 1 0 r6.length]) (fs := []) rfl rfl (TOp.loadAgg_o rfl agg27 siz27 rfl rfl rfl rfl) <|
                    (TR.l (r := AV.i64 v37) rfl rfl (LOp.move rfl rfl) <|
                    (TR.d (r := AV.oref 7 (u12 + 1) 0 r41.length) (fs := [(7, (r41.map AV.f32))]) rfl rfl (TOp.eqr (TOp.callBN (ls := [(r41.map AV.f32)]) [7] (CallAs.func ent52 rfl rfl) (Bors.cons (Bor.agg (Bors.cons (Bor.pure rfl) (Bors.cons (Bor.pure rfl) (Bors.cons (Bor.own (f := AV.f32) (fun _ => rfl) rfl hl35) Bors.nil)))) (Bors.cons (Bor.pure rfl) Bors.nil)) rfl (i_Matrix_row_ok r4 r5 L14 v37 r41 hf25) (and_all (lts0_map (f := AV.f32) (fun _ => rfl) _) rfl) (and_all (noss_map (f := AV.f32) (fun _ => rfl) _) rfl) rfl (by decide) (ns_of ⟨⟨_, rfl⟩, trivial⟩)) (by simp [AV.ren, AV.rens, sigma, newNames])) <|
                    (TR.d (r := AV.agg [AV.i64 r4, AV.i64 r5, AV.oref 1 1 0 r6.length]) (fs := []) rfl rfl (TOp.loadAgg_o rfl agg27 siz27 rfl rfl rfl rfl) <|
                    (TR.l (r := AV.i64 v38) rfl rfl (LOp.move rfl rfl) <|
                    (TR.d (r := AV.oref 8 (u13 + 1) 0 r42.length) (fs := [(8, (r42.map AV.f32))]) rfl rfl (TOp.eqr (TOp.callBN (ls := [(r42.map AV.f32)]) [8] (CallAs.func ent53 rfl rfl) (Bors.cons (Bor.agg (Bors.cons (Bor.pure rfl) (Bors.cons (Bor.pure rfl) (Bors.cons (Bor.own (f := AV.f32) (fun _ => rfl) rfl hl35) Bors.nil)))) (Bors.cons (Bor.pure rfl) Bors.nil)) rfl (i_Matrix_column_ok r4 r5 L14 v38 r42 hf26) (and_all (lts0_map (f := AV.f32) (fun _ => rfl) _) rfl) (and_all (noss_map (f := AV.f32) (fun _ => rfl) _) rfl) rfl (by decide) (ns_of ⟨⟨_, rfl⟩, trivial⟩)) (by simp [AV.ren, AV.rens, sigma, newNames])) <|
                    (TR.l (r := AV.oref 7 (u12 + 1) 0 r41.length) rfl rfl (LOp.assign rfl rfl) <|
                    (TR.l (r := AV.oref 8 (u13 + 1) 0 r42.length) rfl rfl (LOp.assign rfl rfl) <|
                    TR.nil)))))))) rfl (by kernel_rfl) rfl (fills_of (by show List.Nodup [7, 8]; decide) ⟨⟨_, rfl⟩, ⟨_, rfl⟩, trivial⟩) rfl ?_
                  iterate 8 refine ROps.dropS ?_
                  refine ROps.drop0 ?_
                  refine ROps.nil ?_
                  refine RunC.seq ?_
                  refine RunC.seq ?_
                  refine RunC.regionW ?_
                  refine ROps.l (r := AV.optr 3 1 2) rfl rfl rfl (LOp.fao und27 rfl siz22 rfl rfl rfl) ?_
                  refine ROps.d (r := AV.oref 1 1 0 r6.length) (fs := []) (Γ' := [⟨1, some [AV.i64 0, AV.i64 0, AV.nilsl]⟩, ⟨1, some (L14.map AV.f32)⟩, ⟨1, some (L16.map AV.f32)⟩, ⟨1, some [AV.i64 r4, AV.i64 r5, AV.oref 1 1 0 r6.length]⟩, ⟨1, some [AV.i64 r7, AV.i64 r8, AV.oref 2 1 0 r9.length]⟩, ⟨u10, some (L18.map AV.i64)⟩, ⟨u11, some (L19.map AV.i64)⟩, ⟨(u12 + 1), some (r41.map AV.f32)⟩, ⟨(u13 + 1), some (r42.map AV.f32)⟩, ⟨0, none⟩]) rfl rfl rfl (TOp.load1_o rfl rfl agg22 rfl rfl) rfl ?_
                  refine ROps.l (r := AV.i64 ((r6.length : Nat) : Int)) rfl rfl rfl (LOp.len_oref und22 rfl rfl) ?_
                  refine ROps.l (r := AV.i64 0) rfl rfl rfl (LOp.move rfl rfl) ?_
                  refine ROps.nil ?_
                  refine RunC.wl (τ' := [(1, AV.f32 a3), (6, AV.optr 0 1 0), (10, AV.optr 3 1 0), (11, AV.optr 4 1 0), (12, AV.oref 5 u10 0 L18.length), (13, AV.oref 6 u11 0 L19.length), (14, AV.i64 v37), (15, AV.i64 v38), (18, AV.f32 r39), (19, AV.oref 7 (u12 + 1) 0 r41.length), (20, AV.oref 8 (u13 + 1) 0 r42.length), (50, AV.i64 a4), (51, AV.i64 v20), (94, AV.i64 ((r6.length : Nat) : Int)), (95, AV.i64 0)]) (Γ' := [⟨1, some [AV.i64 0, AV.i64 0, AV.nilsl]⟩, ⟨1, some (L14.map AV.f32)⟩, ⟨1, some (L16.map AV.f32)⟩, ⟨1, some [AV.i64 r4, AV.i64 r5, AV.oref 1 1 0 r6.length]⟩, ⟨1, some [AV.i64 r7, AV.i64 r8, AV.oref 2 1 0 r9.length]⟩, ⟨u10, some (L18.map AV.i64)⟩, ⟨u11, some (L19.map AV.i64)⟩, ⟨(u12 + 1), some (r41.map AV.f32)⟩, ⟨(u13 + 1), some (r42.map AV.f32)⟩, ⟨0, none⟩]) ⟨(ALe.refl _), (ALe.refl _), (ALe.refl _), (ALe.refl _), (ALe.refl _), (ALe.refl _), (ALe.refl _), (ALe.refl _), (ALe.refl _), (ALe.refl _), (ALe.refl _), (ALe.refl _), (ALe.refl _), (ALe.refl _), (ALe.refl _), trivial⟩ ⟨⟨rfl, .inr rfl⟩, ⟨rfl, .inr rfl⟩, ⟨rfl, .inr rfl⟩, ⟨rfl, .inr rfl⟩, ⟨rfl, .inr rfl⟩, ⟨rfl, .inr rfl⟩, ⟨rfl, .inr rfl⟩, ⟨rfl, .inr rfl⟩, ⟨rfl, .inr rfl⟩, ⟨rfl, .inr rfl⟩, trivial⟩ ?_
                  obtain ⟨z14, hz_14, h10_⟩ := obind_some h10_
                  refine RunC.cutN (fun τ Γ => ∃ (L61 : List F) (L63 : List F), L61.length = r6.length ∧ L63.length = r9.length ∧ WeakLe τ [(1, AV.f32 a3), (6, AV.optr 0 1 0), (10, AV.optr 3 1 0), (11, AV.optr 4 1 0), (12, AV.oref 5 u10 0 L18.length), (13, AV.oref 6 u11 0 L19.length), (14, AV.i64 v37), (15, AV.i64 v38), (50, AV.i64 a4), (51, AV.i64 v20)] ∧ DeadLe Γ [⟨1, some [AV.i64 0, AV.i64 0, AV.nilsl]⟩, ⟨1, some (L61.map AV.f32)⟩, ⟨1, some (L63.map AV.f32)⟩, ⟨1, some [AV.i64 r4, AV.i64 r5, AV.oref 1 1 0 r6.length]⟩, ⟨1, some [AV.i64 r7, AV.i64 r8, AV.oref 2 1 0 r9.length]⟩, ⟨u10, some (L18.map AV.i64)⟩, ⟨u11, some (L19.map AV.i64)⟩, ⟨(u12 + 1), none⟩, ⟨(u13 + 1), none⟩, ⟨0, none⟩] ∧ z14 = .inl (L61, L63)) ?_ ?_
                  · refine RunC.block (RunC.loop (RunL.loopM (x := z14) (i_CrossOf_s8 r5 r6 r39 r41 r42) (fun (s : (List F) × (List F) × Int) τ Γ => s.1.length = r6.length ∧ s.2.1.length = r9.length ∧ WeakLe τ [(1, AV.f32 a3), (6, AV.optr 0 1 0), (10, AV.optr 3 1 0), (11, AV.optr 4 1 0), (12, AV.oref 5 u10 0 L18.length), (13, AV.oref 6 u11 0 L19.length), (14, AV.i64 v37), (15, AV.i64 v38), (18, AV.f32 r39), (19, AV.oref 7 (u12 + 1) 0 r41.length), (20, AV.oref 8 (u13 + 1) 0 r42.length), (50, AV.i64 a4), (51, AV.i64 v20), (94, AV.i64 ((r6.length : Nat) : Int)), (95, AV.i64 s.2.2)] ∧ DeadLe Γ [⟨1, some [AV.i64 0, AV.i64 0, AV.nilsl]⟩, ⟨1, some (s.1.map AV.f32)⟩, ⟨1, some (s.2.1.map AV.f32)⟩, ⟨1, some [AV.i64 r4, AV.i64 r5, AV.oref 1 1 0 r6.length]⟩, ⟨1, some [AV.i64 r7, AV.i64 r8, AV.oref 2 1 0 r9.length]⟩, ⟨u10, some (L18.map AV.i64)⟩, ⟨u11, some (L19.map AV.i64)⟩, ⟨(u12 + 1), some (r41.map AV.f32)⟩, ⟨(u13 + 1), some (r42.map AV.f32)⟩, ⟨0, none⟩]) ?_ _ _ _ hz_14 ⟨hl35, hl36, ⟨(ALe.refl _), (ALe.refl _), (ALe.refl _), (ALe.refl _), (ALe.refl _), (ALe.refl _), (ALe.refl _), (ALe.refl _), (ALe.refl _), (ALe.refl _), (ALe.refl _), (ALe.refl _), (ALe.refl _), (ALe.refl _), (ALe.refl _), trivial⟩, ⟨⟨rfl, .inr rfl⟩, ⟨rfl, .inr rfl⟩, ⟨rfl, .inr rfl⟩, ⟨rfl, .inr rfl⟩, ⟨rfl, .inr rfl⟩, ⟨rfl, .inr rfl⟩, ⟨rfl, .inr rfl⟩, ⟨rfl, .inr rfl⟩, ⟨rfl, .inr rfl⟩, ⟨rfl, .inr rfl⟩, trivial⟩⟩))
                    rintro ⟨L43, L45, v47⟩ τ14 Γ14 y14_ ⟨hl44, hl46, hw14, hd14⟩ h14_ ho14 hr14
                    refine RunC.wl (τ' := [(1, AV.f32 a3), (6, AV.optr 0 1 0), (10, AV.optr 3 1 0), (11, AV.optr 4 1 0), (12, AV.oref 5 u10 0 L18.length), (13, AV.oref 6 u11 0 L19.length), (14, AV.i64 v37), (15, AV.i64 v38), (18, AV.f32 r39), (19, AV.oref 7 (u12 + 1) 0 r41.length), (20, AV.oref 8 (u13 + 1) 0 r42.length), (50, AV.i64 a4), (51, AV.i64 v20), (94, AV.i64 ((r6.length : Nat) : Int)), (95, AV.i64 v47)]) (Γ' := [⟨1, some [AV.i64 0, AV.i64 0, AV.nilsl]⟩, ⟨1, some (L43.map AV.f32)⟩, ⟨1, some (L45.map AV.f32)⟩, ⟨1, some [AV.i64 r4, AV.i64 r5, AV.oref 1 1 0 r6.length]⟩, ⟨1, some [AV.i64 r7, AV.i64 r8, AV.oref 2 1 0 r9.length]⟩, ⟨u10, some (L18.map AV.i64)⟩, ⟨u11, some (L19.map AV.i64)⟩, ⟨(u12 + 1), some (r41.map AV.f32)⟩, ⟨(u13 + 1), some (r42.map AV.f32)⟩, ⟨0, none⟩]) hw14 hd14 ?_
                    replace hl44 : L43.length = r6.length := hl44
                    replace hl46 : L45.length = r9.length := hl46
                    replace h14_ : i_CrossOf_b8 r5 r6 r39 r41 r42 L43 L45 v47 = some y14_ := h14_
                    unfold i_CrossOf_b8 at h14_
                    refine RunC.seq ?_
                    rcases bsel_some h14_ with ⟨hc27, h14_⟩ | ⟨hc27, h14_⟩
                    · refine RunC.regionW ?_
                      refine ROps.l (r := AV.b true) rfl rfl rfl (LOp.eqb (LOp.lss rfl rfl rfl) hc27) ?_
                      refine ROps.nil ?_
                      refine RunC.seq ?_
                      refine RunC.cond_true rfl rfl ?_
                      refine RunC.skip ?_
                      refine RunC.seq ?_
                      refine RunC.block ?_
                      refine RunC.seq ?_
                      refine RunC.regionW ?_
                      refine ROps.l (r := AV.i64 v47) rfl rfl rfl (LOp.move rfl rfl) ?_
                      refine ROps.l (r := AV.i64 v47) rfl rfl rfl (LOp.assign rfl rfl) ?_
                      refine ROps.nil ?_
                      refine RunC.seq ?_
                      obtain ⟨hz28, h14_⟩ := need_some h14_
                      obtain ⟨x48, hx29, h14_⟩ := olet_some h14_
                      obtain ⟨e49, he30, h14_⟩ := obind_some h14_
                      obtain ⟨x50, hx31, h14_⟩ := olet_some h14_
                      obtain ⟨hz32, h14_⟩ := need_some h14_
                      obtain ⟨x51, hx33, h14_⟩ := olet_some h14_
                      obtain ⟨e52, he34, h14_⟩ := obind_some h14_
                      obtain ⟨r53, hf35, h14_⟩ := obind_some h14_
                      refine RunC.region_draw (Γ' := [⟨1, some [AV.i64 0, AV.i64 0, AV.nilsl]⟩, ⟨1, some (L43.map AV.f32)⟩, ⟨1, some (L45.map AV.f32)⟩, ⟨1, some [AV.i64 r4, AV.i64 r5, AV.oref 1 1 0 r6.length]⟩, ⟨1, some [AV.i64 r7, AV.i64 r8, AV.oref 2 1 0 r9.length]⟩, ⟨u10, some (L18.map AV.i64)⟩, ⟨u11, some (L19.map AV.i64)⟩, ⟨(u12 + 1), some (r41.map AV.f32)⟩, ⟨(u13 + 1), some (r42.map AV.f32)⟩, ⟨0, none⟩]) 18 mixed 
                        (TR.l (r := AV.oref 8 (u13 + 1) 0 r42.length) rfl rfl (LOp.move rfl rfl) <|
                        (TR.l (r := AV.i64 v47) rfl rfl (LOp.move rfl rfl) <|
                        (TR.l (r := AV.optr 3 1 1) rfl rfl (LOp.fao und27 rfl siz2 rfl rfl rfl) <|
                        (TR.d (r := AV.i64 r5) (fs := []) rfl rfl (TOp.load1_o rfl rfl agg2 rfl rfl) <|
                        (TR.l (r := AV.i64 x48) rfl rfl (LOp.eqr (LOp.quo rfl rfl rfl (nz hz28)) (congrArg (AV.ik .i64) hx29)) <|
                        (TR.d (r := AV.optr 8 (u13 + 1) x48.toNat) (fs := []) rfl rfl (TOp.ixo und22 siz25 rfl rfl rfl (at_in he30 rfl) rfl) <|
                        (TR.d (r := AV.f32 e49) (fs := []) rfl rfl (TOp.load1_o rfl (at_cell he30) agg25 rfl rfl) <|
                        (TR.l (r := AV.f32 r39) rfl rfl (LOp.move rfl rfl) <|
                        (TR.d (r := AV.f32 x50) (fs := []) rfl rfl (TOp.eqr (TOp.fop (.inr (.inr (.inr rfl))) rfl (OpF.tmp rfl) (OpF.tmp rfl)) (congrArg (AV.f .f32) hx31)) <|
                        (TR.l (r := AV.oref 7 (u12 + 1) 0 r41.length) rfl rfl (LOp.move rfl rfl) <|
                        (TR.l (r := AV.i64 v47) rfl rfl (LOp.move rfl rfl) <|
                        (TR.l (r := AV.optr 3 1 1) rfl rfl (LOp.fao und27 rfl siz2 rfl rfl rfl) <|
                        (TR.d (r := AV.i64 r5) (fs := []) rfl rfl (TOp.load1_o rfl rfl agg2 rfl rfl) <|
                        (TR.l (r := AV.i64 x51) rfl rfl (LOp.eqr (LOp.rem rfl rfl rfl (nz hz32)) (congrArg (AV.ik .i64) hx33)) <|
                        (TR.d (r := AV.optr 7 (u12 + 1) x51.toNat) (fs := []) rfl rfl (TOp.ixo und22 siz25 rfl rfl rfl (at_in he34 rfl) rfl) <|
                        (TR.d (r := AV.f32 e52) (fs := []) rfl rfl (TOp.load1_o rfl (at_cell he34) agg25 rfl rfl) <|
                        (TR.d (r := AV.f32 r53) (fs := []) rfl rfl (TOp.callB (CallAs.func ent54 rfl rfl) (Bors.cons (Bor.pure rfl) (Bors.cons (Bor.pure rfl) Bors.nil)) rfl rfl (i_mul_ok x50 e52 r53 hf35)) <|
                        (TR.l (r := AV.f32 r53) rfl rfl (LOp.assign rfl rfl) <|
                        TR.nil)))))))))))))))))) rfl (by kernel_rfl) rfl fills_nil rfl ?_
                      iterate 18 refine ROps.dropS ?_
                      refine ROps.drop0 ?_
                      refine ROps.nil ?_
                      refine RunC.wl (τ' := [(1, AV.f32 a3), (6, AV.optr 0 1 0), (10, AV.optr 3 1 0), (11, AV.optr 4 1 0), (12, AV.oref 5 u10 0 L18.length), (13, AV.oref 6 u11 0 L19.length), (14, AV.i64 v37), (15, AV.i64 v38), (18, AV.f32 r39), (19, AV.oref 7 (u12 + 1) 0 r41.length), (20, AV.oref 8 (u13 + 1) 0 r42.length), (21, AV.i64 v47), (22, AV.f32 r53), (50, AV.i64 a4), (51, AV.i64 v20), (94, AV.i64 ((r6.length : Nat) : Int)), (95, AV.i64 v47)]) (Γ' := [⟨1, some [AV.i64 0, AV.i64 0, AV.nilsl]⟩, ⟨1, some (L43.map AV.f32)⟩, ⟨1, some (L45.map AV.f32)⟩, ⟨1, some [AV.i64 r4, AV.i64 r5, AV.oref 1 1 0 r6.length]⟩, ⟨1, some [AV.i64 r7, AV.i64 r8, AV.oref 2 1 0 r9.length]⟩, ⟨u10, some (L18.map AV.i64)⟩, ⟨u11, some (L19.map AV.i64)⟩, ⟨(u12 + 1), some (r41.map AV.f32)⟩, ⟨(u13 + 1), some (r42.map AV.f32)⟩, ⟨0, none⟩]) ⟨(ALe.refl _), (ALe.refl _), (ALe.refl _), (ALe.refl _), (ALe.refl _), (ALe.refl _), (ALe.refl _), (ALe.refl _), (ALe.refl _), (ALe.refl _), (ALe.refl _), (ALe.refl _), (ALe.refl _), (ALe.refl _), (ALe.refl _), (ALe.refl _), (ALe.refl _), trivial⟩ ⟨⟨rfl, .inr rfl⟩, ⟨rfl, .inr rfl⟩, ⟨rfl, .inr rfl⟩, ⟨rfl, .inr rfl⟩, ⟨rfl, .inr rfl⟩, ⟨rfl, .inr rfl⟩, ⟨rfl, .inr rfl⟩, ⟨rfl, .inr rfl⟩, ⟨rfl, .inr rfl⟩, ⟨rfl, .inr rfl⟩, trivial⟩ ?_
                      refine RunC.seq ?_
                      obtain ⟨e54, he36, h14_⟩ := obind_some h14_
                      obtain ⟨x55, hx37, h14_⟩ := olet_some h14_
                      obtain ⟨L56, he38, h14_⟩ := obind_some h14_
                      refine RunC.regionW ?_
                      refine ROps.l (r := AV.optr 4 1 2) rfl rfl rfl (LOp.fao und27 rfl siz22 rfl rfl rfl) ?_
                      refine ROps.d (r := AV.oref 2 1 0 r9.length) (fs := []) (Γ' := [⟨1, some [AV.i64 0, AV.i64 0, AV.nilsl]⟩, ⟨1, some (L43.map AV.f32)⟩, ⟨1, some (L45.map AV.f32)⟩, ⟨1, some [AV.i64 r4, AV.i64 r5, AV.oref 1 1 0 r6.length]⟩, ⟨1, some [AV.i64 r7, AV.i64 r8, AV.oref 2 1 0 r9.length]⟩, ⟨u10, some (L18.map AV.i64)⟩, ⟨u11, some (L19.map AV.i64)⟩, ⟨(u12 + 1), some (r41.map AV.f32)⟩, ⟨(u13 + 1), some (r42.map AV.f32)⟩, ⟨0, none⟩]) rfl rfl rfl (TOp.load1_o rfl rfl agg22 rfl rfl) rfl ?_
                      refine ROps.l (r := AV.i64 v47) rfl rfl rfl (LOp.move rfl rfl) ?_
                      refine ROps.d (r := AV.optr 2 1 v47.toNat) (fs := []) (Γ' := [⟨1, some [AV.i64 0, AV.i64 0, AV.nilsl]⟩, ⟨1, some (L43.map AV.f32)⟩, ⟨1, some (L45.map AV.f32)⟩, ⟨1, some [AV.i64 r4, AV.i64 r5, AV.oref 1 1 0 r6.length]⟩, ⟨1, some [AV.i64 r7, AV.i64 r8, AV.oref 2 1 0 r9.length]⟩, ⟨u10, some (L18.map AV.i64)⟩, ⟨u11, some (L19.map AV.i64)⟩, ⟨(u12 + 1), some (r41.map AV.f32)⟩, ⟨(u13 + 1), some (r42.map AV.f32)⟩, ⟨0, none⟩]) rfl rfl rfl (TOp.ixo und22 siz25 rfl rfl rfl (at_in he36 hl46) rfl) rfl ?_
                      refine ROps.d (r := AV.f32 e54) (fs := []) (Γ' := [⟨1, some [AV.i64 0, AV.i64 0, AV.nilsl]⟩, ⟨1, some (L43.map AV.f32)⟩, ⟨1, some (L45.map AV.f32)⟩, ⟨1, some [AV.i64 r4, AV.i64 r5, AV.oref 1 1 0 r6.length]⟩, ⟨1, some [AV.i64 r7, AV.i64 r8, AV.oref 2 1 0 r9.length]⟩, ⟨u10, some (L18.map AV.i64)⟩, ⟨u11, some (L19.map AV.i64)⟩, ⟨(u12 + 1), some (r41.map AV.f32)⟩, ⟨(u13 + 1), some (r42.map AV.f32)⟩, ⟨0, none⟩]) rfl rfl rfl (TOp.load1_o rfl (at_cell he36) agg25 rfl rfl) rfl ?_
                      refine ROps.l (r := AV.f32 r53) rfl rfl rfl (LOp.move rfl rfl) ?_
                      refine ROps.d (r := AV.f32 x55) (fs := []) (Γ' := [⟨1, some [AV.i64 0, AV.i64 0, AV.nilsl]⟩, ⟨1, some (L43.map AV.f32)⟩, ⟨1, some (L45.map AV.f32)⟩, ⟨1, some [AV.i64 r4, AV.i64 r5, AV.oref 1 1 0 r6.length]⟩, ⟨1, some [AV.i64 r7, AV.i64 r8, AV.oref 2 1 0 r9.length]⟩, ⟨u10, some (L18.map AV.i64)⟩, ⟨u11, some (L19.map AV.i64)⟩, ⟨(u12 + 1), some (r41.map AV.f32)⟩, ⟨(u13 + 1), some (r42.map AV.f32)⟩, ⟨0, none⟩]) rfl rfl rfl (TOp.eqr (TOp.fop (.inl rfl) rfl (OpF.tmp rfl) (OpF.tmp rfl)) (congrArg (AV.f .f32) hx37)) rfl ?_
                      refine ROps.d (r := AV.optr 2 1 v47.toNat) (fs := []) (Γ' := [⟨1, some [AV.i64 0, AV.i64 0, AV.nilsl]⟩, ⟨1, some (L43.map AV.f32)⟩, ⟨1, some (L45.map AV.f32)⟩, ⟨1, some [AV.i64 r4, AV.i64 r5, AV.oref 1 1 0 r6.length]⟩, ⟨1, some [AV.i64 r7, AV.i64 r8, AV.oref 2 1 0 r9.length]⟩, ⟨u10, some (L18.map AV.i64)⟩, ⟨u11, some (L19.map AV.i64)⟩, ⟨(u12 + 1), some (r41.map AV.f32)⟩, ⟨(u13 + 1), some (r42.map AV.f32)⟩, ⟨0, none⟩]) rfl rfl rfl (TOp.ixo und22 siz25 rfl rfl rfl (set_in he38 hl46) rfl) rfl ?_
                      refine ROps.st (f := AV.f32) (i := v47) (Γ' := [⟨1, some [AV.i64 0, AV.i64 0, AV.nilsl]⟩, ⟨1, some (L43.map AV.f32)⟩, ⟨1, some (L56.map AV.f32)⟩, ⟨1, some [AV.i64 r4, AV.i64 r5, AV.oref 1 1 0 r6.length]⟩, ⟨1, some [AV.i64 r7, AV.i64 r8, AV.oref 2 1 0 r9.length]⟩, ⟨u10, some (L18.map AV.i64)⟩, ⟨u11, some (L19.map AV.i64)⟩, ⟨(u12 + 1), some (r41.map AV.f32)⟩, ⟨(u13 + 1), some (r42.map AV.f32)⟩, ⟨0, none⟩]) rfl siz25 rfl rfl rfl (ALe.refl _) rfl rfl rfl he38 rfl ?_
                      refine ROps.nil ?_
                      obtain ⟨e57, he39, h14_⟩ := obind_some h14_
                      obtain ⟨x58, hx40, h14_⟩ := olet_some h14_
                      obtain ⟨L59, he41, h14_⟩ := obind_some h14_
                      refine RunC.regionW ?_
                      refine ROps.l (r := AV.optr 3 1 2) rfl rfl rfl (LOp.fao und27 rfl siz22 rfl rfl rfl) ?_
                      refine ROps.d (r := AV.oref 1 1 0 r6.length) (fs := []) (Γ' := [⟨1, some [AV.i64 0, AV.i64 0, AV.nilsl]⟩, ⟨1, some (L43.map AV.f32)⟩, ⟨1, some (L56.map AV.f32)⟩, ⟨1, some [AV.i64 r4, AV.i64 r5, AV.oref 1 1 0 r6.length]⟩, ⟨1, some [AV.i64 r7, AV.i64 r8, AV.oref 2 1 0 r9.length]⟩, ⟨u10, some (L18.map AV.i64)⟩, ⟨u11, some (L19.map AV.i64)⟩, ⟨(u12 + 1), some (r41.map AV.f32)⟩, ⟨(u13 + 1), some (r42.map AV.f32)⟩, ⟨0, none⟩]) rfl rfl rfl (TOp.load1_o rfl rfl agg22 rfl rfl) rfl ?_
                      refine ROps.l (r := AV.i64 v47) rfl rfl rfl (LOp.move rfl rfl) ?_
                      refine ROps.d (r := AV.optr 1 1 v47.toNat) (fs := []) (Γ' := [⟨1, some [AV.i64 0, AV.i64 0, AV.nilsl]⟩, ⟨1, some (L43.map AV.f32)⟩, ⟨1, some (L56.map AV.f32)⟩, ⟨1, some [AV.i64 r4, AV.i64 r5, AV.oref 1 1 0 r6.length]⟩, ⟨1, some [AV.i64 r7, AV.i64 r8, AV.oref 2 1 0 r9.length]⟩, ⟨u10, some (L18.map AV.i64)⟩, ⟨u11, some (L19.map AV.i64)⟩, ⟨(u12 + 1), some (r41.map AV.f32)⟩, ⟨(u13 + 1), some (r42.map AV.f32)⟩, ⟨0, none⟩]) rfl rfl rfl (TOp.ixo und22 siz25 rfl rfl rfl (at_in he39 hl44) rfl) rfl ?_
                      refine ROps.d (r := AV.f32 e57) (fs := []) (Γ' := [⟨1, some [AV.i64 0, AV.i64 0, AV.nilsl]⟩, ⟨1, some (L43.map AV.f32)⟩, ⟨1, some (L56.map AV.f32)⟩, ⟨1, some [AV.i64 r4, AV.i64 r5, AV.oref 1 1 0 r6.length]⟩, ⟨1, some [AV.i64 r7, AV.i64 r8, AV.oref 2 1 0 r9.length]⟩, ⟨u10, some (L18.map AV.i64)⟩, ⟨u11, some (L19.map AV.i64)⟩, ⟨(u12 + 1), some (r41.map AV.f32)⟩, ⟨(u13 + 1), some (r42.map AV.f32)⟩, ⟨0, none⟩]) rfl rfl rfl (TOp.load1_o rfl (at_cell he39) agg25 rfl rfl) rfl ?_
                      refine ROps.l (r := AV.f32 r53) rfl rfl rfl (LOp.move rfl rfl) ?_
                      refine ROps.d (r := AV.f32 x58) (fs := []) (Γ' := [⟨1, some [AV.i64 0, AV.i64 0, AV.nilsl]⟩, ⟨1, some (L43.map AV.f32)⟩, ⟨1, some (L56.map AV.f32)⟩, ⟨1, some [AV.i64 r4, AV.i64 r5, AV.oref 1 1 0 r6.length]⟩, ⟨1, some [AV.i64 r7, AV.i64 r8, AV.oref 2 1 0 r9.length]⟩, ⟨u10, some (L18.map AV.i64)⟩, ⟨u11, some (L19.map AV.i64)⟩, ⟨(u12 + 1), some (r41.map AV.f32)⟩, ⟨(u13 + 1), some (r42.map AV.f32)⟩, ⟨0, none⟩]) rfl rfl rfl (TOp.eqr (TOp.fop (.inr (.inl rfl)) rfl (OpF.tmp rfl) (OpF.tmp rfl)) (congrArg (AV.f .f32) hx40)) rfl ?_
                      refine ROps.d (r := AV.optr 1 1 v47.toNat) (fs := []) (Γ' := [⟨1, some [AV.i64 0, AV.i64 0, AV.nilsl]⟩, ⟨1, some (L43.map AV.f32)⟩, ⟨1, some (L56.map AV.f32)⟩, ⟨1, some [AV.i64 r4, AV.i64 r5, AV.oref 1 1 0 r6.length]⟩, ⟨1, some [AV.i64 r7, AV.i64 r8, AV.oref 2 1 0 r9.length]⟩, ⟨u10, some (L18.map AV.i64)⟩, ⟨u11, some (L19.map AV.i64)⟩, ⟨(u12 + 1), some (r41.map AV.f32)⟩, ⟨(u13 + 1), some (r42.map AV.f32)⟩, ⟨0, none⟩]) rfl rfl rfl (TOp.ixo und22 siz25 rfl rfl rfl (set_in he41 hl44) rfl) rfl ?_
                      refine ROps.st (f := AV.f32) (i := v47) (Γ' := [⟨1, some [AV.i64 0, AV.i64 0, AV.nilsl]⟩, ⟨1, some (L59.map AV.f32)⟩, ⟨1, some (L56.map AV.f32)⟩, ⟨1, some [AV.i64 r4, AV.i64 r5, AV.oref 1 1 0 r6.length]⟩, ⟨1, some [AV.i64 r7, AV.i64 r8, AV.oref 2 1 0 r9.length]⟩, ⟨u10, some (L18.map AV.i64)⟩, ⟨u11, some (L19.map AV.i64)⟩, ⟨(u12 + 1), some (r41.map AV.f32)⟩, ⟨(u13 + 1), some (r42.map AV.f32)⟩, ⟨0, none⟩]) rfl siz25 rfl rfl rfl (ALe.refl _) rfl rfl rfl he41 rfl ?_
                      refine ROps.nil ?_
                      refine RunC.wl (τ' := [(1, AV.f32 a3), (6, AV.optr 0 1 0), (10, AV.optr 3 1 0), (11, AV.optr 4 1 0), (12, AV.oref 5 u10 0 L18.length), (13, AV.oref 6 u11 0 L19.length), (14, AV.i64 v37), (15, AV.i64 v38), (18, AV.f32 r39), (19, AV.oref 7 (u12 + 1) 0 r41.length), (20, AV.oref 8 (u13 + 1) 0 r42.length), (50, AV.i64 a4), (51, AV.i64 v20), (94, AV.i64 ((r6.length : Nat) : Int)), (95, AV.i64 v47)]) (Γ' := [⟨1, some [AV.i64 0, AV.i64 0, AV.nilsl]⟩, ⟨1, some (L59.map AV.f32)⟩, ⟨1, some (L56.map AV.f32)⟩, ⟨1, some [AV.i64 r4, AV.i64 r5, AV.oref 1 1 0 r6.length]⟩, ⟨1, some [AV.i64 r7, AV.i64 r8, AV.oref 2 1 0 r9.length]⟩, ⟨u10, some (L18.map AV.i64)⟩, ⟨u11, some (L19.map AV.i64)⟩, ⟨(u12 + 1), some (r41.map AV.f32)⟩, ⟨(u13 + 1), some (r42.map AV.f32)⟩, ⟨0, none⟩]) ⟨(ALe.refl _), (ALe.refl _), (ALe.refl _), (ALe.refl _), (ALe.refl _), (ALe.refl _), (ALe.refl _), (ALe.refl _), (ALe.refl _), (ALe.refl _), (ALe.refl _), (ALe.refl _), (ALe.refl _), (ALe.refl _), (ALe.refl _), trivial⟩ ⟨⟨rfl, .inr rfl⟩, ⟨rfl, .inr rfl⟩, ⟨rfl, .inr rfl⟩, ⟨rfl, .inr rfl⟩, ⟨rfl, .inr rfl⟩, ⟨rfl, .inr rfl⟩, ⟨rfl, .inr rfl⟩, ⟨rfl, .inr rfl⟩, ⟨rfl, .inr rfl⟩, ⟨rfl, .inr rfl⟩, trivial⟩ ?_
                      obtain ⟨x60, hx42, h14_⟩ := olet_some h14_
                      refine RunC.regionW ?_
                      refine ROps.l (r := AV.i64 x60) rfl rfl rfl (LOp.eqr (LOp.add rfl rfl rfl) (congrArg (AV.ik .i64) hx42)) ?_
                      refine ROps.l (r := AV.i64 x60) rfl rfl rfl (LOp.move rfl rfl) ?_
                      refine ROps.nil ?_
                      cases Option.some.inj h14_
                      exact ⟨_, rfl, ((setAt?_len he41).trans hl44), ((setAt?_len he38).trans hl46), ⟨(ALe.refl _), (ALe.refl _), (ALe.refl _), (ALe.refl _), (ALe.refl _), (ALe.refl _), (ALe.refl _), (ALe.refl _), (ALe.refl _), (ALe.refl _), (ALe.refl _), (ALe.refl _), (ALe.refl _), (ALe.refl _), (ALe.refl _), trivial⟩, ⟨⟨rfl, .inr rfl⟩, ⟨rfl, .inr rfl⟩, ⟨rfl, .inr rfl⟩, ⟨rfl, .inr rfl⟩, ⟨rfl, .inr rfl⟩, ⟨rfl, .inr rfl⟩, ⟨rfl, .inr rfl⟩, ⟨rfl, .inr rfl⟩, ⟨rfl, .inr rfl⟩, ⟨rfl, .inr rfl⟩, trivial⟩⟩
                    · refine RunC.regionW ?_
                      refine ROps.l (r := AV.b false) rfl rfl rfl (LOp.eqb (LOp.lss rfl rfl rfl) hc27) ?_
                      refine ROps.nil ?_
                      refine RunC.seq ?_
                      refine RunC.cond_false rfl rfl ?_
                      refine RunC.exit ?_
                      cases Option.some.inj h14_
                      have hx := ho14 _ rfl
                      exact ⟨L43, L45, hl44, hl46, ⟨(ALe.refl _), (ALe.refl _), (ALe.refl _), (ALe.refl _), (ALe.refl _), (ALe.refl _), (ALe.refl _), (ALe.refl _), (ALe.refl _), (ALe.refl _), trivial⟩, ⟨⟨rfl, .inr rfl⟩, ⟨rfl, .inr rfl⟩, ⟨rfl, .inr rfl⟩, ⟨rfl, .inr rfl⟩, ⟨rfl, .inr rfl⟩, ⟨rfl, .inr rfl⟩, ⟨rfl, .inr rfl⟩, ⟨rfl, .inl rfl⟩, ⟨rfl, .inl rfl⟩, ⟨rfl, .inr rfl⟩, trivial⟩, hx⟩
                  · rintro τ15 Γ15 ⟨L61, L63, hl62, hl64, hw15, hd15, rfl⟩
                    refine RunC.wl (τ' := [(1, AV.f32 a3), (6, AV.optr 0 1 0), (10, AV.optr 3 1 0), (11, AV.optr 4 1 0), (12, AV.oref 5 u10 0 L18.length), (13, AV.oref 6 u11 0 L19.length), (14, AV.i64 v37), (15, AV.i64 v38), (50, AV.i64 a4), (51, AV.i64 v20)]) (Γ' := [⟨1, some [AV.i64 0, AV.i64 0, AV.nilsl]⟩, ⟨1, some (L61.map AV.f32)⟩, ⟨1, some (L63.map AV.f32)⟩, ⟨1, some [AV.i64 r4, AV.i64 r5, AV.oref 1 1 0 r6.length]⟩, ⟨1, some [AV.i64 r7, AV.i64 r8, AV.oref 2 1 0 r9.length]⟩, ⟨u10, some (L18.map AV.i64)⟩, ⟨u11, some (L19.map AV.i64)⟩, ⟨(u12 + 1), none⟩, ⟨(u13 + 1), none⟩, ⟨0, none⟩]) hw15 hd15 ?_
                    replace h10_ : i_CrossOf_k8 r4 r5 r7 r8 L18 L19 v20 v37 v38 L61 L63 = some y10_ := h10_
                    unfold i_CrossOf_k8 at h10_
                    refine RunC.seq ?_
                    refine RunC.seq ?_
                    obtain ⟨r65, hf43, h10_⟩ := obind_some h10_
                    rcases bsel_some h10_ with ⟨hc44, h10_⟩ | ⟨hc44, h10_⟩
                    · obtain ⟨r66, hf45, h10_⟩ := obind_some h10_
                      rcases bsel_some h10_ with ⟨hc46, h10_⟩ | ⟨hc46, h10_⟩
                      · refine RunC.regionW ?_
                        refine ROps.d (r := AV.agg [AV.i64 r7, AV.i64 r8, AV.oref 2 1 0 r9.length]) (fs := []) (Γ' := [⟨1, some [AV.i64 0, AV.i64 0, AV.nilsl]⟩, ⟨1, some (L61.map AV.f32)⟩, ⟨1, some (L63.map AV.f32)⟩, ⟨1, some [AV.i64 r4, AV.i64 r5, AV.oref 1 1 0 r6.length]⟩, ⟨1, some [AV.i64 r7, AV.i64 r8, AV.oref 2 1 0 r9.length]⟩, ⟨u10, some (L18.map AV.i64)⟩, ⟨u11, some (L19.map AV.i64)⟩, ⟨(u12 + 1), none⟩, ⟨(u13 + 1), none⟩, ⟨0, none⟩]) rfl rfl rfl (TOp.loadAgg_o rfl agg27 siz27 rfl rfl rfl rfl) rfl ?_
                        refine ROps.d (r := AV.b true) (fs := []) (Γ' := [⟨1, some [AV.i64 0, AV.i64 0, AV.nilsl]⟩, ⟨1, some (L61.map AV.f32)⟩, ⟨1, some (L63.map AV.f32)⟩, ⟨1, some [AV.i64 r4, AV.i64 r5, AV.oref 1 1 0 r6.length]⟩, ⟨1, some [AV.i64 r7, AV.i64 r8, AV.oref 2 1 0 r9.length]⟩, ⟨u10, some (L18.map AV.i64)⟩, ⟨u11, some (L19.map AV.i64)⟩, ⟨(u12 + 1), none⟩, ⟨(u13 + 1), none⟩, ⟨0, none⟩]) rfl rfl rfl (TOp.eqb (TOp.callB (CallAs.func ent45 rfl rfl) (Bors.cons (Bor.agg (Bors.cons (Bor.pure rfl) (Bors.cons (Bor.pure rfl) (Bors.cons (Bor.own (f := AV.f32) (fun _ => rfl) rfl hl64) Bors.nil)))) Bors.nil) rfl rfl (i_ValidMatrix_ok r7 r8 L63 r65 hf43)) hc44) rfl ?_
                        refine ROps.l (r := AV.b false) rfl rfl rfl (LOp.eqb (LOp.not rfl rfl) rfl) ?_
                        refine ROps.l (r := AV.b false) rfl rfl rfl (LOp.move rfl rfl) ?_
                        refine ROps.d (r := AV.agg [AV.i64 r4, AV.i64 r5, AV.oref 1 1 0 r6.length]) (fs := []) (Γ' := [⟨1, some [AV.i64 0, AV.i64 0, AV.nilsl]⟩, ⟨1, some (L61.map AV.f32)⟩, ⟨1, some (L63.map AV.f32)⟩, ⟨1, some [AV.i64 r4, AV.i64 r5, AV.oref 1 1 0 r6.length]⟩, ⟨1, some [AV.i64 r7, AV.i64 r8, AV.oref 2 1 0 r9.length]⟩, ⟨u10, some (L18.map AV.i64)⟩, ⟨u11, some (L19.map AV.i64)⟩, ⟨(u12 + 1), none⟩, ⟨(u13 + 1), none⟩, ⟨0, none⟩]) rfl rfl rfl (TOp.loadAgg_o rfl agg27 siz27 rfl rfl rfl rfl) rfl ?_
                        refine ROps.d (r := AV.b true) (fs := []) (Γ' := [⟨1, some [AV.i64 0, AV.i64 0, AV.nilsl]⟩, ⟨1, some (L61.map AV.f32)⟩, ⟨1, some (L63.map AV.f32)⟩, ⟨1, some [AV.i64 r4, AV.i64 r5, AV.oref 1 1 0 r6.length]⟩, ⟨1, some [AV.i64 r7, AV.i64 r8, AV.oref 2 1 0 r9.length]⟩, ⟨u10, some (L18.map AV.i64)⟩, ⟨u11, some (L19.map AV.i64)⟩, ⟨(u12 + 1), none⟩, ⟨(u13 + 1), none⟩, ⟨0, none⟩]) rfl rfl rfl (TOp.eqb (TOp.callB (CallAs.func ent45 rfl rfl) (Bors.cons (Bor.agg (Bors.cons (Bor.pure rfl) (Bors.cons (Bor.pure rfl) (Bors.cons (Bor.own (f := AV.f32) (fun _ => rfl) rfl hl62) Bors.nil)))) Bors.nil) rfl rfl (i_ValidMatrix_ok r4 r5 L61 r66 hf45)) hc46) rfl ?_
                        refine ROps.l (r := AV.b false) rfl rfl rfl (LOp.eqb (LOp.not rfl rfl) rfl) ?_
                        refine ROps.l (r := AV.b false) rfl rfl rfl (LOp.pick_false rfl rfl rfl) ?_
                        refine ROps.nil ?_
                        refine RunC.cond_false rfl rfl ?_
                        refine RunC.skip ?_
                        obtain ⟨hm47, h10_⟩ := need_some h10_
                        obtain ⟨hm48, h10_⟩ := need_some h10_
                        refine RunC.regionW ?_
                        refine ROps.l (r := AV.oref 5 u10 0 L18.length) rfl rfl rfl (LOp.move rfl rfl) ?_
                        refine ROps.l (r := AV.i64 v37) rfl rfl rfl (LOp.move rfl rfl) ?_
                        refine ROps.d (r := AV.oref 7 (u12 + 2) 0 1) (fs := [(7, (([v37] : List Int).map AV.i64))]) (Γ' := [⟨1, some [AV.i64 0, AV.i64 0, AV.nilsl]⟩, ⟨1, some (L61.map AV.f32)⟩, ⟨1, some (L63.map AV.f32)⟩, ⟨1, some [AV.i64 r4, AV.i64 r5, AV.oref 1 1 0 r6.length]⟩, ⟨1, some [AV.i64 r7, AV.i64 r8, AV.oref 2 1 0 r9.length]⟩, ⟨u10, some (L18.map AV.i64)⟩, ⟨u11, some (L19.map AV.i64)⟩, ⟨(u12 + 2), some (([v37] : List Int).map AV.i64)⟩, ⟨(u13 + 1), none⟩, ⟨0, none⟩]) rfl rfl rfl (TOp.buildSlice_o (g := ⟨(u12 + 1), none⟩) (za := AV.i64 0) (qs := [(0, [AV.i64 v37])]) 7 rfl und28 siz2 zer2 rfl zel2 rfl rfl ⟨rfl, ⟨_, ALe.refl _, rfl⟩, trivial⟩ rfl) rfl ?_
                        refine ROps.app (f := AV.i64) (xs := L18) (ys := ([v37] : List Int)) (Γ' := [⟨1, some [AV.i64 0, AV.i64 0, AV.nilsl]⟩, ⟨1, some (L61.map AV.f32)⟩, ⟨1, some (L63.map AV.f32)⟩, ⟨1, some [AV.i64 r4, AV.i64 r5, AV.oref 1 1 0 r6.length]⟩, ⟨1, some [AV.i64 r7, AV.i64 r8, AV.oref 2 1 0 r9.length]⟩, ⟨(u10 + 1), some ((L18 ++ ([v37] : List Int)).map AV.i64)⟩, ⟨u11, some (L19.map AV.i64)⟩, ⟨(u12 + 2), some (([v37] : List Int).map AV.i64)⟩, ⟨(u13 + 1), none⟩, ⟨0, none⟩]) rfl pun28 inf2 rfl rfl rfl rfl rfl rfl rfl rfl rfl (by simp) (ReadAs.own rfl (by simp)) (ones_map (fun _ => rfl)) (ap_by hm47) (ap_mx hm47) rfl ?_
                        refine ROps.l (r := AV.oref 6 u11 0 L19.length) rfl rfl rfl (LOp.move rfl rfl) ?_
                        refine ROps.l (r := AV.i64 v38) rfl rfl rfl (LOp.move rfl rfl) ?_
                        refine ROps.d (r := AV.oref 8 (u13 + 2) 0 1) (fs := [(8, (([v38] : List Int).map AV.i64))]) (Γ' := [⟨1, some [AV.i64 0, AV.i64 0, AV.nilsl]⟩, ⟨1, some (L61.map AV.f32)⟩, ⟨1, some (L63.map AV.f32)⟩, ⟨1, some [AV.i64 r4, AV.i64 r5, AV.oref 1 1 0 r6.length]⟩, ⟨1, some [AV.i64 r7, AV.i64 r8, AV.oref 2 1 0 r9.length]⟩, ⟨(u10 + 1), some ((L18 ++ ([v37] : List Int)).map AV.i64)⟩, ⟨u11, some (L19.map AV.i64)⟩, ⟨(u12 + 2), some (([v37] : List Int).map AV.i64)⟩, ⟨(u13 + 2), some (([v38] : List Int).map AV.i64)⟩, ⟨0, none⟩]) rfl rfl rfl (TOp.buildSlice_o (g := ⟨(u13 + 1), none⟩) (za := AV.i64 0) (qs := [(0, [AV.i64 v38])]) 8 rfl und28 siz2 zer2 rfl zel2 rfl rfl ⟨rfl, ⟨_, ALe.refl _, rfl⟩, trivial⟩ rfl) rfl ?_
                        refine ROps.app (f := AV.i64) (xs := L19) (ys := ([v38] : List Int)) (Γ' := [⟨1, some [AV.i64 0, AV.i64 0, AV.nilsl]⟩, ⟨1, some (L61.map AV.f32)⟩, ⟨1, some (L63.map AV.f32)⟩, ⟨1, some [AV.i64 r4, AV.i64 r5, AV.oref 1 1 0 r6.length]⟩, ⟨1, some [AV.i64 r7, AV.i64 r8, AV.oref 2 1 0 r9.length]⟩, ⟨(u10 + 1), some ((L18 ++ ([v37] : List Int)).map AV.i64)⟩, ⟨(u11 + 1), some ((L19 ++ ([v38] : List Int)).map AV.i64)⟩, ⟨(u12 + 2), some (([v37] : List Int).map AV.i64)⟩, ⟨(u13 + 2), some (([v38] : List Int).map AV.i64)⟩, ⟨0, none⟩]) rfl pun28 inf2 rfl rfl rfl rfl rfl rfl rfl rfl rfl (by simp) (ReadAs.own rfl (by simp)) (ones_map (fun _ => rfl)) (ap_by hm48) (ap_mx hm48) rfl ?_
                        refine ROps.l (r := AV.oref 5 (u10 + 1) 0 (L18.length + 1)) rfl rfl rfl (LOp.assign rfl rfl) ?_
                        refine ROps.l (r := AV.oref 6 (u11 + 1) 0 (L19.length + 1)) rfl rfl rfl (LOp.assign rfl rfl) ?_
                        refine ROps.nil ?_
                        refine RunC.wl (τ' := [(1, AV.f32 a3), (6, AV.optr 0 1 0), (10, AV.optr 3 1 0), (11, AV.optr 4 1 0), (12, AV.oref 5 (u10 + 1) 0 (L18.length + 1)), (13, AV.oref 6 (u11 + 1) 0 (L19.length + 1)), (50, AV.i64 a4), (51, AV.i64 v20), (136, AV.agg [AV.i64 r4, AV.i64 r5, AV.oref 1 1 0 r6.length]), (137, AV.b true), (138, AV.b false)]) (Γ' := [⟨1, some [AV.i64 0, AV.i64 0, AV.nilsl]⟩, ⟨1, some (L61.map AV.f32)⟩, ⟨1, some (L63.map AV.f32)⟩, ⟨1, some [AV.i64 r4, AV.i64 r5, AV.oref 1 1 0 r6.length]⟩, ⟨1, some [AV.i64 r7, AV.i64 r8, AV.oref 2 1 0 r9.length]⟩, ⟨(u10 + 1), some ((L18 ++ ([v37] : List Int)).map AV.i64)⟩, ⟨(u11 + 1), some ((L19 ++ ([v38] : List Int)).map AV.i64)⟩, ⟨(u12 + 2), none⟩, ⟨(u13 + 2), none⟩, ⟨0, none⟩]) ⟨(ALe.refl _), (ALe.refl _), (ALe.refl _), (ALe.refl _), (ALe.refl _), (ALe.refl _), (ALe.refl _), (ALe.refl _), (ALe.refl _), (ALe.refl _), (ALe.refl _), trivial⟩ ⟨⟨rfl, .inr rfl⟩, ⟨rfl, .inr rfl⟩, ⟨rfl, .inr rfl⟩, ⟨rfl, .inr rfl⟩, ⟨rfl, .inr rfl⟩, ⟨rfl, .inr rfl⟩, ⟨rfl, .inr rfl⟩, ⟨rfl, .inl rfl⟩, ⟨rfl, .inl rfl⟩, ⟨rfl, .inr rfl⟩, trivial⟩ ?_
                        obtain ⟨x67, hx49, h10_⟩ := olet_some h10_
                        refine RunC.regionW ?_
                        refine ROps.l (r := AV.i64 x67) rfl rfl rfl (LOp.eqr (LOp.add rfl rfl rfl) (congrArg (AV.ik .i64) hx49)) ?_
                        refine ROps.l (r := AV.i64 x67) rfl rfl rfl (LOp.move rfl rfl) ?_
                        refine ROps.nil ?_
                        cases Option.some.inj h10_
                        exact ⟨_, rfl, (u10 + 1), (u11 + 1), (u12 + 2), (u13 + 2), hl62, hl64, ⟨(ALe.refl _), (ALe.refl _), (ALe.refl _), (ALe.refl _), (ALe.eq (by rw [(app_len rfl rfl)] <;> rfl)), (ALe.eq (by rw [(app_len rfl rfl)] <;> rfl)), (ALe.refl _), (ALe.refl _), trivial⟩, ⟨⟨rfl, .inr rfl⟩, ⟨rfl, .inr rfl⟩, ⟨rfl, .inr rfl⟩, ⟨rfl, .inr rfl⟩, ⟨rfl, .inr rfl⟩, ⟨rfl, .inr rfl⟩, ⟨rfl, .inr rfl⟩, ⟨rfl, .inl rfl⟩, ⟨rfl, .inl rfl⟩, ⟨rfl, .inr rfl⟩, trivial⟩⟩
                      · refine RunC.regionW ?_
                        refine ROps.d (r := AV.agg [AV.i64 r7, AV.i64 r8, AV.oref 2 1 0 r9.length]) (fs := []) (Γ' := [⟨1, some [AV.i64 0, AV.i64 0, AV.nilsl]⟩, ⟨1, some (L61.map AV.f32)⟩, ⟨1, some (L63.map AV.f32)⟩, ⟨1, some [AV.i64 r4, AV.i64 r5, AV.oref 1 1 0 r6.length]⟩, ⟨1, some [AV.i64 r7, AV.i64 r8, AV.oref 2 1 0 r9.length]⟩, ⟨u10, some (L18.map AV.i64)⟩, ⟨u11, some (L19.map AV.i64)⟩, ⟨(u12 + 1), none⟩, ⟨(u13 + 1), none⟩, ⟨0, none⟩]) rfl rfl rfl (TOp.loadAgg_o rfl agg27 siz27 rfl rfl rfl rfl) rfl ?_
                        refine ROps.d (r := AV.b true) (fs := []) (Γ' := [⟨1, some [AV.i64 0, AV.i64 0, AV.nilsl]⟩, ⟨1, some (L61.map AV.f32)⟩, ⟨1, some (L63.map AV.f32)⟩, ⟨1, some [AV.i64 r4, AV.i64 r5, AV.oref 1 1 0 r6.length]⟩, ⟨1, some [AV.i64 r7, AV.i64 r8, AV.oref 2 1 0 r9.length]⟩, ⟨u10, some (L18.map AV.i64)⟩, ⟨u11, some (L19.map AV.i64)⟩, ⟨(u12 + 1), none⟩, ⟨(u13 + 1), none⟩, ⟨0, none⟩]) rfl rfl rfl (TOp.eqb (TOp.callB (CallAs.func ent45 rfl rfl) (Bors.cons (Bor.agg (Bors.cons (Bor.pure rfl) (Bors.cons (Bor.pure rfl) (Bors.cons (Bor.own (f := AV.f32) (fun _ => rfl) rfl hl64) Bors.nil)))) Bors.nil) rfl rfl (i_ValidMatrix_ok r7 r8 L63 r65 hf43)) hc44) rfl ?_
                        refine ROps.l (r := AV.b false) rfl rfl rfl (LOp.eqb (LOp.not rfl rfl) rfl) ?_
                        refine ROps.l (r := AV.b false) rfl rfl rfl (LOp.move rfl rfl) ?_
                        refine ROps.d (r := AV.agg [AV.i64 r4, AV.i64 r5, AV.oref 1 1 0 r6.length]) (fs := []) (Γ' := [⟨1, some [AV.i64 0, AV.i64 0, AV.nilsl]⟩, ⟨1, some (L61.map AV.f32)⟩, ⟨1, some (L63.map AV.f32)⟩, ⟨1, some [AV.i64 r4, AV.i64 r5, AV.oref 1 1 0 r6.length]⟩, ⟨1, some [AV.i64 r7, AV.i64 r8, AV.oref 2 1 0 r9.length]⟩, ⟨u10, some (L18.map AV.i64)⟩, ⟨u11, some (L19.map AV.i64)⟩, ⟨(u12 + 1), none⟩, ⟨(u13 + 1), none⟩, ⟨0, none⟩]) rfl rfl rfl (TOp.loadAgg_o rfl agg27 siz27 rfl rfl rfl rfl) rfl ?_
                        refine ROps.d (r := AV.b false) (fs := []) (Γ' := [⟨1, some [AV.i64 0, AV.i64 0, AV.nilsl]⟩, ⟨1, some (L61.map AV.f32)⟩, ⟨1, some (L63.map AV.f32)⟩, ⟨1, some [AV.i64 r4, AV.i64 r5, AV.oref 1 1 0 r6.length]⟩, ⟨1, some [AV.i64 r7, AV.i64 r8, AV.oref 2 1 0 r9.length]⟩, ⟨u10, some (L18.map AV.i64)⟩, ⟨u11, some (L19.map AV.i64)⟩, ⟨(u12 + 1), none⟩, ⟨(u13 + 1), none⟩, ⟨0, none⟩]) rfl rfl rfl (TOp.eqb (TOp.callB (CallAs.func ent45 rfl rfl) (Bors.cons (Bor.agg (Bors.cons (Bor.pure rfl) (Bors.cons (Bor.pure rfl) (Bors.cons (Bor.own (f := AV.f32) (fun _ => rfl) rfl hl62) Bors.nil)))) Bors.nil) rfl rfl (i_ValidMatrix_ok r4 r5 L61 r66 hf45)) hc46) rfl ?_
                        refine ROps.l (r := AV.b true) rfl rfl rfl (LOp.eqb (LOp.not rfl rfl) rfl) ?_
                        refine ROps.l (r := AV.b true) rfl rfl rfl (LOp.pick_false rfl rfl rfl) ?_
                        refine ROps.nil ?_
                        refine RunC.cond_true rfl rfl ?_
                        refine RunC.seq ?_
                        refine RunC.regionW ?_
                        refine ROps.l (r := AV.agg [AV.i64 0, AV.i64 0, AV.nilsl]) rfl rfl rfl (LOp.build (qs := []) zer27 zok27 und27 plc27 rfl trivial rfl) ?_
                        refine ROps.store_le (r := AV.agg [AV.i64 0, AV.i64 0, AV.nilsl]) (l' := [AV.i64 0, AV.i64 0, AV.nilsl]) (Γ' := [⟨1, some [AV.i64 0, AV.i64 0, AV.nilsl]⟩, ⟨1, some (L61.map AV.f32)⟩, ⟨1, some (L63.map AV.f32)⟩, ⟨1, some [AV.i64 r4, AV.i64 r5, AV.oref 1 1 0 r6.length]⟩, ⟨1, some [AV.i64 r7, AV.i64 r8, AV.oref 2 1 0 r9.length]⟩, ⟨u10, some (L18.map AV.i64)⟩, ⟨u11, some (L19.map AV.i64)⟩, ⟨(u12 + 1), none⟩, ⟨(u13 + 1), none⟩, ⟨0, none⟩]) rfl siz27 rfl rfl rfl (ALe.refl _) rfl rfl rfl rfl (Nat.le_of_ble_eq_true rfl) rfl rfl ?_
                        refine ROps.l (r := AV.nilsl) rfl rfl rfl (LOp.assign rfl rfl) ?_
                        refine ROps.l (r := AV.nilsl) rfl rfl rfl (LOp.assign rfl rfl) ?_
                        refine ROps.l (r := AV.b false) rfl rfl rfl (LOp.assign rfl rfl) ?_
                        refine ROps.nil ?_
                        refine RunC.nil_cell (l' := [AV.i64 0, AV.i64 0, AV.oref 7 (u12 + 2) 0 0]) (Γ' := [⟨1, some [AV.i64 0, AV.i64 0, AV.oref 7 (u12 + 2) 0 0]⟩, ⟨1, some (L61.map AV.f32)⟩, ⟨1, some (L63.map AV.f32)⟩, ⟨1, some [AV.i64 r4, AV.i64 r5, AV.oref 1 1 0 r6.length]⟩, ⟨1, some [AV.i64 r7, AV.i64 r8, AV.oref 2 1 0 r9.length]⟩, ⟨u10, some (L18.map AV.i64)⟩, ⟨u11, some (L19.map AV.i64)⟩, ⟨(u12 + 2), some (([] : List F).map AV.f32)⟩, ⟨(u13 + 1), none⟩, ⟨0, none⟩]) 0 2 7 rfl rfl rfl rfl rfl ?_
                        refine RunC.nil_slot (Γ' := [⟨1, some [AV.i64 0, AV.i64 0, AV.oref 7 (u12 + 2) 0 0]⟩, ⟨1, some (L61.map AV.f32)⟩, ⟨1, some (L63.map AV.f32)⟩, ⟨1, some [AV.i64 r4, AV.i64 r5, AV.oref 1 1 0 r6.length]⟩, ⟨1, some [AV.i64 r7, AV.i64 r8, AV.oref 2 1 0 r9.length]⟩, ⟨u10, some (L18.map AV.i64)⟩, ⟨u11, some (L19.map AV.i64)⟩, ⟨(u12 + 2), some (([] : List F).map AV.f32)⟩, ⟨(u13 + 2), some (([] : List Int).map AV.i64)⟩, ⟨0, none⟩]) 7 8 rfl rfl rfl ?_
                        refine RunC.nil_slot (Γ' := [⟨1, some [AV.i64 0, AV.i64 0, AV.oref 7 (u12 + 2) 0 0]⟩, ⟨1, some (L61.map AV.f32)⟩, ⟨1, some (L63.map AV.f32)⟩, ⟨1, some [AV.i64 r4, AV.i64 r5, AV.oref 1 1 0 r6.length]⟩, ⟨1, some [AV.i64 r7, AV.i64 r8, AV.oref 2 1 0 r9.length]⟩, ⟨u10, some (L18.map AV.i64)⟩, ⟨u11, some (L19.map AV.i64)⟩, ⟨(u12 + 2), some (([] : List F).map AV.f32)⟩, ⟨(u13 + 2), some (([] : List Int).map AV.i64)⟩, ⟨1, some (([] : List Int).map AV.i64)⟩]) 8 9 rfl rfl rfl ?_
                        refine RunC.ret ?_
                        cases Option.some.inj h10_
                        have hx16_ := hr10 _ rfl
                        subst hx16_
                        have hq := Option.some.inj h
                        obtain ⟨hq0, hq⟩ := Prod.mk.inj hq
                        obtain ⟨hq1, hq⟩ := Prod.mk.inj hq
                        obtain ⟨hq2, hq⟩ := Prod.mk.inj hq
                        obtain ⟨hq3, hq⟩ := Prod.mk.inj hq
                        obtain ⟨hq4, hq⟩ := Prod.mk.inj hq
                        subst q0
                        subst q1
                        subst q2
                        subst q3
                        subst q4
                        subst q5
                        exact bodyQ.mk (r' := AV.tup [AV.agg [AV.i64 0, AV.i64 0, AV.oref 7 (u12 + 2) 0 (([] : List F).length)], AV.oref 8 (u13 + 2) 0 (([] : List Int).length), AV.oref 9 1 0 (([] : List Int).length), AV.b false]) [(7, (u12 + 2)), (8, (u13 + 2)), (9, 1)] (.inr rfl) rfl (show List.Nodup [7, 8, 9] from by decide) (by simp [AV.ren, AV.rens, sigma]) rfl (Res.eq (Res.four rfl (RV.cell agg27 siz27 rfl rfl rfl rfl) (RV.tmp rfl) (RV.tmp rfl) (RV.tmp rfl)) (by rw [(show ([] : List F).length = 0 from rfl), (show ([] : List Int).length = 0 from rfl)] <;> rfl)) (SelL.arr0 (f := AV.f32) (fun _ => rfl) rfl (SelL.arr0 (f := AV.i64) (fun _ => rfl) rfl (SelL.arr0 (f := AV.i64) (fun _ => rfl) rfl trivial)))
                    · refine RunC.regionW ?_
                      refine ROps.d (r := AV.agg [AV.i64 r7, AV.i64 r8, AV.oref 2 1 0 r9.length]) (fs := []) (Γ' := [⟨1, some [AV.i64 0, AV.i64 0, AV.nilsl]⟩, ⟨1, some (L61.map AV.f32)⟩, ⟨1, some (L63.map AV.f32)⟩, ⟨1, some [AV.i64 r4, AV.i64 r5, AV.oref 1 1 0 r6.length]⟩, ⟨1, some [AV.i64 r7, AV.i64 r8, AV.oref 2 1 0 r9.length]⟩, ⟨u10, some (L18.map AV.i64)⟩, ⟨u11, some (L19.map AV.i64)⟩, ⟨(u12 + 1), none⟩, ⟨(u13 + 1), none⟩, ⟨0, none⟩]) rfl rfl rfl (TOp.loadAgg_o rfl agg27 siz27 rfl rfl rfl rfl) rfl ?_
                      refine ROps.d (r := AV.b false) (fs := []) (Γ' := [⟨1, some [AV.i64 0, AV.i64 0, AV.nilsl]⟩, ⟨1, some (L61.map AV.f32)⟩, ⟨1, some (L63.map AV.f32)⟩, ⟨1, some [AV.i64 r4, AV.i64 r5, AV.oref 1 1 0 r6.length]⟩, ⟨1, some [AV.i64 r7, AV.i64 r8, AV.oref 2 1 0 r9.length]⟩, ⟨u10, some (L18.map AV.i64)⟩, ⟨u11, some (L19.map AV.i64)⟩, ⟨(u12 + 1), none⟩, ⟨(u13 + 1), none⟩, ⟨0, none⟩]) rfl rfl rfl (TOp.eqb (TOp.callB (CallAs.func ent45 rfl rfl) (Bors.cons (Bor.agg (Bors.cons (Bor.pure rfl) (Bors.cons (Bor.pure rfl) (Bors.cons (Bor.own (f := AV.f32) (fun _ => rfl) rfl hl64) Bors.nil)))) Bors.nil) rfl rfl (i_ValidMatrix_ok r7 r8 L63 r65 hf43)) hc44) rfl ?_
                      refine ROps.l (r := AV.b true) rfl rfl rfl (LOp.eqb (LOp.not rfl rfl) rfl) ?_
                      refine ROps.l (r := AV.b true) rfl rfl rfl (LOp.move rfl rfl) ?_
                      refine ROps.s rfl rfl rfl ?_
                      refine ROps.s rfl rfl rfl ?_
                      refine ROps.s rfl rfl rfl ?_
                      refine ROps.l (r := AV.b true) rfl rfl rfl (LOp.pick_true rfl rfl rfl) ?_
                      refine ROps.nil ?_
                      refine RunC.cond_true rfl rfl ?_
                      refine RunC.seq ?_
                      refine RunC.regionW ?_
                      refine ROps.l (r := AV.agg [AV.i64 0, AV.i64 0, AV.nilsl]) rfl rfl rfl (LOp.build (qs := []) zer27 zok27 und27 plc27 rfl trivial rfl) ?_
                      refine ROps.store_le (r := AV.agg [AV.i64 0, AV.i64 0, AV.nilsl]) (l' := [AV.i64 0, AV.i64 0, AV.nilsl]) (Γ' := [⟨1, some [AV.i64 0, AV.i64 0, AV.nilsl]⟩, ⟨1, some (L61.map AV.f32)⟩, ⟨1, some (L63.map AV.f32)⟩, ⟨1, some [AV.i64 r4, AV.i64 r5, AV.oref 1 1 0 r6.length]⟩, ⟨1, some [AV.i64 r7, AV.i64 r8, AV.oref 2 1 0 r9.length]⟩, ⟨u10, some (L18.map AV.i64)⟩, ⟨u11, some (L19.map AV.i64)⟩, ⟨(u12 + 1), none⟩, ⟨(u13 + 1), none⟩, ⟨0, none⟩]) rfl siz27 rfl rfl rfl (ALe.refl _) rfl rfl rfl rfl (Nat.le_of_ble_eq_true rfl) rfl rfl ?_
                      refine ROps.l (r := AV.nilsl) rfl rfl rfl (LOp.assign rfl rfl) ?_
                      refine ROps.l (r := AV.nilsl) rfl rfl rfl (LOp.assign rfl rfl) ?_
                      refine ROps.l (r := AV.b false) rfl rfl rfl (LOp.assign rfl rfl) ?_
                      refine ROps.nil ?_
                      refine RunC.nil_cell (l' := [AV.i64 0, AV.i64 0, AV.oref 7 (u12 + 2) 0 0]) (Γ' := [⟨1, some [AV.i64 0, AV.i64 0, AV.oref 7 (u12 + 2) 0 0]⟩, ⟨1, some (L61.map AV.f32)⟩, ⟨1, some (L63.map AV.f32)⟩, ⟨1, some [AV.i64 r4, AV.i64 r5, AV.oref 1 1 0 r6.length]⟩, ⟨1, some [AV.i64 r7, AV.i64 r8, AV.oref 2 1 0 r9.length]⟩, ⟨u10, some (L18.map AV.i64)⟩, ⟨u11, some (L19.map AV.i64)⟩, ⟨(u12 + 2), some (([] : List F).map AV.f32)⟩, ⟨(u13 + 1), none⟩, ⟨0, none⟩]) 0 2 7 rfl rfl rfl rfl rfl ?_
                      refine RunC.nil_slot (Γ' := [⟨1, some [AV.i64 0, AV.i64 0, AV.oref 7 (u12 + 2) 0 0]⟩, ⟨1, some (L61.map AV.f32)⟩, ⟨1, some (L63.map AV.f32)⟩, ⟨1, some [AV.i64 r4, AV.i64 r5, AV.oref 1 1 0 r6.length]⟩, ⟨1, some [AV.i64 r7, AV.i64 r8, AV.oref 2 1 0 r9.length]⟩, ⟨u10, some (L18.map AV.i64)⟩, ⟨u11, some (L19.map AV.i64)⟩, ⟨(u12 + 2), some (([] : List F).map AV.f32)⟩, ⟨(u13 + 2), some (([] : List Int).map AV.i64)⟩, ⟨0, none⟩]) 7 8 rfl rfl rfl ?_
                      refine RunC.nil_slot (Γ' := [⟨1, some [AV.i64 0, AV.i64 0, AV.oref 7 (u12 + 2) 0 0]⟩, ⟨1, some (L61.map AV.f32)⟩, ⟨1, some (L63.map AV.f32)⟩, ⟨1, some [AV.i64 r4, AV.i64 r5, AV.oref 1 1 0 r6.length]⟩, ⟨1, some [AV.i64 r7, AV.i64 r8, AV.oref 2 1 0 r9.length]⟩, ⟨u10, some (L18.map AV.i64)⟩, ⟨u11, some (L19.map AV.i64)⟩, ⟨(u12 + 2), some (([] : List F).map AV.f32)⟩, ⟨(u13 + 2), some (([] : List Int).map AV.i64)⟩, ⟨1, some (([] : List Int).map AV.i64)⟩]) 8 9 rfl rfl rfl ?_
                      refine RunC.ret ?_
                      cases Option.some.inj h10_
                      have hx17_ := hr10 _ rfl
                      subst hx17_
                      have hq := Option.some.inj h
                      obtain ⟨hq0, hq⟩ := Prod.mk.inj hq
                      obtain ⟨hq1, hq⟩ := Prod.mk.inj hq
                      obtain ⟨hq2, hq⟩ := Prod.mk.inj hq
                      obtain ⟨hq3, hq⟩ := Prod.mk.inj hq
                      obtain ⟨hq4, hq⟩ := Prod.mk.inj hq
                      subst q0
                      subst q1
                      subst q2
                      subst q3
                      subst q4
                      subst q5
                      exact bodyQ.mk (r' := AV.tup [AV.agg [AV.i64 0, AV.i64 0, AV.oref 7 (u12 + 2) 0 (([] : List F).length)], AV.oref 8 (u13 + 2) 0 (([] : List Int).length), AV.oref 9 1 0 (([] : List Int).length), AV.b false]) [(7, (u12 + 2)), (8, (u13 + 2)), (9, 1)] (.inr rfl) rfl (show List.Nodup [7, 8, 9] from by decide) (by simp [AV.ren, AV.rens, sigma]) rfl (Res.eq (Res.four rfl (RV.cell agg27 siz27 rfl rfl rfl rfl) (RV.tmp rfl) (RV.tmp rfl) (RV.tmp rfl)) (by rw [(show ([] : List F).length = 0 from rfl), (show ([] : List Int).length = 0 from rfl)] <;> rfl)) (SelL.arr0 (f := AV.f32) (fun _ => rfl) rfl (SelL.arr0 (f := AV.i64) (fun _ => rfl) rfl (SelL.arr0 (f := AV.i64) (fun _ => rfl) rfl trivial)))
            · refine RunC.regionW ?_
              refine ROps.l (r := AV.b false) rfl rfl rfl (LOp.eqb (LOp.lss rfl rfl rfl) hc10) ?_
              refine ROps.nil ?_
              refine RunC.seq ?_
              refine RunC.cond_false rfl rfl ?_
              refine RunC.exit ?_
              cases Option.some.inj h10_
              have hx := ho10 _ rfl
              exact ⟨L16, L18, L19, u10, u11, u12, u13, hl17, ⟨(ALe.refl _), (ALe.refl _), (ALe.refl _), (ALe.refl _), trivial⟩, ⟨⟨rfl, .inr rfl⟩, ⟨rfl, .inl rfl⟩, ⟨rfl, .inr rfl⟩, ⟨rfl, .inl rfl⟩, ⟨rfl, .inr rfl⟩, ⟨rfl, .inr rfl⟩, ⟨rfl, .inr rfl⟩, ⟨rfl, .inl rfl⟩, ⟨rfl, .inl rfl⟩, ⟨rfl, .inr rfl⟩, trivial⟩, hx⟩
          · rintro τ18 Γ18 ⟨L72, L74, L75, u68, u69, u70, u71, hl73, hw18, hd18, rfl⟩
            refine RunC.wl (τ' := [(6, AV.optr 0 1 0), (11, AV.optr 4 1 0), (12, AV.oref 5 u68 0 L74.length), (13, AV.oref 6 u69 0 L75.length)]) (Γ' := [⟨1, some [AV.i64 0, AV.i64 0, AV.nilsl]⟩, ⟨1, none⟩, ⟨1, some (L72.map AV.f32)⟩, ⟨1, none⟩, ⟨1, some [AV.i64 r7, AV.i64 r8, AV.oref 2 1 0 r9.length]⟩, ⟨u68, some (L74.map AV.i64)⟩, ⟨u69, some (L75.map AV.i64)⟩, ⟨u70, none⟩, ⟨u71, none⟩, ⟨0, none⟩]) hw18 hd18 ?_
            replace h : i_CrossOf_k9 r7 r8 L72 L74 L75 = some (q0, q1, q2, q3, q4, q5) := h
            unfold i_CrossOf_k9 at h
            refine RunC.seq ?_
            refine RunC.regionW ?_
            refine ROps.d (r := AV.agg [AV.i64 r7, AV.i64 r8, AV.oref 2 1 0 r9.length]) (fs := []) (Γ' := [⟨1, some [AV.i64 0, AV.i64 0, AV.nilsl]⟩, ⟨1, none⟩, ⟨1, some (L72.map AV.f32)⟩, ⟨1, none⟩, ⟨1, some [AV.i64 r7, AV.i64 r8, AV.oref 2 1 0 r9.length]⟩, ⟨u68, some (L74.map AV.i64)⟩, ⟨u69, some (L75.map AV.i64)⟩, ⟨u70, none⟩, ⟨u71, none⟩, ⟨0, none⟩]) rfl rfl rfl (TOp.loadAgg_o rfl agg27 siz27 rfl rfl rfl rfl) rfl ?_
            refine ROps.l (r := AV.oref 5 u68 0 L74.length) rfl rfl rfl (LOp.move rfl rfl) ?_
            refine ROps.l (r := AV.oref 6 u69 0 L75.length) rfl rfl rfl (LOp.move rfl rfl) ?_
            refine ROps.store_le (r := AV.agg [AV.i64 r7, AV.i64 r8, AV.oref 2 1 0 r9.length]) (l' := [AV.i64 r7, AV.i64 r8, AV.oref 2 1 0 r9.length]) (Γ' := [⟨1, some [AV.i64 r7, AV.i64 r8, AV.oref 2 1 0 r9.length]⟩, ⟨1, none⟩, ⟨1, some (L72.map AV.f32)⟩, ⟨1, none⟩, ⟨1, some [AV.i64 r7, AV.i64 r8, AV.oref 2 1 0 r9.length]⟩, ⟨u68, some (L74.map AV.i64)⟩, ⟨u69, some (L75.map AV.i64)⟩, ⟨u70, none⟩, ⟨u71, none⟩, ⟨0, none⟩]) rfl siz27 rfl rfl rfl (ALe.refl _) rfl rfl rfl rfl (Nat.le_of_ble_eq_true rfl) rfl rfl ?_
            refine ROps.l (r := AV.oref 5 u68 0 L74.length) rfl rfl rfl (LOp.assign rfl rfl) ?_
            refine ROps.l (r := AV.oref 6 u69 0 L75.length) rfl rfl rfl (LOp.assign rfl rfl) ?_
            refine ROps.l (r := AV.b true) rfl rfl rfl (LOp.assign rfl rfl) ?_
            refine ROps.nil ?_
            refine RunC.ret ?_
            have hq := Option.some.inj h
            obtain ⟨hq0, hq⟩ := Prod.mk.inj hq
            obtain ⟨hq1, hq⟩ := Prod.mk.inj hq
            obtain ⟨hq2, hq⟩ := Prod.mk.inj hq
            obtain ⟨hq3, hq⟩ := Prod.mk.inj hq
            obtain ⟨hq4, hq⟩ := Prod.mk.inj hq
            subst q0
            subst q1
            subst q2
            subst q3
            subst q4
            subst q5
            exact bodyQ.mk (r' := AV.tup [AV.agg [AV.i64 r7, AV.i64 r8, AV.oref 2 1 0 L72.length], AV.oref 5 u68 0 L74.length, AV.oref 6 u69 0 L75.length, AV.b true]) [(2, 1), (5, u68), (6, u69)] (.inr rfl) rfl (show List.Nodup [2, 5, 6] from by decide) (by simp [AV.ren, AV.rens, sigma]) rfl (Res.eq (Res.four rfl (RV.cell agg27 siz27 rfl rfl rfl rfl) (RV.tmp rfl) (RV.tmp rfl) (RV.tmp rfl)) (by rw [(show L72.length = r9.length from hl73)] <;> rfl)) (SelL.arr0 (f := AV.f32) (fun _ => rfl) rfl (SelL.arr0 (f := AV.i64) (fun _ => rfl) rfl (SelL.arr0 (f := AV.i64) (fun _ => rfl) rfl trivial)))
        · refine RunC.regionW ?_
          refine ROps.l (r := AV.agg [AV.i64 a0, AV.i64 a1, AV.sl a2.length (a2.map AV.f32)]) rfl rfl rfl (LOp.loadAgg agg27 siz27 rfl rfl rfl rfl) ?_
          refine ROps.d (r := AV.b true) (fs := []) (Γ' := [⟨1, some [AV.i64 0, AV.i64 0, AV.nilsl]⟩, ⟨0, none⟩, ⟨0, none⟩, ⟨0, none⟩, ⟨0, none⟩, ⟨0, none⟩, ⟨0, none⟩, ⟨0, none⟩, ⟨0, none⟩, ⟨0, none⟩]) rfl rfl rfl (TOp.eqb (TOp.callB (CallAs.func ent45 rfl rfl) (Bors.cons (Bor.agg (Bors.cons (Bor.pure rfl) (Bors.cons (Bor.pure rfl) (Bors.cons (Bor.sl (fun _ => rfl)) Bors.nil)))) Bors.nil) rfl rfl (i_ValidMatrix_ok a0 a1 a2 r1 hf1)) hc2) rfl ?_
          refine ROps.l (r := AV.b false) rfl rfl rfl (LOp.eqb (LOp.not rfl rfl) rfl) ?_
          refine ROps.l (r := AV.b false) rfl rfl rfl (LOp.move rfl rfl) ?_
          refine ROps.l (r := AV.f32 a3) rfl rfl rfl (LOp.move rfl rfl) ?_
          refine ROps.d (r := AV.b true) (fs := []) (Γ' := [⟨1, some [AV.i64 0, AV.i64 0, AV.nilsl]⟩, ⟨0, none⟩, ⟨0, none⟩, ⟨0, none⟩, ⟨0, none⟩, ⟨0, none⟩, ⟨0, none⟩, ⟨0, none⟩, ⟨0, none⟩, ⟨0, none⟩]) rfl rfl rfl (TOp.eqb (TOp.callB (CallAs.func ent46 rfl rfl) (Bors.cons (Bor.pure rfl) Bors.nil) rfl rfl (i_IsFinite_ok a3 r2 hf3)) hc4) rfl ?_
          refine ROps.l (r := AV.b false) rfl rfl rfl (LOp.eqb (LOp.not rfl rfl) rfl) ?_
          refine ROps.l (r := AV.b false) rfl rfl rfl (LOp.pick_false rfl rfl rfl) ?_
          refine ROps.l (r := AV.b false) rfl rfl rfl (LOp.move rfl rfl) ?_
          refine ROps.l (r := AV.f32 a3) rfl rfl rfl (LOp.move rfl rfl) ?_
          refine ROps.l (r := AV.b false) rfl rfl rfl (LOp.eqb (LOp.flt rfl (OpF.tmp rfl) (OpF.const rfl (by kernel_rfl) (by kernel_rfl))) hc5) ?_
          refine ROps.l (r := AV.b false) rfl rfl rfl (LOp.pick_false rfl rfl rfl) ?_
          refine ROps.l (r := AV.b false) rfl rfl rfl (LOp.move rfl rfl) ?_
          refine ROps.l (r := AV.i64 a4) rfl rfl rfl (LOp.move rfl rfl) ?_
          refine ROps.d (r := AV.b false) (fs := []) (Γ' := [⟨1, some [AV.i64 0, AV.i64 0, AV.nilsl]⟩, ⟨0, none⟩, ⟨0, none⟩, ⟨0, none⟩, ⟨0, none⟩, ⟨0, none⟩, ⟨0, none⟩, ⟨0, none⟩, ⟨0, none⟩, ⟨0, none⟩]) rfl rfl rfl (TOp.eqb (TOp.callB (CallAs.func ent47 rfl rfl) (Bors.cons (Bor.pure rfl) Bors.nil) rfl rfl (i_isSide_ok a4 r3 hf6)) hc7) rfl ?_
          refine ROps.l (r := AV.b true) rfl rfl rfl (LOp.eqb (LOp.not rfl rfl) rfl) ?_
          refine ROps.l (r := AV.b true) rfl rfl rfl (LOp.pick_false rfl rfl rfl) ?_
          refine ROps.nil ?_
          refine RunC.wl (τ' := [(1, AV.f32 a3), (2, AV.i64 a4), (3, AV.ptr [AV.i64 a0, AV.i64 a1, AV.sl a2.length (a2.map AV.f32)]), (6, AV.optr 0 1 0), (39, AV.b true)]) (Γ' := [⟨1, some [AV.i64 0, AV.i64 0, AV.nilsl]⟩, ⟨0, none⟩, ⟨0, none⟩, ⟨0, none⟩, ⟨0, none⟩, ⟨0, none⟩, ⟨0, none⟩, ⟨0, none⟩, ⟨0, none⟩, ⟨0, none⟩]) ⟨(ALe.refl _), (ALe.refl _), (ALe.refl _), (ALe.refl _), (ALe.refl _), trivial⟩ ⟨⟨rfl, .inr rfl⟩, ⟨rfl, .inr rfl⟩, ⟨rfl, .inr rfl⟩, ⟨rfl, .inr rfl⟩, ⟨rfl, .inr rfl⟩, ⟨rfl, .inr rfl⟩, ⟨rfl, .inr rfl⟩, ⟨rfl, .inr rfl⟩, ⟨rfl, .inr rfl⟩, ⟨rfl, .inr rfl⟩, trivial⟩ ?_
          refine RunC.cond_true rfl rfl ?_
          refine RunC.seq ?_
          refine RunC.regionW ?_
          refine ROps.l (r := AV.agg [AV.i64 0, AV.i64 0, AV.nilsl]) rfl rfl rfl (LOp.build (qs := []) zer27 zok27 und27 plc27 rfl trivial rfl) ?_
          refine ROps.store_le (r := AV.agg [AV.i64 0, AV.i64 0, AV.nilsl]) (l' := [AV.i64 0, AV.i64 0, AV.nilsl]) (Γ' := [⟨1, some [AV.i64 0, AV.i64 0, AV.nilsl]⟩, ⟨0, none⟩, ⟨0, none⟩, ⟨0, none⟩, ⟨0, none⟩, ⟨0, none⟩, ⟨0, none⟩, ⟨0, none⟩, ⟨0, none⟩, ⟨0, none⟩]) rfl siz27 rfl rfl rfl (ALe.refl _) rfl rfl rfl rfl (Nat.le_of_ble_eq_true rfl) rfl rfl ?_
          refine ROps.l (r := AV.nilsl) rfl rfl rfl (LOp.assign rfl rfl) ?_
          refine ROps.l (r := AV.nilsl) rfl rfl rfl (LOp.assign rfl rfl) ?_
          refine ROps.l (r := AV.b false) rfl rfl rfl (LOp.assign rfl rfl) ?_
          refine ROps.nil ?_
          refine RunC.nil_cell (l' := [AV.i64 0, AV.i64 0, AV.oref 1 1 0 0]) (Γ' := [⟨1, some [AV.i64 0, AV.i64 0, AV.oref 1 1 0 0]⟩, ⟨1, some (([] : List F).map AV.f32)⟩, ⟨0, none⟩, ⟨0, none⟩, ⟨0, none⟩, ⟨0, none⟩, ⟨0, none⟩, ⟨0, none⟩, ⟨0, none⟩, ⟨0, none⟩]) 0 2 1 rfl rfl rfl rfl rfl ?_
          refine RunC.nil_slot (Γ' := [⟨1, some [AV.i64 0, AV.i64 0, AV.oref 1 1 0 0]⟩, ⟨1, some (([] : List F).map AV.f32)⟩, ⟨1, some (([] : List Int).map AV.i64)⟩, ⟨0, none⟩, ⟨0, none⟩, ⟨0, none⟩, ⟨0, none⟩, ⟨0, none⟩, ⟨0, none⟩, ⟨0, none⟩]) 7 2 rfl rfl rfl ?_
          refine RunC.nil_slot (Γ' := [⟨1, some [AV.i64 0, AV.i64 0, AV.oref 1 1 0 0]⟩, ⟨1, some (([] : List F).map AV.f32)⟩, ⟨1, some (([] : List Int).map AV.i64)⟩, ⟨1, some (([] : List Int).map AV.i64)⟩, ⟨0, none⟩, ⟨0, none⟩, ⟨0, none⟩, ⟨0, none⟩, ⟨0, none⟩, ⟨0, none⟩]) 8 3 rfl rfl rfl ?_
          refine RunC.ret ?_
          have hq := Option.some.inj h
          obtain ⟨hq0, hq⟩ := Prod.mk.inj hq
          obtain ⟨hq1, hq⟩ := Prod.mk.inj hq
          obtain ⟨hq2, hq⟩ := Prod.mk.inj hq
          obtain ⟨hq3, hq⟩ := Prod.mk.inj hq
          obtain ⟨hq4, hq⟩ := Prod.mk.inj hq
          subst q0
          subst q1
          subst q2
          subst q3
          subst q4
          subst q5
          exact bodyQ.mk (r' := AV.tup [AV.agg [AV.i64 0, AV.i64 0, AV.oref 1 1 0 (([] : List F).length)], AV.oref 2 1 0 (([] : List Int).length), AV.oref 3 1 0 (([] : List Int).length), AV.b false]) [(1, 1), (2, 1), (3, 1)] (.inr rfl) rfl (show List.Nodup [1, 2, 3] from by decide) rfl rfl (Res.eq (Res.four rfl (RV.cell agg27 siz27 rfl rfl rfl rfl) (RV.tmp rfl) (RV.tmp rfl) (RV.tmp rfl)) (by rw [(show ([] : List F).length = 0 from rfl), (show ([] : List Int).length = 0 from rfl)] <;> rfl)) (SelL.arr0 (f := AV.f32) (fun _ => rfl) rfl (SelL.arr0 (f := AV.i64) (fun _ => rfl) rfl (SelL.arr0 (f := AV.i64) (fun _ => rfl) rfl trivial)))
    · refine RunC.regionW ?_
      refine ROps.l (r := AV.agg [AV.i64 a0, AV.i64 a1, AV.sl a2.length (a2.map AV.f32)]) rfl rfl rfl (LOp.loadAgg agg27 siz27 rfl rfl rfl rfl) ?_
      refine ROps.d (r := AV.b true) (fs := []) (Γ' := [⟨1, some [AV.i64 0, AV.i64 0, AV.nilsl]⟩, ⟨0, none⟩, ⟨0, none⟩, ⟨0, none⟩, ⟨0, none⟩, ⟨0, none⟩, ⟨0, none⟩, ⟨0, none⟩, ⟨0, none⟩, ⟨0, none⟩]) rfl rfl rfl (TOp.eqb (TOp.callB (CallAs.func ent45 rfl rfl) (Bors.cons (Bor.agg (Bors.cons (Bor.pure rfl) (Bors.cons (Bor.pure rfl) (Bors.cons (Bor.sl (fun _ => rfl)) Bors.nil)))) Bors.nil) rfl rfl (i_ValidMatrix_ok a0 a1 a2 r1 hf1)) hc2) rfl ?_
      refine ROps.l (r := AV.b false) rfl rfl rfl (LOp.eqb (LOp.not rfl rfl) rfl) ?_
      refine ROps.l (r := AV.b false) rfl rfl rfl (LOp.move rfl rfl) ?_
      refine ROps.l (r := AV.f32 a3) rfl rfl rfl (LOp.move rfl rfl) ?_
      refine ROps.d (r := AV.b false) (fs := []) (Γ' := [⟨1, some [AV.i64 0, AV.i64 0, AV.nilsl]⟩, ⟨0, none⟩, ⟨0, none⟩, ⟨0, none⟩, ⟨0, none⟩, ⟨0, none⟩, ⟨0, none⟩, ⟨0, none⟩, ⟨0, none⟩, ⟨0, none⟩]) rfl rfl rfl (TOp.eqb (TOp.callB (CallAs.func ent46 rfl rfl) (Bors.cons (Bor.pure rfl) Bors.nil) rfl rfl (i_IsFinite_ok a3 r2 hf3)) hc4) rfl ?_
      refine ROps.l (r := AV.b true) rfl rfl rfl (LOp.eqb (LOp.not rfl rfl) rfl) ?_
      refine ROps.l (r := AV.b true) rfl rfl rfl (LOp.pick_false rfl rfl rfl) ?_
      refine ROps.l (r := AV.b true) rfl rfl rfl (LOp.move rfl rfl) ?_
      refine ROps.s rfl rfl rfl ?_
      refine ROps.s rfl rfl rfl ?_
      refine ROps.l (r := AV.b true) rfl rfl rfl (LOp.pick_true rfl rfl rfl) ?_
      refine ROps.l (r := AV.b true) rfl rfl rfl (LOp.move rfl rfl) ?_
      refine ROps.s rfl rfl rfl ?_
      refine ROps.s rfl rfl rfl ?_
      refine ROps.s rfl rfl rfl ?_
      refine ROps.l (r := AV.b true) rfl rfl rfl (LOp.pick_true rfl rfl rfl) ?_
      refine ROps.nil ?_
      refine RunC.wl (τ' := [(1, AV.f32 a3), (2, AV.i64 a4), (3, AV.ptr [AV.i64 a0, AV.i64 a1, AV.sl a2.length (a2.map AV.f32)]), (6, AV.optr 0 1 0), (39, AV.b true)]) (Γ' := [⟨1, some [AV.i64 0, AV.i64 0, AV.nilsl]⟩, ⟨0, none⟩, ⟨0, none⟩, ⟨0, none⟩, ⟨0, none⟩, ⟨0, none⟩, ⟨0, none⟩, ⟨0, none⟩, ⟨0, none⟩, ⟨0, none⟩]) ⟨(ALe.refl _), (ALe.refl _), (ALe.refl _), (ALe.refl _), (ALe.refl _), trivial⟩ ⟨⟨rfl, .inr rfl⟩, ⟨rfl, .inr rfl⟩, ⟨rfl, .inr rfl⟩, ⟨rfl, .inr rfl⟩, ⟨rfl, .inr rfl⟩, ⟨rfl, .inr rfl⟩, ⟨rfl, .inr rfl⟩, ⟨rfl, .inr rfl⟩, ⟨rfl, .inr rfl⟩, ⟨rfl, .inr rfl⟩, trivial⟩ ?_
      refine RunC.cond_true rfl rfl ?_
      refine RunC.seq ?_
      refine RunC.regionW ?_
      refine ROps.l (r := AV.agg [AV.i64 0, AV.i64 0, AV.nilsl]) rfl rfl rfl (LOp.build (qs := []) zer27 zok27 und27 plc27 rfl trivial rfl) ?_
      refine ROps.store_le (r := AV.agg [AV.i64 0, AV.i64 0, AV.nilsl]) (l' := [AV.i64 0, AV.i64 0, AV.nilsl]) (Γ' := [⟨1, some [AV.i64 0, AV.i64 0, AV.nilsl]⟩, ⟨0, none⟩, ⟨0, none⟩, ⟨0, none⟩, ⟨0, none⟩, ⟨0, none⟩, ⟨0, none⟩, ⟨0, none⟩, ⟨0, none⟩, ⟨0, none⟩]) rfl siz27 rfl rfl rfl (ALe.refl _) rfl rfl rfl rfl (Nat.le_of_ble_eq_true rfl) rfl rfl ?_
      refine ROps.l (r := AV.nilsl) rfl rfl rfl (LOp.assign rfl rfl) ?_
      refine ROps.l (r := AV.nilsl) rfl rfl rfl (LOp.assign rfl rfl) ?_
      refine ROps.l (r := AV.b false) rfl rfl rfl (LOp.assign rfl rfl) ?_
      refine ROps.nil ?_
      refine RunC.nil_cell (l' := [AV.i64 0, AV.i64 0, AV.oref 1 1 0 0]) (Γ' := [⟨1, some [AV.i64 0, AV.i64 0, AV.oref 1 1 0 0]⟩, ⟨1, some (([] : List F).map AV.f32)⟩, ⟨0, none⟩, ⟨0, none⟩, ⟨0, none⟩, ⟨0, none⟩, ⟨0, none⟩, ⟨0, none⟩, ⟨0, none⟩, ⟨0, none⟩]) 0 2 1 rfl rfl rfl rfl rfl ?_
      refine RunC.nil_slot (Γ' := [⟨1, some [AV.i64 0, AV.i64 0, AV.oref 1 1 0 0]⟩, ⟨1, some (([] : List F).map AV.f32)⟩, ⟨1, some (([] : List Int).map AV.i64)⟩, ⟨0, none⟩, ⟨0, none⟩, ⟨0, none⟩, ⟨0, none⟩, ⟨0, none⟩, ⟨0, none⟩, ⟨0, none⟩]) 7 2 rfl rfl rfl ?_
      refine RunC.nil_slot (Γ' := [⟨1, some [AV.i64 0, AV.i64 0, AV.oref 1 1 0 0]⟩, ⟨1, some (([] : List F).map AV.f32)⟩, ⟨1, some (([] : List Int).map AV.i64)⟩, ⟨1, some (([] : List Int).map AV.i64)⟩, ⟨0, none⟩, ⟨0, none⟩, ⟨0, none⟩, ⟨0, none⟩, ⟨0, none⟩, ⟨0, none⟩]) 8 3 rfl rfl rfl ?_
      refine RunC.ret ?_
      have hq := Option.some.inj h
      obtain ⟨hq0, hq⟩ := Prod.mk.inj hq
      obtain ⟨hq1, hq⟩ := Prod.mk.inj hq
      obtain ⟨hq2, hq⟩ := Prod.mk.inj hq
      obtain ⟨hq3, hq⟩ := Prod.mk.inj hq
      obtain ⟨hq4, hq⟩ := Prod.mk.inj hq
      subst q0
      subst q1
      subst q2
      subst q3
      subst q4
      subst q5
      exact bodyQ.mk (r' := AV.tup [AV.agg [AV.i64 0, AV.i64 0, AV.oref 1 1 0 (([] : List F).length)], AV.oref 2 1 0 (([] : List Int).length), AV.oref 3 1 0 (([] : List Int).length), AV.b false]) [(1, 1), (2, 1), (3, 1)] (.inr rfl) rfl (show List.Nodup [1, 2, 3] from by decide) rfl rfl (Res.eq (Res.four rfl (RV.cell agg27 siz27 rfl rfl rfl rfl) (RV.tmp rfl) (RV.tmp rfl) (RV.tmp rfl)) (by rw [(show ([] : List F).length = 0 from rfl), (show ([] : List Int).length = 0 from rfl)] <;> rfl)) (SelL.arr0 (f := AV.f32) (fun _ => rfl) rfl (SelL.arr0 (f := AV.i64) (fun _ => rfl) rfl (SelL.arr0 (f := AV.i64) (fun _ => rfl) rfl trivial)))
  · refine RunC.regionW ?_
    refine ROps.l (r := AV.agg [AV.i64 a0, AV.i64 a1, AV.sl a2.length (a2.map AV.f32)]) rfl rfl rfl (LOp.loadAgg agg27 siz27 rfl rfl rfl rfl) ?_
    refine ROps.d (r := AV.b false) (fs := []) (Γ' := [⟨1, some [AV.i64 0, AV.i64 0, AV.nilsl]⟩, ⟨0, none⟩, ⟨0, none⟩, ⟨0, none⟩, ⟨0, none⟩, ⟨0, none⟩, ⟨0, none⟩, ⟨0, none⟩, ⟨0, none⟩, ⟨0, none⟩]) rfl rfl rfl (TOp.eqb (TOp.callB (CallAs.func ent45 rfl rfl) (Bors.cons (Bor.agg (Bors.cons (Bor.pure rfl) (Bors.cons (Bor.pure rfl) (Bors.cons (Bor.sl (fun _ => rfl)) Bors.nil)))) Bors.nil) rfl rfl (i_ValidMatrix_ok a0 a1 a2 r1 hf1)) hc2) rfl ?_
    refine ROps.l (r := AV.b true) rfl rfl rfl (LOp.eqb (LOp.not rfl rfl) rfl) ?_
    refine ROps.l (r := AV.b true) rfl rfl rfl (LOp.move rfl rfl) ?_
    refine ROps.s rfl rfl rfl ?_
    refine ROps.s rfl rfl rfl ?_
    refine ROps.s rfl rfl rfl ?_
    refine ROps.l (r := AV.b true) rfl rfl rfl (LOp.pick_true rfl rfl rfl) ?_
    refine ROps.l (r := AV.b true) rfl rfl rfl (LOp.move rfl rfl) ?_
    refine ROps.s rfl rfl rfl ?_
    refine ROps.s rfl rfl rfl ?_
    refine ROps.l (r := AV.b true) rfl rfl rfl (LOp.pick_true rfl rfl rfl) ?_
    refine ROps.l (r := AV.b true) rfl rfl rfl (LOp.move rfl rfl) ?_
    refine ROps.s rfl rfl rfl ?_
    refine ROps.s rfl rfl rfl ?_
    refine ROps.s rfl rfl rfl ?_
    refine ROps.l (r := AV.b true) rfl rfl rfl (LOp.pick_true rfl rfl rfl) ?_
    refine ROps.nil ?_
    refine RunC.wl (τ' := [(1, AV.f32 a3), (2, AV.i64 a4), (3, AV.ptr [AV.i64 a0, AV.i64 a1, AV.sl a2.length (a2.map AV.f32)]), (6, AV.optr 0 1 0), (39, AV.b true)]) (Γ' := [⟨1, some [AV.i64 0, AV.i64 0, AV.nilsl]⟩, ⟨0, none⟩, ⟨0, none⟩, ⟨0, none⟩, ⟨0, none⟩, ⟨0, none⟩, ⟨0, none⟩, ⟨0, none⟩, ⟨0, none⟩, ⟨0, none⟩]) ⟨(ALe.refl _), (ALe.refl _), (ALe.refl _), (ALe.refl _), (ALe.refl _), trivial⟩ ⟨⟨rfl, .inr rfl⟩, ⟨rfl, .inr rfl⟩, ⟨rfl, .inr rfl⟩, ⟨rfl, .inr rfl⟩, ⟨rfl, .inr rfl⟩, ⟨rfl, .inr rfl⟩, ⟨rfl, .inr rfl⟩, ⟨rfl, .inr rfl⟩, ⟨rfl, .inr rfl⟩, ⟨rfl, .inr rfl⟩, trivial⟩ ?_
    refine RunC.cond_true rfl rfl ?_
    refine RunC.seq ?_
    refine RunC.regionW ?_
    refine ROps.l (r := AV.agg [AV.i64 0, AV.i64 0, AV.nilsl]) rfl rfl rfl (LOp.build (qs := []) zer27 zok27 und27 plc27 rfl trivial rfl) ?_
    refine ROps.store_le (r := AV.agg [AV.i64 0, AV.i64 0, AV.nilsl]) (l' := [AV.i64 0, AV.i64 0, AV.nilsl]) (Γ' := [⟨1, some [AV.i64 0, AV.i64 0, AV.nilsl]⟩, ⟨0, none⟩, ⟨0, none⟩, ⟨0, none⟩, ⟨0, none⟩, ⟨0, none⟩, ⟨0, none⟩, ⟨0, none⟩, ⟨0, none⟩, ⟨0, none⟩]) rfl siz27 rfl rfl rfl (ALe.refl _) rfl rfl rfl rfl (Nat.le_of_ble_eq_true rfl) rfl rfl ?_
    refine ROps.l (r := AV.nilsl) rfl rfl rfl (LOp.assign rfl rfl) ?_
    refine ROps.l (r := AV.nilsl) rfl rfl rfl (LOp.assign rfl rfl) ?_
    refine ROps.l (r := AV.b false) rfl rfl rfl (LOp.assign rfl rfl) ?_
    refine ROps.nil ?_
    refine RunC.nil_cell (l' := [AV.i64 0, AV.i64 0, AV.oref 1 1 0 0]) (Γ' := [⟨1, some [AV.i64 0, AV.i64 0, AV.oref 1 1 0 0]⟩, ⟨1, some (([] : List F).map AV.f32)⟩, ⟨0, none⟩, ⟨0, none⟩, ⟨0, none⟩, ⟨0, none⟩, ⟨0, none⟩, ⟨0, none⟩, ⟨0, none⟩, ⟨0, none⟩]) 0 2 1 rfl rfl rfl rfl rfl ?_
    refine RunC.nil_slot (Γ' := [⟨1, some [AV.i64 0, AV.i64 0, AV.oref 1 1 0 0]⟩, ⟨1, some (([] : List F).map AV.f32)⟩, ⟨1, some (([] : List Int).map AV.i64)⟩, ⟨0, none⟩, ⟨0, none⟩, ⟨0, none⟩, ⟨0, none⟩, ⟨0, none⟩, ⟨0, none⟩, ⟨0, none⟩]) 7 2 rfl rfl rfl ?_
    refine RunC.nil_slot (Γ' := [⟨1, some [AV.i64 0, AV.i64 0, AV.oref 1 1 0 0]⟩, ⟨1, some (([] : List F).map AV.f32)⟩, ⟨1, some (([] : List Int).map AV.i64)⟩, ⟨1, some (([] : List Int).map AV.i64)⟩, ⟨0, none⟩, ⟨0, none⟩, ⟨0, none⟩, ⟨0, none⟩, ⟨0, none⟩, ⟨0, none⟩]) 8 3 rfl rfl rfl ?_
    refine RunC.ret ?_
    have hq := Option.some.inj h
    obtain ⟨hq0, hq⟩ := Prod.mk.inj hq
    obtain ⟨hq1, hq⟩ := Prod.mk.inj hq
    obtain ⟨hq2, hq⟩ := Prod.mk.inj hq
    obtain ⟨hq3, hq⟩ := Prod.mk.inj hq
    obtain ⟨hq4, hq⟩ := Prod.mk.inj hq
    subst q0
    subst q1
    subst q2
    subst q3
    subst q4
    subst q5
    exact bodyQ.mk (r' := AV.tup [AV.agg [AV.i64 0, AV.i64 0, AV.oref 1 1 0 (([] : List F).length)], AV.oref 2 1 0 (([] : List Int).length), AV.oref 3 1 0 (([] : List Int).length), AV.b false]) [(1, 1), (2, 1), (3, 1)] (.inr rfl) rfl (show List.Nodup [1, 2, 3] from by decide) rfl rfl (Res.eq (Res.four rfl (RV.cell agg27 siz27 rfl rfl rfl rfl) (RV.tmp rfl) (RV.tmp rfl) (RV.tmp rfl)) (by rw [(show ([] : List F).length = 0 from rfl), (show ([] : List Int).length = 0 from rfl)] <;> rfl)) (SelL.arr0 (f := AV.f32) (fun _ => rfl) rfl (SelL.arr0 (f := AV.i64) (fun _ => rfl) rfl (SelL.arr0 (f := AV.i64) (fun _ => rfl) rfl trivial)))
noncomputable def w_sameFloat_k1 (a0 : F) (a1 : F) : Option (Bool) :=
  some (feq .f64 a0 a1)
noncomputable def w_sameFloat (a0 : F) (a1 : F) : Option (Bool) :=
  bsel (!feq .f64 a0 a0) (
    some (!feq .f64 a1 a1)) (
    bsel (!feq .f64 a1 a1) (
      some false) (
      bsel (feq .f64 a0 (some 0)) (
        bsel (feq .f64 a1 (some 0)) (
          olet (fop .quo .f64 (some 4607182418800017408) a0) fun (x1 : F) =>
          olet (fop .quo .f64 (some 4607182418800017408) a1) fun (x2 : F) =>
          some ((flt .f64 (some 0) x1) == (flt .f64 (some 0) x2))) (
          w_sameFloat_k1 a0 a1)) (
        w_sameFloat_k1 a0 a1)))
theorem w_sameFloat_ok (a0 : F) (a1 : F) (q0 : Bool) (h : w_sameFloat a0 a1 = some q0) : Ev Try.prog 21 [AV.f64 a0, AV.f64 a1] [] (AV.b q0) [] := by
  refine Ev.start Try.func21 rfl rfl 0 (τ := [(0, AV.f64 a0), (1, AV.f64 a1)]) rfl (Γ' := []) rfl (n := 37) rfl (g := 0) rfl ?_
  unfold w_sameFloat at h
  refine RunC.seq ?_
  refine RunC.regionW ?_
  refine ROps.l (r := AV.b false) rfl rfl rfl (LOp.assign rfl rfl) ?_
  refine ROps.nil ?_
  refine RunC.seq ?_
  refine RunC.seq ?_
  rcases bsel_some h with ⟨hc1, h⟩ | ⟨hc1, h⟩
  · refine RunC.regionW ?_
    refine ROps.l (r := AV.f64 a0) rfl rfl rfl (LOp.move rfl rfl) ?_
    refine ROps.l (r := AV.f64 a0) rfl rfl rfl (LOp.move rfl rfl) ?_
    refine ROps.l (r := AV.b true) rfl rfl rfl (LOp.eqb (LOp.fne rfl (OpF.tmp rfl) (OpF.tmp rfl)) hc1) ?_
    refine ROps.l (r := AV.b true) rfl rfl rfl (LOp.move rfl rfl) ?_
    refine ROps.s rfl rfl rfl ?_
    refine ROps.s rfl rfl rfl ?_
    refine ROps.s rfl rfl rfl ?_
    refine ROps.l (r := AV.b true) rfl rfl rfl (LOp.pick_true rfl rfl rfl) ?_
    refine ROps.nil ?_
    refine RunC.cond_true rfl rfl ?_
    refine RunC.seq ?_
    refine RunC.regionW ?_
    refine ROps.l (r := AV.f64 a0) rfl rfl rfl (LOp.move rfl rfl) ?_
    refine ROps.l (r := AV.f64 a0) rfl rfl rfl (LOp.move rfl rfl) ?_
    refine ROps.l (r := AV.b true) rfl rfl rfl (LOp.eqb (LOp.fne rfl (OpF.tmp rfl) (OpF.tmp rfl)) hc1) ?_
    refine ROps.l (r := AV.b true) rfl rfl rfl (LOp.move rfl rfl) ?_
    refine ROps.l (r := AV.f64 a1) rfl rfl rfl (LOp.move rfl rfl) ?_
    refine ROps.l (r := AV.f64 a1) rfl rfl rfl (LOp.move rfl rfl) ?_
    refine ROps.l (r := AV.b (!feq .f64 a1 a1)) rfl rfl rfl (LOp.fne rfl (OpF.tmp rfl) (OpF.tmp rfl)) ?_
    refine ROps.l (r := AV.b (!feq .f64 a1 a1)) rfl rfl rfl (LOp.pick_true rfl rfl rfl) ?_
    refine ROps.l (r := AV.b (!feq .f64 a1 a1)) rfl rfl rfl (LOp.assign rfl rfl) ?_
    refine ROps.nil ?_
    refine RunC.ret ?_
    have hq := Option.some.inj h
    subst q0
    exact bodyQ.pure (.inr rfl) rfl (Res.one rfl (RV.tmp rfl))
  · rcases bsel_some h with ⟨hc2, h⟩ | ⟨hc2, h⟩
    · refine RunC.regionW ?_
      refine ROps.l (r := AV.f64 a0) rfl rfl rfl (LOp.move rfl rfl) ?_
      refine ROps.l (r := AV.f64 a0) rfl rfl rfl (LOp.move rfl rfl) ?_
      refine ROps.l (r := AV.b false) rfl rfl rfl (LOp.eqb (LOp.fne rfl (OpF.tmp rfl) (OpF.tmp rfl)) hc1) ?_
      refine ROps.l (r := AV.b false) rfl rfl rfl (LOp.move rfl rfl) ?_
      refine ROps.l (r := AV.f64 a1) rfl rfl rfl (LOp.move rfl rfl) ?_
      refine ROps.l (r := AV.f64 a1) rfl rfl rfl (LOp.move rfl rfl) ?_
      refine ROps.l (r := AV.b true) rfl rfl rfl (LOp.eqb (LOp.fne rfl (OpF.tmp rfl) (OpF.tmp rfl)) hc2) ?_
      refine ROps.l (r := AV.b true) rfl rfl rfl (LOp.pick_false rfl rfl rfl) ?_
      refine ROps.nil ?_
      refine RunC.cond_true rfl rfl ?_
      refine RunC.seq ?_
      refine RunC.regionW ?_
      refine ROps.l (r := AV.f64 a0) rfl rfl rfl (LOp.move rfl rfl) ?_
      refine ROps.l (r := AV.f64 a0) rfl rfl rfl (LOp.move rfl rfl) ?_
      refine ROps.l (r := AV.b false) rfl rfl rfl (LOp.eqb (LOp.fne rfl (OpF.tmp rfl) (OpF.tmp rfl)) hc1) ?_
      refine ROps.l (r := AV.b false) rfl rfl rfl (LOp.move rfl rfl) ?_
      refine ROps.s rfl rfl rfl ?_
      refine ROps.s rfl rfl rfl ?_
      refine ROps.s rfl rfl rfl ?_
      refine ROps.l (r := AV.b false) rfl rfl rfl (LOp.pick_false rfl rfl rfl) ?_
      refine ROps.l (r := AV.b false) rfl rfl rfl (LOp.assign rfl rfl) ?_
      refine ROps.nil ?_
      refine RunC.ret ?_
      have hq := Option.some.inj h
      subst q0
      exact bodyQ.pure (.inr rfl) rfl (Res.one rfl (RV.tmp rfl))
    · refine RunC.regionW ?_
      refine ROps.l (r := AV.f64 a0) rfl rfl rfl (LOp.move rfl rfl) ?_
      refine ROps.l (r := AV.f64 a0) rfl rfl rfl (LOp.move rfl rfl) ?_
      refine ROps.l (r := AV.b false) rfl rfl rfl (LOp.eqb (LOp.fne rfl (OpF.tmp rfl) (OpF.tmp rfl)) hc1) ?_
      refine ROps.l (r := AV.b false) rfl rfl rfl (LOp.move rfl rfl) ?_
      refine ROps.l (r := AV.f64 a1) rfl rfl rfl (LOp.move rfl rfl) ?_
      refine ROps.l (r := AV.f64 a1) rfl rfl rfl (LOp.move rfl rfl) ?_
      refine ROps.l (r := AV.b false) rfl rfl rfl (LOp.eqb (LOp.fne rfl (OpF.tmp rfl) (OpF.tmp rfl)) hc2) ?_
      refine ROps.l (r := AV.b false) rfl rfl rfl (LOp.pick_false rfl rfl rfl) ?_
      refine ROps.nil ?_
      refine RunC.cond_false rfl rfl ?_
      refine RunC.skip ?_
      refine RunC.seq ?_
      refine RunC.cutN (fun τ Γ =>  WeakLe τ [(0, AV.f64 a0), (1, AV.f64 a1)] ∧ DeadLe Γ [] ∧ w_sameFloat_k1 a0 a1 = some q0) ?_ ?_
      · refine RunC.seq ?_
        rcases bsel_some h with ⟨hc3, h⟩ | ⟨hc3, h⟩
        · rcases bsel_some h with ⟨hc4, h⟩ | ⟨hc4, h⟩
          · refine RunC.regionW ?_
            refine ROps.l (r := AV.f64 a0) rfl rfl rfl (LOp.move rfl rfl) ?_
            refine ROps.l (r := AV.b true) rfl rfl rfl (LOp.eqb (LOp.feq rfl (OpF.tmp rfl) (OpF.const rfl (by kernel_rfl) (by kernel_rfl))) hc3) ?_
            refine ROps.l (r := AV.b true) rfl rfl rfl (LOp.move rfl rfl) ?_
            refine ROps.l (r := AV.f64 a1) rfl rfl rfl (LOp.move rfl rfl) ?_
            refine ROps.l (r := AV.b true) rfl rfl rfl (LOp.eqb (LOp.feq rfl (OpF.tmp rfl) (OpF.const rfl (by kernel_rfl) (by kernel_rfl))) hc4) ?_
            refine ROps.l (r := AV.b true) rfl rfl rfl (LOp.pick_true rfl rfl rfl) ?_
            refine ROps.nil ?_
            refine RunC.wl (τ' := [(0, AV.f64 a0), (1, AV.f64 a1), (26, AV.b true)]) (Γ' := []) ⟨(ALe.refl _), (ALe.refl _), (ALe.refl _), trivial⟩ trivial ?_
            refine RunC.cond_true rfl rfl ?_
            refine RunC.seq ?_
            obtain ⟨x1, hx5, h⟩ := olet_some h
            obtain ⟨x2, hx6, h⟩ := olet_some h
            refine RunC.regionW ?_
            refine ROps.l (r := AV.f64 a0) rfl rfl rfl (LOp.move rfl rfl) ?_
            refine ROps.d (r := AV.f64 x1) (fs := []) (Γ' := []) rfl rfl rfl (TOp.eqr (TOp.fop (.inr (.inr (.inr rfl))) rfl (OpF.const rfl (by kernel_rfl) (by kernel_rfl)) (OpF.tmp rfl)) (congrArg (AV.f .f64) hx5)) rfl ?_
            refine ROps.l (r := AV.b (flt .f64 (some 0) x1)) rfl rfl rfl (LOp.fgt rfl (OpF.tmp rfl) (OpF.const rfl (by kernel_rfl) (by kernel_rfl))) ?_
            refine ROps.l (r := AV.f64 a1) rfl rfl rfl (LOp.move rfl rfl) ?_
            refine ROps.d (r := AV.f64 x2) (fs := []) (Γ' := []) rfl rfl rfl (TOp.eqr (TOp.fop (.inr (.inr (.inr rfl))) rfl (OpF.const rfl (by kernel_rfl) (by kernel_rfl)) (OpF.tmp rfl)) (congrArg (AV.f .f64) hx6)) rfl ?_
            refine ROps.l (r := AV.b (flt .f64 (some 0) x2)) rfl rfl rfl (LOp.fgt rfl (OpF.tmp rfl) (OpF.const rfl (by kernel_rfl) (by kernel_rfl))) ?_
            refine ROps.l (r := AV.b ((flt .f64 (some 0) x1) == (flt .f64 (some 0) x2))) rfl rfl rfl (LOp.eqlb pun4 rfl rfl rfl) ?_
            refine ROps.l (r := AV.b ((flt .f64 (some 0) x1) == (flt .f64 (some 0) x2))) rfl rfl rfl (LOp.assign rfl rfl) ?_
            refine ROps.nil ?_
            refine RunC.ret ?_
            have hq := Option.some.inj h
            subst q0
            exact bodyQ.pure (.inr rfl) rfl (Res.one rfl (RV.tmp rfl))
          · refine RunC.regionW ?_
            refine ROps.l (r := AV.f64 a0) rfl rfl rfl (LOp.move rfl rfl) ?_
            refine ROps.l (r := AV.b true) rfl rfl rfl (LOp.eqb (LOp.feq rfl (OpF.tmp rfl) (OpF.const rfl (by kernel_rfl) (by kernel_rfl))) hc3) ?_
            refine ROps.l (r := AV.b true) rfl rfl rfl (LOp.move rfl rfl) ?_
            refine ROps.l (r := AV.f64 a1) rfl rfl rfl (LOp.move rfl rfl) ?_
            refine ROps.l (r := AV.b false) rfl rfl rfl (LOp.eqb (LOp.feq rfl (OpF.tmp rfl) (OpF.const rfl (by kernel_rfl) (by kernel_rfl))) hc4) ?_
            refine ROps.l (r := AV.b false) rfl rfl rfl (LOp.pick_true rfl rfl rfl) ?_
            refine ROps.nil ?_
            refine RunC.wl (τ' := [(0, AV.f64 a0), (1, AV.f64 a1), (26, AV.b false)]) (Γ' := []) ⟨(ALe.refl _), (ALe.refl _), (ALe.refl _), trivial⟩ trivial ?_
            refine RunC.cond_false rfl rfl ?_
            refine RunC.skip ?_
            exact ⟨⟨(ALe.refl _), (ALe.refl _), trivial⟩, trivial, h⟩
        · refine RunC.regionW ?_
          refine ROps.l (r := AV.f64 a0) rfl rfl rfl (LOp.move rfl rfl) ?_
          refine ROps.l (r := AV.b false) rfl rfl rfl (LOp.eqb (LOp.feq rfl (OpF.tmp rfl) (OpF.const rfl (by kernel_rfl) (by kernel_rfl))) hc3) ?_
          refine ROps.l (r := AV.b false) rfl rfl rfl (LOp.move rfl rfl) ?_
          refine ROps.s rfl rfl rfl ?_
          refine ROps.s rfl rfl rfl ?_
          refine ROps.l (r := AV.b false) rfl rfl rfl (LOp.pick_false rfl rfl rfl) ?_
          refine ROps.nil ?_
          refine RunC.wl (τ' := [(0, AV.f64 a0), (1, AV.f64 a1), (26, AV.b false)]) (Γ' := []) ⟨(ALe.refl _), (ALe.refl _), (ALe.refl _), trivial⟩ trivial ?_
          refine RunC.cond_false rfl rfl ?_
          refine RunC.skip ?_
          exact ⟨⟨(ALe.refl _), (ALe.refl _), trivial⟩, trivial, h⟩
      · rintro τ2 Γ2 ⟨hw2, hd2, h⟩
        refine RunC.wl (τ' := [(0, AV.f64 a0), (1, AV.f64 a1)]) (Γ' := []) hw2 hd2 ?_
        unfold w_sameFloat_k1 at h
        refine RunC.seq ?_
        refine RunC.regionW ?_
        refine ROps.l (r := AV.f64 a0) rfl rfl rfl (LOp.move rfl rfl) ?_
        refine ROps.l (r := AV.f64 a1) rfl rfl rfl (LOp.move rfl rfl) ?_
        refine ROps.l (r := AV.b (feq .f64 a0 a1)) rfl rfl rfl (LOp.feq rfl (OpF.tmp rfl) (OpF.tmp rfl)) ?_
        refine ROps.l (r := AV.b (feq .f64 a0 a1)) rfl rfl rfl (LOp.assign rfl rfl) ?_
        refine ROps.nil ?_
        refine RunC.ret ?_
        have hq := Option.some.inj h
        subst q0
        exact bodyQ.pure (.inr rfl) rfl (Res.one rfl (RV.tmp rfl))
noncomputable def w_eqFloat32S_b1 (a0 : List F) (a1 : List F) (v1 : Int) : Option (LR (Int) (Unit) (Bool)) :=
  bsel (decide (v1 < (a0.length : Int))) (
    obind (at? a0 v1) fun (e2 : F) =>
    olet (fwiden e2) fun (x3 : F) =>
    obind (at? a1 v1) fun (e4 : F) =>
    olet (fwiden e4) fun (x5 : F) =>
    obind (w_sameFloat x3 x5) fun (r6 : Bool) =>
    bsel r6 (
      olet (IntKind.i64.wrap (v1 + 1)) fun (x7 : Int) =>
      some (LR.next x7)) (
      some (LR.ret false))) (
    some (LR.out ()))
noncomputable def w_eqFloat32S_s1 (a0 : List F) (a1 : List F) : (Int) → Option (LR (Int) (Unit) (Bool)) := fun s => w_eqFloat32S_b1 a0 a1 s
noncomputable def w_eqFloat32S_k1  : Option (Bool) :=
  some true
noncomputable def w_eqFloat32S (a0 : List F) (a1 : List F) : Option (Bool) :=
  bsel (!decide ((a0.length : Int) = (a1.length : Int))) (
    some false) (
    obind (loopM (w_eqFloat32S_s1 a0 a1) 0) fun z => osum z (fun _ => w_eqFloat32S_k1) (fun r => some r))
theorem w_eqFloat32S_ok (a0 : List F) (a1 : List F) (q0 : Bool) (h : w_eqFloat32S a0 a1 = some q0) : Ev Try.prog 24 [AV.sl a0.length (a0.map AV.f32), AV.sl a1.length (a1.map AV.f32)] [] (AV.b q0) [] := by
  refine Ev.start Try.func24 rfl rfl 0 (τ := [(0, AV.sl a0.length (a0.map AV.f32)), (1, AV.sl a1.length (a1.map AV.f32))]) rfl (Γ' := []) rfl (n := 29) rfl (g := 0) rfl ?_
  unfold w_eqFloat32S at h
  refine RunC.seq ?_
  refine RunC.regionW ?_
  refine ROps.l (r := AV.b false) rfl rfl rfl (LOp.assign rfl rfl) ?_
  refine ROps.nil ?_
  refine RunC.seq ?_
  refine RunC.seq ?_
  rcases bsel_some h with ⟨hc1, h⟩ | ⟨hc1, h⟩
  · refine RunC.regionW ?_
    refine ROps.l (r := AV.sl a0.length (a0.map AV.f32)) rfl rfl rfl (LOp.move rfl rfl) ?_
    refine ROps.l (r := AV.i64 (a0.length : Int)) rfl rfl rfl (LOp.len_sl und22 rfl rfl) ?_
    refine ROps.l (r := AV.sl a1.length (a1.map AV.f32)) rfl rfl rfl (LOp.move rfl rfl) ?_
    refine ROps.l (r := AV.i64 (a1.length : Int)) rfl rfl rfl (LOp.len_sl und22 rfl rfl) ?_
    refine ROps.l (r := AV.b true) rfl rfl rfl (LOp.eqb (LOp.neq rfl rfl rfl) hc1) ?_
    refine ROps.nil ?_
    refine RunC.cond_true rfl rfl ?_
    refine RunC.seq ?_
    refine RunC.regionW ?_
    refine ROps.l (r := AV.b false) rfl rfl rfl (LOp.assign rfl rfl) ?_
    refine ROps.nil ?_
    refine RunC.ret ?_
    have hq := Option.some.inj h
    subst q0
    exact bodyQ.pure (.inr rfl) rfl (Res.one rfl (RV.tmp rfl))
  · refine RunC.regionW ?_
    refine ROps.l (r := AV.sl a0.length (a0.map AV.f32)) rfl rfl rfl (LOp.move rfl rfl) ?_
    refine ROps.l (r := AV.i64 (a0.length : Int)) rfl rfl rfl (LOp.len_sl und22 rfl rfl) ?_
    refine ROps.l (r := AV.sl a1.length (a1.map AV.f32)) rfl rfl rfl (LOp.move rfl rfl) ?_
    refine ROps.l (r := AV.i64 (a1.length : Int)) rfl rfl rfl (LOp.len_sl und22 rfl rfl) ?_
    refine ROps.l (r := AV.b false) rfl rfl rfl (LOp.eqb (LOp.neq rfl rfl rfl) hc1) ?_
    refine ROps.nil ?_
    refine RunC.cond_false rfl rfl ?_
    refine RunC.skip ?_
    refine RunC.seq ?_
    refine RunC.seq ?_
    refine RunC.regionW ?_
    refine ROps.l (r := AV.i64 0) rfl rfl rfl (LOp.assign rfl rfl) ?_
    refine ROps.nil ?_
    obtain ⟨z2, hz_2, h⟩ := obind_some h
    refine RunC.cutN (fun τ Γ => WeakLe τ [] ∧ DeadLe Γ [] ∧ z2 = .inl ()) ?_ ?_
    · refine RunC.block (RunC.loop (RunL.loopM (x := z2) (w_eqFloat32S_s1 a0 a1) (fun (s : Int) τ Γ => WeakLe τ [(0, AV.sl a0.length (a0.map AV.f32)), (1, AV.sl a1.length (a1.map AV.f32)), (5, AV.i64 s)] ∧ DeadLe Γ []) ?_ _ _ _ hz_2 ⟨⟨(ALe.refl _), (ALe.refl _), (ALe.refl _), trivial⟩, trivial⟩))
      rintro v1 τ2 Γ2 y2_ ⟨hw2, hd2⟩ h2_ ho2 hr2
      refine RunC.wl (τ' := [(0, AV.sl a0.length (a0.map AV.f32)), (1, AV.sl a1.length (a1.map AV.f32)), (5, AV.i64 v1)]) (Γ' := []) hw2 hd2 ?_
      replace h2_ : w_eqFloat32S_b1 a0 a1 v1 = some y2_ := h2_
      unfold w_eqFloat32S_b1 at h2_
      refine RunC.seq ?_
      refine RunC.seq ?_
      rcases bsel_some h2_ with ⟨hc2, h2_⟩ | ⟨hc2, h2_⟩
      · refine RunC.regionW ?_
        refine ROps.l (r := AV.i64 v1) rfl rfl rfl (LOp.move rfl rfl) ?_
        refine ROps.l (r := AV.sl a0.length (a0.map AV.f32)) rfl rfl rfl (LOp.move rfl rfl) ?_
        refine ROps.l (r := AV.i64 (a0.length : Int)) rfl rfl rfl (LOp.len_sl und22 rfl rfl) ?_
        refine ROps.l (r := AV.b true) rfl rfl rfl (LOp.eqb (LOp.lss rfl rfl rfl) hc2) ?_
        refine ROps.nil ?_
        refine RunC.cond_true rfl rfl ?_
        refine RunC.skip ?_
        refine RunC.seq ?_
        refine RunC.block ?_
        refine RunC.seq ?_
        obtain ⟨e2, he3, h2_⟩ := obind_some h2_
        obtain ⟨x3, hx4, h2_⟩ := olet_some h2_
        obtain ⟨e4, he5, h2_⟩ := obind_some h2_
        obtain ⟨x5, hx6, h2_⟩ := olet_some h2_
        obtain ⟨r6, hf7, h2_⟩ := obind_some h2_
        rcases bsel_some h2_ with ⟨hc8, h2_⟩ | ⟨hc8, h2_⟩
        · refine RunC.region_draw (Γ' := []) 12 mixed 
            (TR.l (r := AV.sl a0.length (a0.map AV.f32)) rfl rfl (LOp.move rfl rfl) <|
            (TR.l (r := AV.i64 v1) rfl rfl (LOp.move rfl rfl) <|
            (TR.l (r := AV.ptr [AV.f32 e2]) rfl rfl (LOp.le (LOp.ix (f := AV.f32) und22 siz25 rfl rfl rfl rfl he3) ALe.ptr) <|
            (TR.l (r := AV.f32 e2) rfl rfl (LOp.load1 agg25 rfl rfl) <|
            (TR.d (r := AV.f64 x3) (fs := []) rfl rfl (TOp.eqr (TOp.widen (src := 25) (dst := 40) ⟨_, pun25⟩ pun40 rfl (OpF.tmp rfl)) (congrArg (AV.f .f64) hx4)) <|
            (TR.l (r := AV.sl a1.length (a1.map AV.f32)) rfl rfl (LOp.move rfl rfl) <|
            (TR.l (r := AV.i64 v1) rfl rfl (LOp.move rfl rfl) <|
            (TR.l (r := AV.ptr [AV.f32 e4]) rfl rfl (LOp.le (LOp.ix (f := AV.f32) und22 siz25 rfl rfl rfl rfl he5) ALe.ptr) <|
            (TR.l (r := AV.f32 e4) rfl rfl (LOp.load1 agg25 rfl rfl) <|
            (TR.d (r := AV.f64 x5) (fs := []) rfl rfl (TOp.eqr (TOp.widen (src := 25) (dst := 40) ⟨_, pun25⟩ pun40 rfl (OpF.tmp rfl)) (congrArg (AV.f .f64) hx6)) <|
            (TR.d (r := AV.b true) (fs := []) rfl rfl (TOp.eqb (TOp.callB (CallAs.func ent21 rfl rfl) (Bors.cons (Bor.pure rfl) (Bors.cons (Bor.pure rfl) Bors.nil)) rfl rfl (w_sameFloat_ok x3 x5 r6 hf7)) hc8) <|
            (TR.l (r := AV.b false) rfl rfl (LOp.eqb (LOp.not rfl rfl) rfl) <|
            TR.nil)))))))))))) rfl (by kernel_rfl) rfl fills_nil rfl ?_
          iterate 12 refine ROps.dropS ?_
          refine ROps.drop0 ?_
          refine ROps.nil ?_
          refine RunC.wl (τ' := [(0, AV.sl a0.length (a0.map AV.f32)), (1, AV.sl a1.length (a1.map AV.f32)), (5, AV.i64 v1), (28, AV.b false)]) (Γ' := []) ⟨(ALe.refl _), (ALe.refl _), (ALe.refl _), (ALe.refl _), trivial⟩ trivial ?_
          refine RunC.cond_false rfl rfl ?_
          refine RunC.skip ?_
          obtain ⟨x7, hx9, h2_⟩ := olet_some h2_
          refine RunC.regionW ?_
          refine ROps.l (r := AV.i64 v1) rfl rfl rfl (LOp.move rfl rfl) ?_
          refine ROps.l (r := AV.i64 x7) rfl rfl rfl (LOp.eqr (LOp.add rfl rfl rfl) (congrArg (AV.ik .i64) hx9)) ?_
          refine ROps.l (r := AV.i64 x7) rfl rfl rfl (LOp.assign rfl rfl) ?_
          refine ROps.nil ?_
          cases Option.some.inj h2_
          exact ⟨_, rfl, ⟨(ALe.refl _), (ALe.refl _), (ALe.refl _), trivial⟩, trivial⟩
        · refine RunC.region_draw (Γ' := []) 12 mixed 
            (TR.l (r := AV.sl a0.length (a0.map AV.f32)) rfl rfl (LOp.move rfl rfl) <|
            (TR.l (r := AV.i64 v1) rfl rfl (LOp.move rfl rfl) <|
            (TR.l (r := AV.ptr [AV.f32 e2]) rfl rfl (LOp.le (LOp.ix (f := AV.f32) und22 siz25 rfl rfl rfl rfl he3) ALe.ptr) <|
            (TR.l (r := AV.f32 e2) rfl rfl (LOp.load1 agg25 rfl rfl) <|
            (TR.d (r := AV.f64 x3) (fs := []) rfl rfl (TOp.eqr (TOp.widen (src := 25) (dst := 40) ⟨_, pun25⟩ pun40 rfl (OpF.tmp rfl)) (congrArg (AV.f .f64) hx4)) <|
            (TR.l (r := AV.sl a1.length (a1.map AV.f32)) rfl rfl (LOp.move rfl rfl) <|
            (TR.l (r := AV.i64 v1) rfl rfl (LOp.move rfl rfl) <|
            (TR.l (r := AV.ptr [AV.f32 e4]) rfl rfl (LOp.le (LOp.ix (f := AV.f32) und22 siz25 rfl rfl rfl rfl he5) ALe.ptr) <|
            (TR.l (r := AV.f32 e4) rfl rfl (LOp.load1 agg25 rfl rfl) <|
            (TR.d (r := AV.f64 x5) (fs := []) rfl rfl (TOp.eqr (TOp.widen (src := 25) (dst := 40) ⟨_, pun25⟩ pun40 rfl (OpF.tmp rfl)) (congrArg (AV.f .f64) hx6)) <|
            (TR.d (r := AV.b false) (fs := []) rfl rfl (TOp.eqb (TOp.callB (CallAs.func ent21 rfl rfl) (Bors.cons (Bor.pure rfl) (Bors.cons (Bor.pure rfl) Bors.nil)) rfl rfl (w_sameFloat_ok x3 x5 r6 hf7)) hc8) <|
            (TR.l (r := AV.b true) rfl rfl (LOp.eqb (LOp.not rfl rfl) rfl) <|
            TR.nil)))))))))))) rfl (by kernel_rfl) rfl fills_nil rfl ?_
          iterate 12 refine ROps.dropS ?_
          refine ROps.drop0 ?_
          refine ROps.nil ?_
          refine RunC.wl (τ' := [(0, AV.sl a0.length (a0.map AV.f32)), (1, AV.sl a1.length (a1.map AV.f32)), (5, AV.i64 v1), (28, AV.b true)]) (Γ' := []) ⟨(ALe.refl _), (ALe.refl _), (ALe.refl _), (ALe.refl _), trivial⟩ trivial ?_
          refine RunC.cond_true rfl rfl ?_
          refine RunC.seq ?_
          refine RunC.regionW ?_
          refine ROps.l (r := AV.b false) rfl rfl rfl (LOp.assign rfl rfl) ?_
          refine ROps.nil ?_
          refine RunC.ret ?_
          cases Option.some.inj h2_
          have hx3_ := hr2 _ rfl
          subst hx3_
          have hq := Option.some.inj h
          subst q0
          exact bodyQ.pure (.inr rfl) rfl (Res.one rfl (RV.tmp rfl))
      · refine RunC.regionW ?_
        refine ROps.l (r := AV.i64 v1) rfl rfl rfl (LOp.move rfl rfl) ?_
        refine ROps.l (r := AV.sl a0.length (a0.map AV.f32)) rfl rfl rfl (LOp.move rfl rfl) ?_
        refine ROps.l (r := AV.i64 (a0.length : Int)) rfl rfl rfl (LOp.len_sl und22 rfl rfl) ?_
        refine ROps.l (r := AV.b false) rfl rfl rfl (LOp.eqb (LOp.lss rfl rfl rfl) hc2) ?_
        refine ROps.nil ?_
        refine RunC.cond_false rfl rfl ?_
        refine RunC.exit ?_
        cases Option.some.inj h2_
        have hx := ho2 _ rfl
        exact ⟨trivial, trivial, hx⟩
    · rintro τ4 Γ4 ⟨hw4, hd4, rfl⟩
      refine RunC.wl (τ' := []) (Γ' := []) hw4 hd4 ?_
      replace h : w_eqFloat32S_k1 = some q0 := h
      unfold w_eqFloat32S_k1 at h
      refine RunC.seq ?_
      refine RunC.regionW ?_
      refine ROps.l (r := AV.b true) rfl rfl rfl (LOp.assign rfl rfl) ?_
      refine ROps.nil ?_
      refine RunC.ret ?_
      have hq := Option.some.inj h
      subst q0
      exact bodyQ.pure (.inr rfl) rfl (Res.one rfl (RV.tmp rfl))
noncomputable def w_eqMatrix (a0 : Int) (a1 : Int) (a2 : List F) (a3 : Int) (a4 : Int) (a5 : List F) : Option (Bool) :=
  bsel (!decide (a0 = a3)) (
    some false) (
    bsel (!decide (a1 = a4)) (
      some false) (
      obind (w_eqFloat32S a2 a5) fun (r1 : Bool) =>
      bsel r1 (
        some true) (
        some false)))
theorem w_eqMatrix_ok (a0 : Int) (a1 : Int) (a2 : List F) (a3 : Int) (a4 : Int) (a5 : List F) (q0 : Bool) (h : w_eqMatrix a0 a1 a2 a3 a4 a5 = some q0) : Ev Try.prog 13 [AV.agg [AV.i64 a0, AV.i64 a1, AV.sl a2.length (a2.map AV.f32)], AV.agg [AV.i64 a3, AV.i64 a4, AV.sl a5.length (a5.map AV.f32)]] [] (AV.b q0) [] := by
  refine Ev.start Try.func13 rfl rfl 0 (τ := [(0, AV.agg [AV.i64 a0, AV.i64 a1, AV.sl a2.length (a2.map AV.f32)]), (1, AV.agg [AV.i64 a3, AV.i64 a4, AV.sl a5.length (a5.map AV.f32)])]) rfl (Γ' := []) rfl (n := 21) rfl (g := 0) rfl ?_
  unfold w_eqMatrix at h
  refine RunC.seq ?_
  refine RunC.regionW ?_
  refine ROps.d (r := AV.ptr [AV.i64 a0, AV.i64 a1, AV.sl a2.length (a2.map AV.f32)]) (fs := []) (Γ' := []) rfl rfl rfl (TOp.box_s rfl rfl rfl) rfl ?_
  refine ROps.d (r := AV.ptr [AV.i64 a3, AV.i64 a4, AV.sl a5.length (a5.map AV.f32)]) (fs := []) (Γ' := []) rfl rfl rfl (TOp.box_s rfl rfl rfl) rfl ?_
  refine ROps.l (r := AV.b false) rfl rfl rfl (LOp.assign rfl rfl) ?_
  refine ROps.nil ?_
  refine RunC.seq ?_
  refine RunC.seq ?_
  rcases bsel_some h with ⟨hc1, h⟩ | ⟨hc1, h⟩
  · refine RunC.regionW ?_
    refine ROps.l (r := AV.ptr [AV.i64 a0, AV.i64 a1, AV.sl a2.length (a2.map AV.f32)]) rfl rfl rfl (LOp.fap und27 rfl siz2 rfl rfl rfl) ?_
    refine ROps.l (r := AV.i64 a0) rfl rfl rfl (LOp.load1 agg2 rfl rfl) ?_
    refine ROps.l (r := AV.ptr [AV.i64 a3, AV.i64 a4, AV.sl a5.length (a5.map AV.f32)]) rfl rfl rfl (LOp.fap und27 rfl siz2 rfl rfl rfl) ?_
    refine ROps.l (r := AV.i64 a3) rfl rfl rfl (LOp.load1 agg2 rfl rfl) ?_
    refine ROps.l (r := AV.b true) rfl rfl rfl (LOp.eqb (LOp.neq rfl rfl rfl) hc1) ?_
    refine ROps.nil ?_
    refine RunC.cond_true rfl rfl ?_
    refine RunC.seq ?_
    refine RunC.regionW ?_
    refine ROps.l (r := AV.b false) rfl rfl rfl (LOp.assign rfl rfl) ?_
    refine ROps.nil ?_
    refine RunC.ret ?_
    have hq := Option.some.inj h
    subst q0
    exact bodyQ.pure (.inr rfl) rfl (Res.one rfl (RV.tmp rfl))
  · refine RunC.regionW ?_
    refine ROps.l (r := AV.ptr [AV.i64 a0, AV.i64 a1, AV.sl a2.length (a2.map AV.f32)]) rfl rfl rfl (LOp.fap und27 rfl siz2 rfl rfl rfl) ?_
    refine ROps.l (r := AV.i64 a0) rfl rfl rfl (LOp.load1 agg2 rfl rfl) ?_
    refine ROps.l (r := AV.ptr [AV.i64 a3, AV.i64 a4, AV.sl a5.length (a5.map AV.f32)]) rfl rfl rfl (LOp.fap und27 rfl siz2 rfl rfl rfl) ?_
    refine ROps.l (r := AV.i64 a3) rfl rfl rfl (LOp.load1 agg2 rfl rfl) ?_
    refine ROps.l (r := AV.b false) rfl rfl rfl (LOp.eqb (LOp.neq rfl rfl rfl) hc1) ?_
    refine ROps.nil ?_
    refine RunC.cond_false rfl rfl ?_
    refine RunC.skip ?_
    refine RunC.seq ?_
    refine RunC.seq ?_
    rcases bsel_some h with ⟨hc2, h⟩ | ⟨hc2, h⟩
    · refine RunC.regionW ?_
      refine ROps.l (r := AV.ptr [AV.i64 a1, AV.sl a2.length (a2.map AV.f32)]) rfl rfl rfl (LOp.fap und27 rfl siz2 rfl rfl rfl) ?_
      refine ROps.l (r := AV.i64 a1) rfl rfl rfl (LOp.load1 agg2 rfl rfl) ?_
      refine ROps.l (r := AV.ptr [AV.i64 a4, AV.sl a5.length (a5.map AV.f32)]) rfl rfl rfl (LOp.fap und27 rfl siz2 rfl rfl rfl) ?_
      refine ROps.l (r := AV.i64 a4) rfl rfl rfl (LOp.load1 agg2 rfl rfl) ?_
      refine ROps.l (r := AV.b true) rfl rfl rfl (LOp.eqb (LOp.neq rfl rfl rfl) hc2) ?_
      refine ROps.nil ?_
      refine RunC.cond_true rfl rfl ?_
      refine RunC.seq ?_
      refine RunC.regionW ?_
      refine ROps.l (r := AV.b false) rfl rfl rfl (LOp.assign rfl rfl) ?_
      refine ROps.nil ?_
      refine RunC.ret ?_
      have hq := Option.some.inj h
      subst q0
      exact bodyQ.pure (.inr rfl) rfl (Res.one rfl (RV.tmp rfl))
    · refine RunC.regionW ?_
      refine ROps.l (r := AV.ptr [AV.i64 a1, AV.sl a2.length (a2.map AV.f32)]) rfl rfl rfl (LOp.fap und27 rfl siz2 rfl rfl rfl) ?_
      refine ROps.l (r := AV.i64 a1) rfl rfl rfl (LOp.load1 agg2 rfl rfl) ?_
      refine ROps.l (r := AV.ptr [AV.i64 a4, AV.sl a5.length (a5.map AV.f32)]) rfl rfl rfl (LOp.fap und27 rfl siz2 rfl rfl rfl) ?_
      refine ROps.l (r := AV.i64 a4) rfl rfl rfl (LOp.load1 agg2 rfl rfl) ?_
      refine ROps.l (r := AV.b false) rfl rfl rfl (LOp.eqb (LOp.neq rfl rfl rfl) hc2) ?_
      refine ROps.nil ?_
      refine RunC.cond_false rfl rfl ?_
      refine RunC.skip ?_
      refine RunC.wl (τ' := [(2, AV.ptr [AV.i64 a0, AV.i64 a1, AV.sl a2.length (a2.map AV.f32)]), (3, AV.ptr [AV.i64 a3, AV.i64 a4, AV.sl a5.length (a5.map AV.f32)])]) (Γ' := []) ⟨(ALe.refl _), (ALe.refl _), trivial⟩ trivial ?_
      refine RunC.seq ?_
      refine RunC.seq ?_
      obtain ⟨r1, hf3, h⟩ := obind_some h
      rcases bsel_some h with ⟨hc4, h⟩ | ⟨hc4, h⟩
      · refine RunC.regionW ?_
        refine ROps.l (r := AV.ptr [AV.sl a2.length (a2.map AV.f32)]) rfl rfl rfl (LOp.fap und27 rfl siz22 rfl rfl rfl) ?_
        refine ROps.l (r := AV.sl a2.length (a2.map AV.f32)) rfl rfl rfl (LOp.load1 agg22 rfl rfl) ?_
        refine ROps.l (r := AV.ptr [AV.sl a5.length (a5.map AV.f32)]) rfl rfl rfl (LOp.fap und27 rfl siz22 rfl rfl rfl) ?_
        refine ROps.l (r := AV.sl a5.length (a5.map AV.f32)) rfl rfl rfl (LOp.load1 agg22 rfl rfl) ?_
        refine ROps.d (r := AV.b true) (fs := []) (Γ' := []) rfl rfl rfl (TOp.eqb (TOp.callB (CallAs.func ent24 rfl rfl) (Bors.cons (Bor.sl (fun _ => rfl)) (Bors.cons (Bor.sl (fun _ => rfl)) Bors.nil)) rfl rfl (w_eqFloat32S_ok a2 a5 r1 hf3)) hc4) rfl ?_
        refine ROps.l (r := AV.b false) rfl rfl rfl (LOp.eqb (LOp.not rfl rfl) rfl) ?_
        refine ROps.nil ?_
        refine RunC.cond_false rfl rfl ?_
        refine RunC.skip ?_
        refine RunC.seq ?_
        refine RunC.regionW ?_
        refine ROps.l (r := AV.b true) rfl rfl rfl (LOp.assign rfl rfl) ?_
        refine ROps.nil ?_
        refine RunC.ret ?_
        have hq := Option.some.inj h
        subst q0
        exact bodyQ.pure (.inr rfl) rfl (Res.one rfl (RV.tmp rfl))
      · refine RunC.regionW ?_
        refine ROps.l (r := AV.ptr [AV.sl a2.length (a2.map AV.f32)]) rfl rfl rfl (LOp.fap und27 rfl siz22 rfl rfl rfl) ?_
        refine ROps.l (r := AV.sl a2.length (a2.map AV.f32)) rfl rfl rfl (LOp.load1 agg22 rfl rfl) ?_
        refine ROps.l (r := AV.ptr [AV.sl a5.length (a5.map AV.f32)]) rfl rfl rfl (LOp.fap und27 rfl siz22 rfl rfl rfl) ?_
        refine ROps.l (r := AV.sl a5.length (a5.map AV.f32)) rfl rfl rfl (LOp.load1 agg22 rfl rfl) ?_
        refine ROps.d (r := AV.b false) (fs := []) (Γ' := []) rfl rfl rfl (TOp.eqb (TOp.callB (CallAs.func ent24 rfl rfl) (Bors.cons (Bor.sl (fun _ => rfl)) (Bors.cons (Bor.sl (fun _ => rfl)) Bors.nil)) rfl rfl (w_eqFloat32S_ok a2 a5 r1 hf3)) hc4) rfl ?_
        refine ROps.l (r := AV.b true) rfl rfl rfl (LOp.eqb (LOp.not rfl rfl) rfl) ?_
        refine ROps.nil ?_
        refine RunC.cond_true rfl rfl ?_
        refine RunC.seq ?_
        refine RunC.regionW ?_
        refine ROps.l (r := AV.b false) rfl rfl rfl (LOp.assign rfl rfl) ?_
        refine ROps.nil ?_
        refine RunC.ret ?_
        have hq := Option.some.inj h
        subst q0
        exact bodyQ.pure (.inr rfl) rfl (Res.one rfl (RV.tmp rfl))
noncomputable def w_eqInt64S_b1 (a0 : List Int) (a1 : List Int) (v1 : Int) : Option (LR (Int) (Unit) (Bool)) :=
  bsel (decide (v1 < (a0.length : Int))) (
    obind (at? a0 v1) fun (e2 : Int) =>
    obind (at? a1 v1) fun (e3 : Int) =>
    bsel (!decide (e2 = e3)) (
      some (LR.ret false)) (
      olet (IntKind.i64.wrap (v1 + 1)) fun (x4 : Int) =>
      some (LR.next x4))) (
    some (LR.out ()))
noncomputable def w_eqInt64S_s1 (a0 : List Int) (a1 : List Int) : (Int) → Option (LR (Int) (Unit) (Bool)) := fun s => w_eqInt64S_b1 a0 a1 s
noncomputable def w_eqInt64S_k1  : Option (Bool) :=
  some true
noncomputable def w_eqInt64S (a0 : List Int) (a1 : List Int) : Option (Bool) :=
  bsel (!decide ((a0.length : Int) = (a1.length : Int))) (
    some false) (
    obind (loopM (w_eqInt64S_s1 a0 a1) 0) fun z => osum z (fun _ => w_eqInt64S_k1) (fun r => some r))
theorem w_eqInt64S_ok (a0 : List Int) (a1 : List Int) (q0 : Bool) (h : w_eqInt64S a0 a1 = some q0) : Ev Try.prog 14 [AV.sl a0.length (a0.map AV.i64), AV.sl a1.length (a1.map AV.i64)] [] (AV.b q0) [] := by
  refine Ev.start Try.func14 rfl rfl 0 (τ := [(0, AV.sl a0.length (a0.map AV.i64)), (1, AV.sl a1.length (a1.map AV.i64))]) rfl (Γ' := []) rfl (n := 26) rfl (g := 0) rfl ?_
  unfold w_eqInt64S at h
  refine RunC.seq ?_
  refine RunC.regionW ?_
  refine ROps.l (r := AV.b false) rfl rfl rfl (LOp.assign rfl rfl) ?_
  refine ROps.nil ?_
  refine RunC.seq ?_
  refine RunC.seq ?_
  rcases bsel_some h with ⟨hc1, h⟩ | ⟨hc1, h⟩
  · refine RunC.regionW ?_
    refine ROps.l (r := AV.sl a0.length (a0.map AV.i64)) rfl rfl rfl (LOp.move rfl rfl) ?_
    refine ROps.l (r := AV.i64 (a0.length : Int)) rfl rfl rfl (LOp.len_sl und28 rfl rfl) ?_
    refine ROps.l (r := AV.sl a1.length (a1.map AV.i64)) rfl rfl rfl (LOp.move rfl rfl) ?_
    refine ROps.l (r := AV.i64 (a1.length : Int)) rfl rfl rfl (LOp.len_sl und28 rfl rfl) ?_
    refine ROps.l (r := AV.b true) rfl rfl rfl (LOp.eqb (LOp.neq rfl rfl rfl) hc1) ?_
    refine ROps.nil ?_
    refine RunC.cond_true rfl rfl ?_
    refine RunC.seq ?_
    refine RunC.regionW ?_
    refine ROps.l (r := AV.b false) rfl rfl rfl (LOp.assign rfl rfl) ?_
    refine ROps.nil ?_
    refine RunC.ret ?_
    have hq := Option.some.inj h
    subst q0
    exact bodyQ.pure (.inr rfl) rfl (Res.one rfl (RV.tmp rfl))
  · refine RunC.regionW ?_
    refine ROps.l (r := AV.sl a0.length (a0.map AV.i64)) rfl rfl rfl (LOp.move rfl rfl) ?_
    refine ROps.l (r := AV.i64 (a0.length : Int)) rfl rfl rfl (LOp.len_sl und28 rfl rfl) ?_
    refine ROps.l (r := AV.sl a1.length (a1.map AV.i64)) rfl rfl rfl (LOp.move rfl rfl) ?_
    refine ROps.l (r := AV.i64 (a1.length : Int)) rfl rfl rfl (LOp.len_sl und28 rfl rfl) ?_
    refine ROps.l (r := AV.b false) rfl rfl rfl (LOp.eqb (LOp.neq rfl rfl rfl) hc1) ?_
    refine ROps.nil ?_
    refine RunC.cond_false rfl rfl ?_
    refine RunC.skip ?_
    refine RunC.seq ?_
    refine RunC.seq ?_
    refine RunC.regionW ?_
    refine ROps.l (r := AV.i64 0) rfl rfl rfl (LOp.assign rfl rfl) ?_
    refine ROps.nil ?_
    obtain ⟨z2, hz_2, h⟩ := obind_some h
    refine RunC.cutN (fun τ Γ => WeakLe τ [] ∧ DeadLe Γ [] ∧ z2 = .inl ()) ?_ ?_
    · refine RunC.block (RunC.loop (RunL.loopM (x := z2) (w_eqInt64S_s1 a0 a1) (fun (s : Int) τ Γ => WeakLe τ [(0, AV.sl a0.length (a0.map AV.i64)), (1, AV.sl a1.length (a1.map AV.i64)), (5, AV.i64 s)] ∧ DeadLe Γ []) ?_ _ _ _ hz_2 ⟨⟨(ALe.refl _), (ALe.refl _), (ALe.refl _), trivial⟩, trivial⟩))
      rintro v1 τ2 Γ2 y2_ ⟨hw2, hd2⟩ h2_ ho2 hr2
      refine RunC.wl (τ' := [(0, AV.sl a0.length (a0.map AV.i64)), (1, AV.sl a1.length (a1.map AV.i64)), (5, AV.i64 v1)]) (Γ' := []) hw2 hd2 ?_
      replace h2_ : w_eqInt64S_b1 a0 a1 v1 = some y2_ := h2_
      unfold w_eqInt64S_b1 at h2_
      refine RunC.seq ?_
      refine RunC.seq ?_
      rcases bsel_some h2_ with ⟨hc2, h2_⟩ | ⟨hc2, h2_⟩
      · refine RunC.regionW ?_
        refine ROps.l (r := AV.i64 v1) rfl rfl rfl (LOp.move rfl rfl) ?_
        refine ROps.l (r := AV.sl a0.length (a0.map AV.i64)) rfl rfl rfl (LOp.move rfl rfl) ?_
        refine ROps.l (r := AV.i64 (a0.length : Int)) rfl rfl rfl (LOp.len_sl und28 rfl rfl) ?_
        refine ROps.l (r := AV.b true) rfl rfl rfl (LOp.eqb (LOp.lss rfl rfl rfl) hc2) ?_
        refine ROps.nil ?_
        refine RunC.cond_true rfl rfl ?_
        refine RunC.skip ?_
        refine RunC.seq ?_
        refine RunC.block ?_
        refine RunC.seq ?_
        obtain ⟨e2, he3, h2_⟩ := obind_some h2_
        obtain ⟨e3, he4, h2_⟩ := obind_some h2_
        rcases bsel_some h2_ with ⟨hc5, h2_⟩ | ⟨hc5, h2_⟩
        · refine RunC.region_draw (Γ' := []) 9 mixed 
            (TR.l (r := AV.sl a0.length (a0.map AV.i64)) rfl rfl (LOp.move rfl rfl) <|
            (TR.l (r := AV.i64 v1) rfl rfl (LOp.move rfl rfl) <|
            (TR.l (r := AV.ptr [AV.i64 e2]) rfl rfl (LOp.le (LOp.ix (f := AV.i64) und28 siz2 rfl rfl rfl rfl he3) ALe.ptr) <|
            (TR.l (r := AV.i64 e2) rfl rfl (LOp.load1 agg2 rfl rfl) <|
            (TR.l (r := AV.sl a1.length (a1.map AV.i64)) rfl rfl (LOp.move rfl rfl) <|
            (TR.l (r := AV.i64 v1) rfl rfl (LOp.move rfl rfl) <|
            (TR.l (r := AV.ptr [AV.i64 e3]) rfl rfl (LOp.le (LOp.ix (f := AV.i64) und28 siz2 rfl rfl rfl rfl he4) ALe.ptr) <|
            (TR.l (r := AV.i64 e3) rfl rfl (LOp.load1 agg2 rfl rfl) <|
            (TR.l (r := AV.b true) rfl rfl (LOp.eqb (LOp.neq rfl rfl rfl) hc5) <|
            TR.nil))))))))) rfl (by kernel_rfl) rfl fills_nil rfl ?_
          iterate 9 refine ROps.dropS ?_
          refine ROps.drop0 ?_
          refine ROps.nil ?_
          refine RunC.cond_true rfl rfl ?_
          refine RunC.seq ?_
          refine RunC.regionW ?_
          refine ROps.l (r := AV.b false) rfl rfl rfl (LOp.assign rfl rfl) ?_
          refine ROps.nil ?_
          refine RunC.ret ?_
          cases Option.some.inj h2_
          have hx3_ := hr2 _ rfl
          subst hx3_
          have hq := Option.some.inj h
          subst q0
          exact bodyQ.pure (.inr rfl) rfl (Res.one rfl (RV.tmp rfl))
        · refine RunC.region_draw (Γ' := []) 9 mixed 
            (TR.l (r := AV.sl a0.length (a0.map AV.i64)) rfl rfl (LOp.move rfl rfl) <|
            (TR.l (r := AV.i64 v1) rfl rfl (LOp.move rfl rfl) <|
            (TR.l (r := AV.ptr [AV.i64 e2]) rfl rfl (LOp.le (LOp.ix (f := AV.i64) und28 siz2 rfl rfl rfl rfl he3) ALe.ptr) <|
            (TR.l (r := AV.i64 e2) rfl rfl (LOp.load1 agg2 rfl rfl) <|
            (TR.l (r := AV.sl a1.length (a1.map AV.i64)) rfl rfl (LOp.move rfl rfl) <|
            (TR.l (r := AV.i64 v1) rfl rfl (LOp.move rfl rfl) <|
            (TR.l (r := AV.ptr [AV.i64 e3]) rfl rfl (LOp.le (LOp.ix (f := AV.i64) und28 siz2 rfl rfl rfl rfl he4) ALe.ptr) <|
            (TR.l (r := AV.i64 e3) rfl rfl (LOp.load1 agg2 rfl rfl) <|
            (TR.l (r := AV.b false) rfl rfl (LOp.eqb (LOp.neq rfl rfl rfl) hc5) <|
            TR.nil))))))))) rfl (by kernel_rfl) rfl fills_nil rfl ?_
          iterate 9 refine ROps.dropS ?_
          refine ROps.drop0 ?_
          refine ROps.nil ?_
          refine RunC.cond_false rfl rfl ?_
          refine RunC.skip ?_
          refine RunC.wl (τ' := [(0, AV.sl a0.length (a0.map AV.i64)), (1, AV.sl a1.length (a1.map AV.i64)), (5, AV.i64 v1)]) (Γ' := []) ⟨(ALe.refl _), (ALe.refl _), (ALe.refl _), trivial⟩ trivial ?_
          obtain ⟨x4, hx6, h2_⟩ := olet_some h2_
          refine RunC.regionW ?_
          refine ROps.l (r := AV.i64 v1) rfl rfl rfl (LOp.move rfl rfl) ?_
          refine ROps.l (r := AV.i64 x4) rfl rfl rfl (LOp.eqr (LOp.add rfl rfl rfl) (congrArg (AV.ik .i64) hx6)) ?_
          refine ROps.l (r := AV.i64 x4) rfl rfl rfl (LOp.assign rfl rfl) ?_
          refine ROps.nil ?_
          cases Option.some.inj h2_
          exact ⟨_, rfl, ⟨(ALe.refl _), (ALe.refl _), (ALe.refl _), trivial⟩, trivial⟩
      · refine RunC.regionW ?_
        refine ROps.l (r := AV.i64 v1) rfl rfl rfl (LOp.move rfl rfl) ?_
        refine ROps.l (r := AV.sl a0.length (a0.map AV.i64)) rfl rfl rfl (LOp.move rfl rfl) ?_
        refine ROps.l (r := AV.i64 (a0.length : Int)) rfl rfl rfl (LOp.len_sl und28 rfl rfl) ?_
        refine ROps.l (r := AV.b false) rfl rfl rfl (LOp.eqb (LOp.lss rfl rfl rfl) hc2) ?_
        refine ROps.nil ?_
        refine RunC.cond_false rfl rfl ?_
        refine RunC.exit ?_
        cases Option.some.inj h2_
        have hx := ho2 _ rfl
        exact ⟨trivial, trivial, hx⟩
    · rintro τ4 Γ4 ⟨hw4, hd4, rfl⟩
      refine RunC.wl (τ' := []) (Γ' := []) hw4 hd4 ?_
      replace h : w_eqInt64S_k1 = some q0 := h
      unfold w_eqInt64S_k1 at h
      refine RunC.seq ?_
      refine RunC.regionW ?_
      refine ROps.l (r := AV.b true) rfl rfl rfl (LOp.assign rfl rfl) ?_
      refine ROps.nil ?_
      refine RunC.ret ?_
      have hq := Option.some.inj h
      subst q0
      exact bodyQ.pure (.inr rfl) rfl (Res.one rfl (RV.tmp rfl))
noncomputable def w_markFloat32S_0o_b1 (a1 : List F) (L1 : List F) (v3 : Int) (v4 : Int) : Option (LR ((List F) × Int × Int) ((List F) × Int) (Int × (List F))) :=
  bsel (decide (v4 < ((a1.length : Nat) : Int))) (
    olet (fint .f32 v3) fun (x5 : F) =>
    obind (setAt? L1 v4 x5) fun (L6 : List F) =>
    olet (IntKind.i64.wrap (v3 + 1)) fun (x7 : Int) =>
    olet (IntKind.i64.wrap (v4 + 1)) fun (x8 : Int) =>
    some (LR.next (L6, x7, x8))) (
    some (LR.out (L1, v3)))
noncomputable def w_markFloat32S_0o_s1 (a1 : List F) : ((List F) × Int × Int) → Option (LR ((List F) × Int × Int) ((List F) × Int) (Int × (List F))) := fun s => w_markFloat32S_0o_b1 a1 s.1 s.2.1 s.2.2
noncomputable def w_markFloat32S_0o_k1 (L9 : List F) (v11 : Int) : Option (Int × (List F)) :=
  some (v11, L9)
noncomputable def w_markFloat32S_0o (a0 : Int) (a1 : List F) : Option (Int × (List F)) :=
  obind (loopM (w_markFloat32S_0o_s1 a1) (a1, a0, 0)) fun z => osum z (fun e => w_markFloat32S_0o_k1 e.1 e.2) (fun r => some r)
theorem w_markFloat32S_0o_ok (a0 : Int) (a1 : List F) (q0 : Int) (q1 : List F) (h : w_markFloat32S_0o a0 a1 = some (q0, q1)) : Ev Try.prog 25 [AV.oref 0 0 0 a1.length, AV.i64 a0] [⟨0, some (a1.map AV.f32)⟩] (AV.i64 q0) [⟨0, some (q1.map AV.f32)⟩] := by
  refine Ev.start Try.func25 rfl rfl 0 (τ := [(0, AV.oref 0 0 0 a1.length), (1, AV.i64 a0)]) rfl (Γ' := [⟨0, some (a1.map AV.f32)⟩]) rfl (n := 20) rfl (g := 1) rfl ?_
  unfold w_markFloat32S_0o at h
  refine RunC.seq ?_
  refine RunC.regionW ?_
  refine ROps.l (r := AV.i64 0) rfl rfl rfl (LOp.assign rfl rfl) ?_
  refine ROps.nil ?_
  refine RunC.seq ?_
  refine RunC.seq ?_
  refine RunC.regionW ?_
  refine ROps.l (r := AV.i64 0) rfl rfl rfl (LOp.assign rfl rfl) ?_
  refine ROps.nil ?_
  obtain ⟨z2, hz_2, h⟩ := obind_some h
  refine RunC.cutN (fun τ Γ => ∃ (L9 : List F) (v11 : Int), L9.length = a1.length ∧ WeakLe τ [(1, AV.i64 v11)] ∧ DeadLe Γ [⟨0, some (L9.map AV.f32)⟩] ∧ z2 = .inl (L9, v11)) ?_ ?_
  · refine RunC.block (RunC.loop (RunL.loopM (x := z2) (w_markFloat32S_0o_s1 a1) (fun (s : (List F) × Int × Int) τ Γ => s.1.length = a1.length ∧ WeakLe τ [(0, AV.oref 0 0 0 a1.length), (1, AV.i64 s.2.1), (5, AV.i64 s.2.2)] ∧ DeadLe Γ [⟨0, some (s.1.map AV.f32)⟩]) ?_ _ _ _ hz_2 ⟨rfl, ⟨(ALe.refl _), (ALe.refl _), (ALe.refl _), trivial⟩, ⟨⟨rfl, .inr rfl⟩, trivial⟩⟩))
    rintro ⟨L1, v3, v4⟩ τ2 Γ2 y2_ ⟨hl2, hw2, hd2⟩ h2_ ho2 hr2
    refine RunC.wl (τ' := [(0, AV.oref 0 0 0 a1.length), (1, AV.i64 v3), (5, AV.i64 v4)]) (Γ' := [⟨0, some (L1.map AV.f32)⟩]) hw2 hd2 ?_
    replace hl2 : L1.length = a1.length := hl2
    replace h2_ : w_markFloat32S_0o_b1 a1 L1 v3 v4 = some y2_ := h2_
    unfold w_markFloat32S_0o_b1 at h2_
    refine RunC.seq ?_
    refine RunC.seq ?_
    rcases bsel_some h2_ with ⟨hc1, h2_⟩ | ⟨hc1, h2_⟩
    · refine RunC.regionW ?_
      refine ROps.l (r := AV.i64 v4) rfl rfl rfl (LOp.move rfl rfl) ?_
      refine ROps.l (r := AV.oref 0 0 0 a1.length) rfl rfl rfl (LOp.move rfl rfl) ?_
      refine ROps.l (r := AV.i64 ((a1.length : Nat) : Int)) rfl rfl rfl (LOp.len_oref und22 rfl rfl) ?_
      refine ROps.l (r := AV.b true) rfl rfl rfl (LOp.eqb (LOp.lss rfl rfl rfl) hc1) ?_
      refine ROps.nil ?_
      refine RunC.cond_true rfl rfl ?_
      refine RunC.skip ?_
      refine RunC.seq ?_
      refine RunC.block ?_
      refine RunC.seq ?_
      obtain ⟨x5, hx2, h2_⟩ := olet_some h2_
      obtain ⟨L6, he3, h2_⟩ := obind_some h2_
      refine RunC.regionW ?_
      refine ROps.l (r := AV.oref 0 0 0 a1.length) rfl rfl rfl (LOp.move rfl rfl) ?_
      refine ROps.l (r := AV.i64 v4) rfl rfl rfl (LOp.move rfl rfl) ?_
      refine ROps.l (r := AV.i64 v3) rfl rfl rfl (LOp.move rfl rfl) ?_
      refine ROps.l (r := AV.f32 x5) rfl rfl rfl (LOp.eqr (LOp.i2f (src := 3) (dst := 25) ⟨_, pun3⟩ pun25 rfl rfl) (congrArg (AV.f .f32) hx2)) ?_
      refine ROps.d (r := AV.optr 0 0 v4.toNat) (fs := []) (Γ' := [⟨0, some (L1.map AV.f32)⟩]) rfl rfl rfl (TOp.ixo und22 siz25 rfl rfl rfl (set_in he3 hl2) rfl) rfl ?_
      refine ROps.st (f := AV.f32) (i := v4) (Γ' := [⟨0, some (L6.map AV.f32)⟩]) rfl siz25 rfl rfl rfl (ALe.refl _) rfl rfl rfl he3 rfl ?_
      refine ROps.nil ?_
      obtain ⟨x7, hx4, h2_⟩ := olet_some h2_
      refine RunC.regionW ?_
      refine ROps.l (r := AV.i64 v3) rfl rfl rfl (LOp.move rfl rfl) ?_
      refine ROps.l (r := AV.i64 x7) rfl rfl rfl (LOp.eqr (LOp.add rfl rfl rfl) (congrArg (AV.ik .i64) hx4)) ?_
      refine ROps.l (r := AV.i64 x7) rfl rfl rfl (LOp.assign rfl rfl) ?_
      refine ROps.nil ?_
      obtain ⟨x8, hx5, h2_⟩ := olet_some h2_
      refine RunC.regionW ?_
      refine ROps.l (r := AV.i64 v4) rfl rfl rfl (LOp.move rfl rfl) ?_
      refine ROps.l (r := AV.i64 x8) rfl rfl rfl (LOp.eqr (LOp.add rfl rfl rfl) (congrArg (AV.ik .i64) hx5)) ?_
      refine ROps.l (r := AV.i64 x8) rfl rfl rfl (LOp.assign rfl rfl) ?_
      refine ROps.nil ?_
      cases Option.some.inj h2_
      exact ⟨_, rfl, ((setAt?_len he3).trans hl2), ⟨(ALe.refl _), (ALe.refl _), (ALe.refl _), trivial⟩, ⟨⟨rfl, .inr rfl⟩, trivial⟩⟩
    · refine RunC.regionW ?_
      refine ROps.l (r := AV.i64 v4) rfl rfl rfl (LOp.move rfl rfl) ?_
      refine ROps.l (r := AV.oref 0 0 0 a1.length) rfl rfl rfl (LOp.move rfl rfl) ?_
      refine ROps.l (r := AV.i64 ((a1.length : Nat) : Int)) rfl rfl rfl (LOp.len_oref und22 rfl rfl) ?_
      refine ROps.l (r := AV.b false) rfl rfl rfl (LOp.eqb (LOp.lss rfl rfl rfl) hc1) ?_
      refine ROps.nil ?_
      refine RunC.cond_false rfl rfl ?_
      refine RunC.exit ?_
      cases Option.some.inj h2_
      have hx := ho2 _ rfl
      exact ⟨L1, v3, hl2, ⟨(ALe.refl _), trivial⟩, ⟨⟨rfl, .inr rfl⟩, trivial⟩, hx⟩
  · rintro τ3 Γ3 ⟨L9, v11, hl10, hw3, hd3, rfl⟩
    refine RunC.wl (τ' := [(1, AV.i64 v11)]) (Γ' := [⟨0, some (L9.map AV.f32)⟩]) hw3 hd3 ?_
    replace h : w_markFloat32S_0o_k1 L9 v11 = some (q0, q1) := h
    unfold w_markFloat32S_0o_k1 at h
    refine RunC.seq ?_
    refine RunC.regionW ?_
    refine ROps.l (r := AV.i64 v11) rfl rfl rfl (LOp.move rfl rfl) ?_
    refine ROps.l (r := AV.i64 v11) rfl rfl rfl (LOp.assign rfl rfl) ?_
    refine ROps.nil ?_
    refine RunC.ret ?_
    have hq := Option.some.inj h
    obtain ⟨hq0, hq⟩ := Prod.mk.inj hq
    subst q0
    subst q1
    exact bodyQ.mk (r' := AV.i64 v11) [(0, 0)] (.inr rfl) rfl (show List.Nodup [0] from by decide) rfl rfl (Res.one rfl (RV.tmp rfl)) (SelL.arr (f := AV.f32) (fun _ => rfl) rfl trivial)
noncomputable def w_markMatrix_02o (a0 : Int) (a1 : Int) (a2 : Int) (a3 : List F) : Option (Int × (List F)) :=
  obind2 (w_markFloat32S_0o a2 a3) fun (r1 : Int) (r2 : List F) =>
  need (decide (r2.length = a3.length)) <|
  some (r1, r2)
theorem w_markMatrix_02o_ok (a0 : Int) (a1 : Int) (a2 : Int) (a3 : List F) (q0 : Int) (q1 : List F) (h : w_markMatrix_02o a0 a1 a2 a3 = some (q0, q1)) : Ev Try.prog 15 [AV.agg [AV.i64 a0, AV.i64 a1, AV.oref 0 0 0 a3.length], AV.i64 a2] [⟨0, some (a3.map AV.f32)⟩] (AV.i64 q0) [⟨0, some (q1.map AV.f32)⟩] := by
  refine Ev.start Try.func15 rfl rfl 0 (τ := [(0, AV.agg [AV.i64 a0, AV.i64 a1, AV.oref 0 0 0 a3.length]), (1, AV.i64 a2)]) rfl (Γ' := [⟨0, some (a3.map AV.f32)⟩]) rfl (n := 10) rfl (g := 1) rfl ?_
  unfold w_markMatrix_02o at h
  refine RunC.seq ?_
  refine RunC.regionW ?_
  refine ROps.d (r := AV.ptr [AV.i64 a0, AV.i64 a1, AV.oref 0 0 0 a3.length]) (fs := []) (Γ' := [⟨0, some (a3.map AV.f32)⟩]) rfl rfl rfl (TOp.box_s rfl rfl rfl) rfl ?_
  refine ROps.l (r := AV.i64 0) rfl rfl rfl (LOp.assign rfl rfl) ?_
  refine ROps.nil ?_
  refine RunC.seq ?_
  obtain ⟨r1, r2, hf1, h⟩ := obind2_some h
  obtain ⟨hn2, h⟩ := need_some h
  refine RunC.regionW ?_
  refine ROps.l (r := AV.ptr [AV.oref 0 0 0 a3.length]) rfl rfl rfl (LOp.fap und27 rfl siz22 rfl rfl rfl) ?_
  refine ROps.l (r := AV.oref 0 0 0 a3.length) rfl rfl rfl (LOp.load1 agg22 rfl rfl) ?_
  refine ROps.l (r := AV.i64 a2) rfl rfl rfl (LOp.move rfl rfl) ?_
  refine ROps.callO (A := [AV.oref 0 0 0 a3.length, AV.i64 a2]) (args := [AV.oref 0 0 0 a3.length, AV.i64 a2]) (Γc := [⟨0, some (a3.map AV.f32)⟩]) (Γc' := [⟨0, some (r2.map AV.f32)⟩]) (r' := AV.i64 r1) (Γ' := [⟨0, some (r2.map AV.f32)⟩]) [(0, 0)] [] rfl (CallAs.func ent25 rfl rfl) rfl rfl (SelOk.of (show List.Nodup [0] from by decide) (SelL.arr0 (f := AV.f32) (fun _ => rfl) rfl trivial)) (live_of ⟨⟨_, _, rfl⟩, trivial⟩) (by simp [AV.ren, AV.rens, sigma, rens_f32, rens_f64, rens_i64, rens_ik, rens_str, rens_cp]) rfl (w_markFloat32S_0o_ok a2 a3 r1 r2 hf1) rfl (news_of trivial) (show List.Nodup [0] from by decide) (by simp [AV.ren, AV.rens, sigma, of_decide_eq_true hn2]) (by simp [backOb, sigma, AV.ren, AV.rens, rens_f32, rens_f64, rens_i64, rens_ik, rens_str, rens_cp]) ?_
  refine ROps.l (r := AV.i64 r1) rfl rfl rfl (LOp.assign rfl rfl) ?_
  refine ROps.nil ?_
  refine RunC.seq ?_
  refine RunC.regionW ?_
  refine ROps.l (r := AV.i64 r1) rfl rfl rfl (LOp.move rfl rfl) ?_
  refine ROps.l (r := AV.i64 r1) rfl rfl rfl (LOp.assign rfl rfl) ?_
  refine ROps.nil ?_
  refine RunC.ret ?_
  have hq := Option.some.inj h
  obtain ⟨hq0, hq⟩ := Prod.mk.inj hq
  subst q0
  subst q1
  exact bodyQ.mk (r' := AV.i64 r1) [(0, 0)] (.inr rfl) rfl (show List.Nodup [0] from by decide) rfl rfl (Res.one rfl (RV.tmp rfl)) (SelL.arr (f := AV.f32) (fun _ => rfl) rfl trivial)
noncomputable def w_markInt64S_0o_b1 (a1 : List Int) (L1 : List Int) (v3 : Int) (v4 : Int) : Option (LR ((List Int) × Int × Int) ((List Int) × Int) (Int × (List Int))) :=
  bsel (decide (v4 < ((a1.length : Nat) : Int))) (
    obind (setAt? L1 v4 v3) fun (L5 : List Int) =>
    olet (IntKind.i64.wrap (v3 + 1)) fun (x6 : Int) =>
    olet (IntKind.i64.wrap (v4 + 1)) fun (x7 : Int) =>
    some (LR.next (L5, x6, x7))) (
    some (LR.out (L1, v3)))
noncomputable def w_markInt64S_0o_s1 (a1 : List Int) : ((List Int) × Int × Int) → Option (LR ((List Int) × Int × Int) ((List Int) × Int) (Int × (List Int))) := fun s => w_markInt64S_0o_b1 a1 s.1 s.2.1 s.2.2
noncomputable def w_markInt64S_0o_k1 (L8 : List Int) (v10 : Int) : Option (Int × (List Int)) :=
  some (v10, L8)
noncomputable def w_markInt64S_0o (a0 : Int) (a1 : List Int) : Option (Int × (List Int)) :=
  obind (loopM (w_markInt64S_0o_s1 a1) (a1, a0, 0)) fun z => osum z (fun e => w_markInt64S_0o_k1 e.1 e.2) (fun r => some r)
theorem w_markInt64S_0o_ok (a0 : Int) (a1 : List Int) (q0 : Int) (q1 : List Int) (h : w_markInt64S_0o a0 a1 = some (q0, q1)) : Ev Try.prog 16 [AV.oref 0 0 0 a1.length, AV.i64 a0] [⟨0, some (a1.map AV.i64)⟩] (AV.i64 q0) [⟨0, some (q1.map AV.i64)⟩] := by
  refine Ev.start Try.func16 rfl rfl 0 (τ := [(0, AV.oref 0 0 0 a1.length), (1, AV.i64 a0)]) rfl (Γ' := [⟨0, some (a1.map AV.i64)⟩]) rfl (n := 19) rfl (g := 1) rfl ?_
  unfold w_markInt64S_0o at h
  refine RunC.seq ?_
  refine RunC.regionW ?_
  refine ROps.l (r := AV.i64 0) rfl rfl rfl (LOp.assign rfl rfl) ?_
  refine ROps.nil ?_
  refine RunC.seq ?_
  refine RunC.seq ?_
  refine RunC.regionW ?_
  refine ROps.l (r := AV.i64 0) rfl rfl rfl (LOp.assign rfl rfl) ?_
  refine ROps.nil ?_
  obtain ⟨z2, hz_2, h⟩ := obind_some h
  refine RunC.cutN (fun τ Γ => ∃ (L8 : List Int) (v10 : Int), L8.length = a1.length ∧ WeakLe τ [(1, AV.i64 v10)] ∧ DeadLe Γ [⟨0, some (L8.map AV.i64)⟩] ∧ z2 = .inl (L8, v10)) ?_ ?_
  · refine RunC.block (RunC.loop (RunL.loopM (x := z2) (w_markInt64S_0o_s1 a1) (fun (s : (List Int) × Int × Int) τ Γ => s.1.length = a1.length ∧ WeakLe τ [(0, AV.oref 0 0 0 a1.length), (1, AV.i64 s.2.1), (5, AV.i64 s.2.2)] ∧ DeadLe Γ [⟨0, some (s.1.map AV.i64)⟩]) ?_ _ _ _ hz_2 ⟨rfl, ⟨(ALe.refl _), (ALe.refl _), (ALe.refl _), trivial⟩, ⟨⟨rfl, .inr rfl⟩, trivial⟩⟩))
    rintro ⟨L1, v3, v4⟩ τ2 Γ2 y2_ ⟨hl2, hw2, hd2⟩ h2_ ho2 hr2
    refine RunC.wl (τ' := [(0, AV.oref 0 0 0 a1.length), (1, AV.i64 v3), (5, AV.i64 v4)]) (Γ' := [⟨0, some (L1.map AV.i64)⟩]) hw2 hd2 ?_
    replace hl2 : L1.length = a1.length := hl2
    replace h2_ : w_markInt64S_0o_b1 a1 L1 v3 v4 = some y2_ := h2_
    unfold w_markInt64S_0o_b1 at h2_
    refine RunC.seq ?_
    refine RunC.seq ?_
    rcases bsel_some h2_ with ⟨hc1, h2_⟩ | ⟨hc1, h2_⟩
    · refine RunC.regionW ?_
      refine ROps.l (r := AV.i64 v4) rfl rfl rfl (LOp.move rfl rfl) ?_
      refine ROps.l (r := AV.oref 0 0 0 a1.length) rfl rfl rfl (LOp.move rfl rfl) ?_
      refine ROps.l (r := AV.i64 ((a1.length : Nat) : Int)) rfl rfl rfl (LOp.len_oref und28 rfl rfl) ?_
      refine ROps.l (r := AV.b true) rfl rfl rfl (LOp.eqb (LOp.lss rfl rfl rfl) hc1) ?_
      refine ROps.nil ?_
      refine RunC.cond_true rfl rfl ?_
      refine RunC.skip ?_
      refine RunC.seq ?_
      refine RunC.block ?_
      refine RunC.seq ?_
      obtain ⟨L5, he2, h2_⟩ := obind_some h2_
      refine RunC.regionW ?_
      refine ROps.l (r := AV.oref 0 0 0 a1.length) rfl rfl rfl (LOp.move rfl rfl) ?_
      refine ROps.l (r := AV.i64 v4) rfl rfl rfl (LOp.move rfl rfl) ?_
      refine ROps.l (r := AV.i64 v3) rfl rfl rfl (LOp.move rfl rfl) ?_
      refine ROps.d (r := AV.optr 0 0 v4.toNat) (fs := []) (Γ' := [⟨0, some (L1.map AV.i64)⟩]) rfl rfl rfl (TOp.ixo und28 siz2 rfl rfl rfl (set_in he2 hl2) rfl) rfl ?_
      refine ROps.st (f := AV.i64) (i := v4) (Γ' := [⟨0, some (L5.map AV.i64)⟩]) rfl siz2 rfl rfl rfl (ALe.refl _) rfl rfl rfl he2 rfl ?_
      refine ROps.nil ?_
      obtain ⟨x6, hx3, h2_⟩ := olet_some h2_
      refine RunC.regionW ?_
      refine ROps.l (r := AV.i64 v3) rfl rfl rfl (LOp.move rfl rfl) ?_
      refine ROps.l (r := AV.i64 x6) rfl rfl rfl (LOp.eqr (LOp.add rfl rfl rfl) (congrArg (AV.ik .i64) hx3)) ?_
      refine ROps.l (r := AV.i64 x6) rfl rfl rfl (LOp.assign rfl rfl) ?_
      refine ROps.nil ?_
      obtain ⟨x7, hx4, h2_⟩ := olet_some h2_
      refine RunC.regionW ?_
      refine ROps.l (r := AV.i64 v4) rfl rfl rfl (LOp.move rfl rfl) ?_
      refine ROps.l (r := AV.i64 x7) rfl rfl rfl (LOp.eqr (LOp.add rfl rfl rfl) (congrArg (AV.ik .i64) hx4)) ?_
      refine ROps.l (r := AV.i64 x7) rfl rfl rfl (LOp.assign rfl rfl) ?_
      refine ROps.nil ?_
      cases Option.some.inj h2_
      exact ⟨_, rfl, ((setAt?_len he2).trans hl2), ⟨(ALe.refl _), (ALe.refl _), (ALe.refl _), trivial⟩, ⟨⟨rfl, .inr rfl⟩, trivial⟩⟩
    · refine RunC.regionW ?_
      refine ROps.l (r := AV.i64 v4) rfl rfl rfl (LOp.move rfl rfl) ?_
      refine ROps.l (r := AV.oref 0 0 0 a1.length) rfl rfl rfl (LOp.move rfl rfl) ?_
      refine ROps.l (r := AV.i64 ((a1.length : Nat) : Int)) rfl rfl rfl (LOp.len_oref und28 rfl rfl) ?_
      refine ROps.l (r := AV.b false) rfl rfl rfl (LOp.eqb (LOp.lss rfl rfl rfl) hc1) ?_
      refine ROps.nil ?_
      refine RunC.cond_false rfl rfl ?_
      refine RunC.exit ?_
      cases Option.some.inj h2_
      have hx := ho2 _ rfl
      exact ⟨L1, v3, hl2, ⟨(ALe.refl _), trivial⟩, ⟨⟨rfl, .inr rfl⟩, trivial⟩, hx⟩
  · rintro τ3 Γ3 ⟨L8, v10, hl9, hw3, hd3, rfl⟩
    refine RunC.wl (τ' := [(1, AV.i64 v10)]) (Γ' := [⟨0, some (L8.map AV.i64)⟩]) hw3 hd3 ?_
    replace h : w_markInt64S_0o_k1 L8 v10 = some (q0, q1) := h
    unfold w_markInt64S_0o_k1 at h
    refine RunC.seq ?_
    refine RunC.regionW ?_
    refine ROps.l (r := AV.i64 v10) rfl rfl rfl (LOp.move rfl rfl) ?_
    refine ROps.l (r := AV.i64 v10) rfl rfl rfl (LOp.assign rfl rfl) ?_
    refine ROps.nil ?_
    refine RunC.ret ?_
    have hq := Option.some.inj h
    obtain ⟨hq0, hq⟩ := Prod.mk.inj hq
    subst q0
    subst q1
    exact bodyQ.mk (r' := AV.i64 v10) [(0, 0)] (.inr rfl) rfl (show List.Nodup [0] from by decide) rfl rfl (Res.one rfl (RV.tmp rfl)) (SelL.arr (f := AV.i64) (fun _ => rfl) rfl trivial)
noncomputable def w_heldFloat32S_b1 (a0 : List F) (v1 : Int) (v2 : Int) : Option (LR (Int × Int) (Int) (Int)) :=
  bsel (decide (v2 < (a0.length : Int))) (
    obind (at? a0 v2) fun (e3 : F) =>
    olet (fint .f32 v1) fun (x4 : F) =>
    bsel (!feq .f32 e3 x4) (
      some (LR.ret (-1))) (
      olet (IntKind.i64.wrap (v1 + 1)) fun (x5 : Int) =>
      olet (IntKind.i64.wrap (v2 + 1)) fun (x6 : Int) =>
      some (LR.next (x5, x6)))) (
    some (LR.out v1))
noncomputable def w_heldFloat32S_s1 (a0 : List F) : (Int × Int) → Option (LR (Int × Int) (Int) (Int)) := fun s => w_heldFloat32S_b1 a0 s.1 s.2
noncomputable def w_heldFloat32S_k1 (v7 : Int) : Option (Int) :=
  some v7
noncomputable def w_heldFloat32S (a0 : List F) (a1 : Int) : Option (Int) :=
  obind (loopM (w_heldFloat32S_s1 a0) (a1, 0)) fun z => osum z (fun e => w_heldFloat32S_k1 e) (fun r => some r)
theorem w_heldFloat32S_ok (a0 : List F) (a1 : Int) (q0 : Int) (h : w_heldFloat32S a0 a1 = some q0) : Ev Try.prog 26 [AV.sl a0.length (a0.map AV.f32), AV.i64 a1] [] (AV.i64 q0) [] := by
  refine Ev.start Try.func26 rfl rfl 0 (τ := [(0, AV.sl a0.length (a0.map AV.f32)), (1, AV.i64 a1)]) rfl (Γ' := []) rfl (n := 22) rfl (g := 0) rfl ?_
  unfold w_heldFloat32S at h
  refine RunC.seq ?_
  refine RunC.regionW ?_
  refine ROps.l (r := AV.i64 0) rfl rfl rfl (LOp.assign rfl rfl) ?_
  refine ROps.nil ?_
  refine RunC.seq ?_
  refine RunC.seq ?_
  refine RunC.regionW ?_
  refine ROps.l (r := AV.i64 0) rfl rfl rfl (LOp.assign rfl rfl) ?_
  refine ROps.nil ?_
  obtain ⟨z2, hz_2, h⟩ := obind_some h
  refine RunC.cutN (fun τ Γ => ∃ (v7 : Int), WeakLe τ [(1, AV.i64 v7)] ∧ DeadLe Γ [] ∧ z2 = .inl v7) ?_ ?_
  · refine RunC.block (RunC.loop (RunL.loopM (x := z2) (w_heldFloat32S_s1 a0) (fun (s : Int × Int) τ Γ => WeakLe τ [(0, AV.sl a0.length (a0.map AV.f32)), (1, AV.i64 s.1), (5, AV.i64 s.2)] ∧ DeadLe Γ []) ?_ _ _ _ hz_2 ⟨⟨(ALe.refl _), (ALe.refl _), (ALe.refl _), trivial⟩, trivial⟩))
    rintro ⟨v1, v2⟩ τ2 Γ2 y2_ ⟨hw2, hd2⟩ h2_ ho2 hr2
    refine RunC.wl (τ' := [(0, AV.sl a0.length (a0.map AV.f32)), (1, AV.i64 v1), (5, AV.i64 v2)]) (Γ' := []) hw2 hd2 ?_
    replace h2_ : w_heldFloat32S_b1 a0 v1 v2 = some y2_ := h2_
    unfold w_heldFloat32S_b1 at h2_
    refine RunC.seq ?_
    refine RunC.seq ?_
    rcases bsel_some h2_ with ⟨hc1, h2_⟩ | ⟨hc1, h2_⟩
    · refine RunC.regionW ?_
      refine ROps.l (r := AV.i64 v2) rfl rfl rfl (LOp.move rfl rfl) ?_
      refine ROps.l (r := AV.sl a0.length (a0.map AV.f32)) rfl rfl rfl (LOp.move rfl rfl) ?_
      refine ROps.l (r := AV.i64 (a0.length : Int)) rfl rfl rfl (LOp.len_sl und22 rfl rfl) ?_
      refine ROps.l (r := AV.b true) rfl rfl rfl (LOp.eqb (LOp.lss rfl rfl rfl) hc1) ?_
      refine ROps.nil ?_
      refine RunC.cond_true rfl rfl ?_
      refine RunC.skip ?_
      refine RunC.seq ?_
      refine RunC.block ?_
      refine RunC.seq ?_
      refine RunC.seq ?_
      obtain ⟨e3, he2, h2_⟩ := obind_some h2_
      obtain ⟨x4, hx3, h2_⟩ := olet_some h2_
      rcases bsel_some h2_ with ⟨hc4, h2_⟩ | ⟨hc4, h2_⟩
      · refine RunC.regionW ?_
        refine ROps.l (r := AV.sl a0.length (a0.map AV.f32)) rfl rfl rfl (LOp.move rfl rfl) ?_
        refine ROps.l (r := AV.i64 v2) rfl rfl rfl (LOp.move rfl rfl) ?_
        refine ROps.l (r := AV.ptr [AV.f32 e3]) rfl rfl rfl (LOp.le (LOp.ix (f := AV.f32) und22 siz25 rfl rfl rfl rfl he2) ALe.ptr) ?_
        refine ROps.l (r := AV.f32 e3) rfl rfl rfl (LOp.load1 agg25 rfl rfl) ?_
        refine ROps.l (r := AV.i64 v1) rfl rfl rfl (LOp.move rfl rfl) ?_
        refine ROps.l (r := AV.f32 x4) rfl rfl rfl (LOp.eqr (LOp.i2f (src := 3) (dst := 25) ⟨_, pun3⟩ pun25 rfl rfl) (congrArg (AV.f .f32) hx3)) ?_
        refine ROps.l (r := AV.b true) rfl rfl rfl (LOp.eqb (LOp.fne rfl (OpF.tmp rfl) (OpF.tmp rfl)) hc4) ?_
        refine ROps.nil ?_
        refine RunC.cond_true rfl rfl ?_
        refine RunC.seq ?_
        refine RunC.regionW ?_
        refine ROps.l (r := AV.i64 (-1)) rfl rfl rfl (LOp.assign rfl rfl) ?_
        refine ROps.nil ?_
        refine RunC.ret ?_
        cases Option.some.inj h2_
        have hx3_ := hr2 _ rfl
        subst hx3_
        have hq := Option.some.inj h
        subst q0
        exact bodyQ.pure (.inr rfl) rfl (Res.one rfl (RV.tmp rfl))
      · refine RunC.regionW ?_
        refine ROps.l (r := AV.sl a0.length (a0.map AV.f32)) rfl rfl rfl (LOp.move rfl rfl) ?_
        refine ROps.l (r := AV.i64 v2) rfl rfl rfl (LOp.move rfl rfl) ?_
        refine ROps.l (r := AV.ptr [AV.f32 e3]) rfl rfl rfl (LOp.le (LOp.ix (f := AV.f32) und22 siz25 rfl rfl rfl rfl he2) ALe.ptr) ?_
        refine ROps.l (r := AV.f32 e3) rfl rfl rfl (LOp.load1 agg25 rfl rfl) ?_
        refine ROps.l (r := AV.i64 v1) rfl rfl rfl (LOp.move rfl rfl) ?_
        refine ROps.l (r := AV.f32 x4) rfl rfl rfl (LOp.eqr (LOp.i2f (src := 3) (dst := 25) ⟨_, pun3⟩ pun25 rfl rfl) (congrArg (AV.f .f32) hx3)) ?_
        refine ROps.l (r := AV.b false) rfl rfl rfl (LOp.eqb (LOp.fne rfl (OpF.tmp rfl) (OpF.tmp rfl)) hc4) ?_
        refine ROps.nil ?_
        refine RunC.cond_false rfl rfl ?_
        refine RunC.skip ?_
        obtain ⟨x5, hx5, h2_⟩ := olet_some h2_
        refine RunC.regionW ?_
        refine ROps.l (r := AV.i64 v1) rfl rfl rfl (LOp.move rfl rfl) ?_
        refine ROps.l (r := AV.i64 x5) rfl rfl rfl (LOp.eqr (LOp.add rfl rfl rfl) (congrArg (AV.ik .i64) hx5)) ?_
        refine ROps.l (r := AV.i64 x5) rfl rfl rfl (LOp.assign rfl rfl) ?_
        refine ROps.nil ?_
        refine RunC.wl (τ' := [(0, AV.sl a0.length (a0.map AV.f32)), (1, AV.i64 x5), (5, AV.i64 v2)]) (Γ' := []) ⟨(ALe.refl _), (ALe.refl _), (ALe.refl _), trivial⟩ trivial ?_
        obtain ⟨x6, hx6, h2_⟩ := olet_some h2_
        refine RunC.regionW ?_
        refine ROps.l (r := AV.i64 v2) rfl rfl rfl (LOp.move rfl rfl) ?_
        refine ROps.l (r := AV.i64 x6) rfl rfl rfl (LOp.eqr (LOp.add rfl rfl rfl) (congrArg (AV.ik .i64) hx6)) ?_
        refine ROps.l (r := AV.i64 x6) rfl rfl rfl (LOp.assign rfl rfl) ?_
        refine ROps.nil ?_
        cases Option.some.inj h2_
        exact ⟨_, rfl, ⟨(ALe.refl _), (ALe.refl _), (ALe.refl _), trivial⟩, trivial⟩
    · refine RunC.regionW ?_
      refine ROps.l (r := AV.i64 v2) rfl rfl rfl (LOp.move rfl rfl) ?_
      refine ROps.l (r := AV.sl a0.length (a0.map AV.f32)) rfl rfl rfl (LOp.move rfl rfl) ?_
      refine ROps.l (r := AV.i64 (a0.length : Int)) rfl rfl rfl (LOp.len_sl und22 rfl rfl) ?_
      refine ROps.l (r := AV.b false) rfl rfl rfl (LOp.eqb (LOp.lss rfl rfl rfl) hc1) ?_
      refine ROps.nil ?_
      refine RunC.cond_false rfl rfl ?_
      refine RunC.exit ?_
      cases Option.some.inj h2_
      have hx := ho2 _ rfl
      exact ⟨v1, ⟨(ALe.refl _), trivial⟩, trivial, hx⟩
  · rintro τ4 Γ4 ⟨v7, hw4, hd4, rfl⟩
    refine RunC.wl (τ' := [(1, AV.i64 v7)]) (Γ' := []) hw4 hd4 ?_
    replace h : w_heldFloat32S_k1 v7 = some q0 := h
    unfold w_heldFloat32S_k1 at h
    refine RunC.seq ?_
    refine RunC.regionW ?_
    refine ROps.l (r := AV.i64 v7) rfl rfl rfl (LOp.move rfl rfl) ?_
    refine ROps.l (r := AV.i64 v7) rfl rfl rfl (LOp.assign rfl rfl) ?_
    refine ROps.nil ?_
    refine RunC.ret ?_
    have hq := Option.some.inj h
    subst q0
    exact bodyQ.pure (.inr rfl) rfl (Res.one rfl (RV.tmp rfl))
noncomputable def w_heldMatrix (a0 : Int) (a1 : Int) (a2 : List F) (a3 : Int) : Option (Int) :=
  obind (w_heldFloat32S a2 a3) fun (r1 : Int) =>
  bsel (decide (r1 < 0)) (
    some (-1)) (
    some r1)
theorem w_heldMatrix_ok (a0 : Int) (a1 : Int) (a2 : List F) (a3 : Int) (q0 : Int) (h : w_heldMatrix a0 a1 a2 a3 = some q0) : Ev Try.prog 17 [AV.agg [AV.i64 a0, AV.i64 a1, AV.sl a2.length (a2.map AV.f32)], AV.i64 a3] [] (AV.i64 q0) [] := by
  refine Ev.start Try.func17 rfl rfl 0 (τ := [(0, AV.agg [AV.i64 a0, AV.i64 a1, AV.sl a2.length (a2.map AV.f32)]), (1, AV.i64 a3)]) rfl (Γ' := []) rfl (n := 12) rfl (g := 0) rfl ?_
  unfold w_heldMatrix at h
  refine RunC.seq ?_
  refine RunC.regionW ?_
  refine ROps.d (r := AV.ptr [AV.i64 a0, AV.i64 a1, AV.sl a2.length (a2.map AV.f32)]) (fs := []) (Γ' := []) rfl rfl rfl (TOp.box_s rfl rfl rfl) rfl ?_
  refine ROps.l (r := AV.i64 0) rfl rfl rfl (LOp.assign rfl rfl) ?_
  refine ROps.nil ?_
  refine RunC.seq ?_
  obtain ⟨r1, hf1, h⟩ := obind_some h
  refine RunC.regionW ?_
  refine ROps.l (r := AV.ptr [AV.sl a2.length (a2.map AV.f32)]) rfl rfl rfl (LOp.fap und27 rfl siz22 rfl rfl rfl) ?_
  refine ROps.l (r := AV.sl a2.length (a2.map AV.f32)) rfl rfl rfl (LOp.load1 agg22 rfl rfl) ?_
  refine ROps.l (r := AV.i64 a3) rfl rfl rfl (LOp.move rfl rfl) ?_
  refine ROps.d (r := AV.i64 r1) (fs := []) (Γ' := []) rfl rfl rfl (TOp.callB (CallAs.func ent26 rfl rfl) (Bors.cons (Bor.sl (fun _ => rfl)) (Bors.cons (Bor.pure rfl) Bors.nil)) rfl rfl (w_heldFloat32S_ok a2 a3 r1 hf1)) rfl ?_
  refine ROps.l (r := AV.i64 r1) rfl rfl rfl (LOp.assign rfl rfl) ?_
  refine ROps.nil ?_
  refine RunC.seq ?_
  refine RunC.seq ?_
  rcases bsel_some h with ⟨hc2, h⟩ | ⟨hc2, h⟩
  · refine RunC.regionW ?_
    refine ROps.l (r := AV.i64 r1) rfl rfl rfl (LOp.move rfl rfl) ?_
    refine ROps.l (r := AV.b true) rfl rfl rfl (LOp.eqb (LOp.lss rfl rfl rfl) hc2) ?_
    refine ROps.nil ?_
    refine RunC.cond_true rfl rfl ?_
    refine RunC.seq ?_
    refine RunC.regionW ?_
    refine ROps.l (r := AV.i64 (-1)) rfl rfl rfl (LOp.assign rfl rfl) ?_
    refine ROps.nil ?_
    refine RunC.ret ?_
    have hq := Option.some.inj h
    subst q0
    exact bodyQ.pure (.inr rfl) rfl (Res.one rfl (RV.tmp rfl))
  · refine RunC.regionW ?_
    refine ROps.l (r := AV.i64 r1) rfl rfl rfl (LOp.move rfl rfl) ?_
    refine ROps.l (r := AV.b false) rfl rfl rfl (LOp.eqb (LOp.lss rfl rfl rfl) hc2) ?_
    refine ROps.nil ?_
    refine RunC.cond_false rfl rfl ?_
    refine RunC.skip ?_
    refine RunC.seq ?_
    refine RunC.regionW ?_
    refine ROps.l (r := AV.i64 r1) rfl rfl rfl (LOp.move rfl rfl) ?_
    refine ROps.l (r := AV.i64 r1) rfl rfl rfl (LOp.assign rfl rfl) ?_
    refine ROps.nil ?_
    refine RunC.ret ?_
    have hq := Option.some.inj h
    subst q0
    exact bodyQ.pure (.inr rfl) rfl (Res.one rfl (RV.tmp rfl))
noncomputable def w_heldInt64S_b1 (a0 : List Int) (v1 : Int) (v2 : Int) : Option (LR (Int × Int) (Int) (Int)) :=
  bsel (decide (v2 < (a0.length : Int))) (
    obind (at? a0 v2) fun (e3 : Int) =>
    bsel (!decide (e3 = v1)) (
      some (LR.ret (-1))) (
      olet (IntKind.i64.wrap (v1 + 1)) fun (x4 : Int) =>
      olet (IntKind.i64.wrap (v2 + 1)) fun (x5 : Int) =>
      some (LR.next (x4, x5)))) (
    some (LR.out v1))
noncomputable def w_heldInt64S_s1 (a0 : List Int) : (Int × Int) → Option (LR (Int × Int) (Int) (Int)) := fun s => w_heldInt64S_b1 a0 s.1 s.2
noncomputable def w_heldInt64S_k1 (v6 : Int) : Option (Int) :=
  some v6
noncomputable def w_heldInt64S (a0 : List Int) (a1 : Int) : Option (Int) :=
  obind (loopM (w_heldInt64S_s1 a0) (a1, 0)) fun z => osum z (fun e => w_heldInt64S_k1 e) (fun r => some r)
theorem w_heldInt64S_ok (a0 : List Int) (a1 : Int) (q0 : Int) (h : w_heldInt64S a0 a1 = some q0) : Ev Try.prog 18 [AV.sl a0.length (a0.map AV.i64), AV.i64 a1] [] (AV.i64 q0) [] := by
  refine Ev.start Try.func18 rfl rfl 0 (τ := [(0, AV.sl a0.length (a0.map AV.i64)), (1, AV.i64 a1)]) rfl (Γ' := []) rfl (n := 21) rfl (g := 0) rfl ?_
  unfold w_heldInt64S at h
  refine RunC.seq ?_
  refine RunC.regionW ?_
  refine ROps.l (r := AV.i64 0) rfl rfl rfl (LOp.assign rfl rfl) ?_
  refine ROps.nil ?_
  refine RunC.seq ?_
  refine RunC.seq ?_
  refine RunC.regionW ?_
  refine ROps.l (r := AV.i64 0) rfl rfl rfl (LOp.assign rfl rfl) ?_
  refine ROps.nil ?_
  obtain ⟨z2, hz_2, h⟩ := obind_some h
  refine RunC.cutN (fun τ Γ => ∃ (v6 : Int), WeakLe τ [(1, AV.i64 v6)] ∧ DeadLe Γ [] ∧ z2 = .inl v6) ?_ ?_
  · refine RunC.block (RunC.loop (RunL.loopM (x := z2) (w_heldInt64S_s1 a0) (fun (s : Int × Int) τ Γ => WeakLe τ [(0, AV.sl a0.length (a0.map AV.i64)), (1, AV.i64 s.1), (5, AV.i64 s.2)] ∧ DeadLe Γ []) ?_ _ _ _ hz_2 ⟨⟨(ALe.refl _), (ALe.refl _), (ALe.refl _), trivial⟩, trivial⟩))
    rintro ⟨v1, v2⟩ τ2 Γ2 y2_ ⟨hw2, hd2⟩ h2_ ho2 hr2
    refine RunC.wl (τ' := [(0, AV.sl a0.length (a0.map AV.i64)), (1, AV.i64 v1), (5, AV.i64 v2)]) (Γ' := []) hw2 hd2 ?_
    replace h2_ : w_heldInt64S_b1 a0 v1 v2 = some y2_ := h2_
    unfold w_heldInt64S_b1 at h2_
    refine RunC.seq ?_
    refine RunC.seq ?_
    rcases bsel_some h2_ with ⟨hc1, h2_⟩ | ⟨hc1, h2_⟩
    · refine RunC.regionW ?_
      refine ROps.l (r := AV.i64 v2) rfl rfl rfl (LOp.move rfl rfl) ?_
      refine ROps.l (r := AV.sl a0.length (a0.map AV.i64)) rfl rfl rfl (LOp.move rfl rfl) ?_
      refine ROps.l (r := AV.i64 (a0.length : Int)) rfl rfl rfl (LOp.len_sl und28 rfl rfl) ?_
      refine ROps.l (r := AV.b true) rfl rfl rfl (LOp.eqb (LOp.lss rfl rfl rfl) hc1) ?_
      refine ROps.nil ?_
      refine RunC.cond_true rfl rfl ?_
      refine RunC.skip ?_
      refine RunC.seq ?_
      refine RunC.block ?_
      refine RunC.seq ?_
      refine RunC.seq ?_
      obtain ⟨e3, he2, h2_⟩ := obind_some h2_
      rcases bsel_some h2_ with ⟨hc3, h2_⟩ | ⟨hc3, h2_⟩
      · refine RunC.regionW ?_
        refine ROps.l (r := AV.sl a0.length (a0.map AV.i64)) rfl rfl rfl (LOp.move rfl rfl) ?_
        refine ROps.l (r := AV.i64 v2) rfl rfl rfl (LOp.move rfl rfl) ?_
        refine ROps.l (r := AV.ptr [AV.i64 e3]) rfl rfl rfl (LOp.le (LOp.ix (f := AV.i64) und28 siz2 rfl rfl rfl rfl he2) ALe.ptr) ?_
        refine ROps.l (r := AV.i64 e3) rfl rfl rfl (LOp.load1 agg2 rfl rfl) ?_
        refine ROps.l (r := AV.i64 v1) rfl rfl rfl (LOp.move rfl rfl) ?_
        refine ROps.l (r := AV.b true) rfl rfl rfl (LOp.eqb (LOp.neq rfl rfl rfl) hc3) ?_
        refine ROps.nil ?_
        refine RunC.cond_true rfl rfl ?_
        refine RunC.seq ?_
        refine RunC.regionW ?_
        refine ROps.l (r := AV.i64 (-1)) rfl rfl rfl (LOp.assign rfl rfl) ?_
        refine ROps.nil ?_
        refine RunC.ret ?_
        cases Option.some.inj h2_
        have hx3_ := hr2 _ rfl
        subst hx3_
        have hq := Option.some.inj h
        subst q0
        exact bodyQ.pure (.inr rfl) rfl (Res.one rfl (RV.tmp rfl))
      · refine RunC.regionW ?_
        refine ROps.l (r := AV.sl a0.length (a0.map AV.i64)) rfl rfl rfl (LOp.move rfl rfl) ?_
        refine ROps.l (r := AV.i64 v2) rfl rfl rfl (LOp.move rfl rfl) ?_
        refine ROps.l (r := AV.ptr [AV.i64 e3]) rfl rfl rfl (LOp.le (LOp.ix (f := AV.i64) und28 siz2 rfl rfl rfl rfl he2) ALe.ptr) ?_
        refine ROps.l (r := AV.i64 e3) rfl rfl rfl (LOp.load1 agg2 rfl rfl) ?_
        refine ROps.l (r := AV.i64 v1) rfl rfl rfl (LOp.move rfl rfl) ?_
        refine ROps.l (r := AV.b false) rfl rfl rfl (LOp.eqb (LOp.neq rfl rfl rfl) hc3) ?_
        refine ROps.nil ?_
        refine RunC.cond_false rfl rfl ?_
        refine RunC.skip ?_
        obtain ⟨x4, hx4, h2_⟩ := olet_some h2_
        refine RunC.regionW ?_
        refine ROps.l (r := AV.i64 v1) rfl rfl rfl (LOp.move rfl rfl) ?_
        refine ROps.l (r := AV.i64 x4) rfl rfl rfl (LOp.eqr (LOp.add rfl rfl rfl) (congrArg (AV.ik .i64) hx4)) ?_
        refine ROps.l (r := AV.i64 x4) rfl rfl rfl (LOp.assign rfl rfl) ?_
        refine ROps.nil ?_
        obtain ⟨x5, hx5, h2_⟩ := olet_some h2_
        refine RunC.regionW ?_
        refine ROps.l (r := AV.i64 v2) rfl rfl rfl (LOp.move rfl rfl) ?_
        refine ROps.l (r := AV.i64 x5) rfl rfl rfl (LOp.eqr (LOp.add rfl rfl rfl) (congrArg (AV.ik .i64) hx5)) ?_
        refine ROps.l (r := AV.i64 x5) rfl rfl rfl (LOp.assign rfl rfl) ?_
        refine ROps.nil ?_
        cases Option.some.inj h2_
        exact ⟨_, rfl, ⟨(ALe.refl _), (ALe.refl _), (ALe.refl _), trivial⟩, trivial⟩
    · refine RunC.regionW ?_
      refine ROps.l (r := AV.i64 v2) rfl rfl rfl (LOp.move rfl rfl) ?_
      refine ROps.l (r := AV.sl a0.length (a0.map AV.i64)) rfl rfl rfl (LOp.move rfl rfl) ?_
      refine ROps.l (r := AV.i64 (a0.length : Int)) rfl rfl rfl (LOp.len_sl und28 rfl rfl) ?_
      refine ROps.l (r := AV.b false) rfl rfl rfl (LOp.eqb (LOp.lss rfl rfl rfl) hc1) ?_
      refine ROps.nil ?_
      refine RunC.cond_false rfl rfl ?_
      refine RunC.exit ?_
      cases Option.some.inj h2_
      have hx := ho2 _ rfl
      exact ⟨v1, ⟨(ALe.refl _), trivial⟩, trivial, hx⟩
  · rintro τ4 Γ4 ⟨v6, hw4, hd4, rfl⟩
    refine RunC.wl (τ' := [(1, AV.i64 v6)]) (Γ' := []) hw4 hd4 ?_
    replace h : w_heldInt64S_k1 v6 = some q0 := h
    unfold w_heldInt64S_k1 at h
    refine RunC.seq ?_
    refine RunC.regionW ?_
    refine ROps.l (r := AV.i64 v6) rfl rfl rfl (LOp.move rfl rfl) ?_
    refine ROps.l (r := AV.i64 v6) rfl rfl rfl (LOp.assign rfl rfl) ?_
    refine ROps.nil ?_
    refine RunC.ret ?_
    have hq := Option.some.inj h
    subst q0
    exact bodyQ.pure (.inr rfl) rfl (Res.one rfl (RV.tmp rfl))
end Go.Proofs.Ytjbifkimffmhpaa
