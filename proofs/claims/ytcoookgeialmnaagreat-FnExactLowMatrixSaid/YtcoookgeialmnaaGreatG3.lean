/- Generated. -/
import Derived.Test.YtcoookgeialmnaaGreatG2
namespace Go.Proofs.YtcoookgeialmnaaGreat
open Go Go.AM Go.AM.AV
set_option maxRecDepth 20000
set_option maxHeartbeats 4000000
set_option linter.unusedVariables false
set_option linter.unusedSimpArgs false
noncomputable def i_Matrix_valid_02o (a0 : Int) (a1 : Int) (a2 : List F) : Option ((Int × Int × Bool × (List F)) ⊕ (Int × Int × Bool × (List F) × (List F))) :=
 obind (i_ValidMatrix a0 a1 a2) fun (r1 : Bool) =>
 bsel r1 (
  some (Sum.inl (a0, a1, true, a2))) (
  some (Sum.inr (0, 0, false, a2, ([] : List F))))
theorem i_Matrix_valid_02o_ok0 (a0 : Int) (a1 : Int) (a2 : List F) (q0 : Int) (q1 : Int) (q2 : Bool) (q3 : List F) (h : i_Matrix_valid_02o a0 a1 a2 = some (Sum.inl (q0, q1, q2, q3))) : Ev Tryz.prog 36 [agg [i64 a0, i64 a1, oref 0 0 0 a2.length]] [⟨0, some (a2.map f32)⟩] (tup [agg [i64 q0, i64 q1, oref 0 0 0 q3.length], b q2]) [⟨0, some (q3.map f32)⟩] := by
 refine Ev.start Tryz.func36 rfl rfl 2 (τ := [(0, agg [i64 a0, i64 a1, oref 0 0 0 a2.length])]) rfl (Γ' := [⟨0, some (a2.map f32)⟩, ⟨0, none⟩, ⟨0, none⟩]) rfl (n := 18) rfl (g := 1) rfl (by decide) ?_
 unfold i_Matrix_valid_02o at h
 refine zQ ?_
 refine ROps.d (r := ptr [i64 a0, i64 a1, oref 0 0 0 a2.length]) (fs := []) (Γ' := [⟨0, some (a2.map f32)⟩, ⟨0, none⟩, ⟨0, none⟩]) rfl rfl rfl (TOp.box_s rfl rfl rfl) rfl ?_
 refine ROps.d (r := optr 1 1 0) (fs := [(1, [i64 0, i64 0, nilsl])]) (Γ' := [⟨0, some (a2.map f32)⟩, ⟨1, some [i64 0, i64 0, nilsl]⟩, ⟨0, none⟩]) rfl rfl rfl (TOp.alloc_o (g := ⟨0, none⟩) 1 rfl zer26 zok26 rfl) rfl ?_
 refine zA (r := b false) rfl rfl rfl rfl rfl ?_
 refine zN ?_
 refine RunC.seq ?_
 refine RunC.seq ?_
 obtain ⟨r1, hf1, h⟩ := obind_some h
 rcases bsel_some h with ⟨hc2, h⟩ | ⟨hc2, h⟩
 ·refine RunC.regionW ?_
  refine zL (r := agg [i64 a0, i64 a1, oref 0 0 0 a2.length]) rfl rfl rfl (LOp.loadAgg agg26 siz26 rfl rfl rfl rfl) ?_
  refine ROps.d (r := b true) (fs := []) (Γ' := [⟨0, some (a2.map f32)⟩, ⟨1, some [i64 0, i64 0, nilsl]⟩, ⟨0, none⟩]) rfl rfl rfl (TOp.eqb (TOp.callB (CallAs.func ent65 rfl rfl) (Bors.cons (Bor.agg (Bors.cons (Bor.pure rfl) (Bors.cons (Bor.pure rfl) (Bors.cons (Bor.own (f := f32) (fun _ => rfl) rfl rfl) Bors.nil)))) Bors.nil) rfl rfl (i_ValidMatrix_ok a0 a1 a2 r1 hf1)) hc2) rfl ?_
  refine zL (r := b false) rfl rfl rfl (LOp.eqb (LOp.not rfl rfl) rfl) ?_
  refine zN ?_
  refine RunC.cond_false rfl rfl ?_
  refine RunC.skip ?_
  refine zQ ?_
  refine zL (r := agg [i64 a0, i64 a1, oref 0 0 0 a2.length]) rfl rfl rfl (LOp.loadAgg agg26 siz26 rfl rfl rfl rfl) ?_
  refine ROps.store_le (r := agg [i64 a0, i64 a1, oref 0 0 0 a2.length]) (l' := [i64 a0, i64 a1, oref 0 0 0 a2.length]) (Γ' := [⟨0, some (a2.map f32)⟩, ⟨1, some [i64 a0, i64 a1, oref 0 0 0 a2.length]⟩, ⟨0, none⟩]) rfl siz26 rfl rfl rfl aR rfl rfl rfl rfl (Nat.le_of_ble_eq_true rfl) rfl rfl ?_
  refine zA (r := b true) rfl rfl rfl rfl rfl ?_
  refine zN ?_
  refine RunC.ret ?_
  have hq := Option.some.inj h
  have hq := Sum.inl.inj hq
  obtain ⟨hq0, hq⟩ := Prod.mk.inj hq
  obtain ⟨hq1, hq⟩ := Prod.mk.inj hq
  obtain ⟨hq2, hq⟩ := Prod.mk.inj hq
  subst q0
  subst q1
  subst q2
  subst q3
  exact bodyQ.mk (r' := tup [agg [i64 a0, i64 a1, oref 0 0 0 a2.length], b true]) [(0, 0)] (.inr rfl) rfl (show List.Nodup [0] from by decide) rfl rfl (Res.two rfl (RV.cell agg26 siz26 rfl rfl rfl rfl) (RV.tmp rfl)) (SelL.arr (f := f32) (fun _ => rfl) rfl trivial)
 ·refine RunC.regionW ?_
  refine zL (r := agg [i64 a0, i64 a1, oref 0 0 0 a2.length]) rfl rfl rfl (LOp.loadAgg agg26 siz26 rfl rfl rfl rfl) ?_
  refine ROps.d (r := b false) (fs := []) (Γ' := [⟨0, some (a2.map f32)⟩, ⟨1, some [i64 0, i64 0, nilsl]⟩, ⟨0, none⟩]) rfl rfl rfl (TOp.eqb (TOp.callB (CallAs.func ent65 rfl rfl) (Bors.cons (Bor.agg (Bors.cons (Bor.pure rfl) (Bors.cons (Bor.pure rfl) (Bors.cons (Bor.own (f := f32) (fun _ => rfl) rfl rfl) Bors.nil)))) Bors.nil) rfl rfl (i_ValidMatrix_ok a0 a1 a2 r1 hf1)) hc2) rfl ?_
  refine zL (r := b true) rfl rfl rfl (LOp.eqb (LOp.not rfl rfl) rfl) ?_
  refine zN ?_
  refine RunC.cond_true rfl rfl ?_
  refine zQ ?_
  refine zL (r := agg [i64 0, i64 0, nilsl]) rfl rfl rfl (LOp.build (qs := []) zer26 zok26 und26 plc26 rfl trivial rfl) ?_
  refine ROps.store_le (r := agg [i64 0, i64 0, nilsl]) (l' := [i64 0, i64 0, nilsl]) (Γ' := [⟨0, some (a2.map f32)⟩, ⟨1, some [i64 0, i64 0, nilsl]⟩, ⟨0, none⟩]) rfl siz26 rfl rfl rfl aR rfl rfl rfl rfl (Nat.le_of_ble_eq_true rfl) rfl rfl ?_
  refine zA (r := b false) rfl rfl rfl rfl rfl ?_
  refine zN ?_
  cases Option.some.inj h
theorem i_Matrix_valid_02o_ok1 (a0 : Int) (a1 : Int) (a2 : List F) (q0 : Int) (q1 : Int) (q2 : Bool) (q3 : List F) (q4 : List F) (h : i_Matrix_valid_02o a0 a1 a2 = some (Sum.inr (q0, q1, q2, q3, q4))) : Ev Tryz.prog 36 [agg [i64 a0, i64 a1, oref 0 0 0 a2.length]] [⟨0, some (a2.map f32)⟩] (tup [agg [i64 q0, i64 q1, oref 1 0 0 q4.length], b q2]) [⟨0, some (q3.map f32)⟩, ⟨0, some (q4.map f32)⟩] := by
 refine Ev.start Tryz.func36 rfl rfl 2 (τ := [(0, agg [i64 a0, i64 a1, oref 0 0 0 a2.length])]) rfl (Γ' := [⟨0, some (a2.map f32)⟩, ⟨0, none⟩, ⟨0, none⟩]) rfl (n := 18) rfl (g := 1) rfl (by decide) ?_
 unfold i_Matrix_valid_02o at h
 refine zQ ?_
 refine ROps.d (r := ptr [i64 a0, i64 a1, oref 0 0 0 a2.length]) (fs := []) (Γ' := [⟨0, some (a2.map f32)⟩, ⟨0, none⟩, ⟨0, none⟩]) rfl rfl rfl (TOp.box_s rfl rfl rfl) rfl ?_
 refine ROps.d (r := optr 1 1 0) (fs := [(1, [i64 0, i64 0, nilsl])]) (Γ' := [⟨0, some (a2.map f32)⟩, ⟨1, some [i64 0, i64 0, nilsl]⟩, ⟨0, none⟩]) rfl rfl rfl (TOp.alloc_o (g := ⟨0, none⟩) 1 rfl zer26 zok26 rfl) rfl ?_
 refine zA (r := b false) rfl rfl rfl rfl rfl ?_
 refine zN ?_
 refine RunC.seq ?_
 refine RunC.seq ?_
 obtain ⟨r1, hf1, h⟩ := obind_some h
 rcases bsel_some h with ⟨hc2, h⟩ | ⟨hc2, h⟩
 ·refine RunC.regionW ?_
  refine zL (r := agg [i64 a0, i64 a1, oref 0 0 0 a2.length]) rfl rfl rfl (LOp.loadAgg agg26 siz26 rfl rfl rfl rfl) ?_
  refine ROps.d (r := b true) (fs := []) (Γ' := [⟨0, some (a2.map f32)⟩, ⟨1, some [i64 0, i64 0, nilsl]⟩, ⟨0, none⟩]) rfl rfl rfl (TOp.eqb (TOp.callB (CallAs.func ent65 rfl rfl) (Bors.cons (Bor.agg (Bors.cons (Bor.pure rfl) (Bors.cons (Bor.pure rfl) (Bors.cons (Bor.own (f := f32) (fun _ => rfl) rfl rfl) Bors.nil)))) Bors.nil) rfl rfl (i_ValidMatrix_ok a0 a1 a2 r1 hf1)) hc2) rfl ?_
  refine zL (r := b false) rfl rfl rfl (LOp.eqb (LOp.not rfl rfl) rfl) ?_
  refine zN ?_
  refine RunC.cond_false rfl rfl ?_
  refine RunC.skip ?_
  refine zQ ?_
  refine zL (r := agg [i64 a0, i64 a1, oref 0 0 0 a2.length]) rfl rfl rfl (LOp.loadAgg agg26 siz26 rfl rfl rfl rfl) ?_
  refine ROps.store_le (r := agg [i64 a0, i64 a1, oref 0 0 0 a2.length]) (l' := [i64 a0, i64 a1, oref 0 0 0 a2.length]) (Γ' := [⟨0, some (a2.map f32)⟩, ⟨1, some [i64 a0, i64 a1, oref 0 0 0 a2.length]⟩, ⟨0, none⟩]) rfl siz26 rfl rfl rfl aR rfl rfl rfl rfl (Nat.le_of_ble_eq_true rfl) rfl rfl ?_
  refine zA (r := b true) rfl rfl rfl rfl rfl ?_
  refine zN ?_
  cases Option.some.inj h
 ·refine RunC.regionW ?_
  refine zL (r := agg [i64 a0, i64 a1, oref 0 0 0 a2.length]) rfl rfl rfl (LOp.loadAgg agg26 siz26 rfl rfl rfl rfl) ?_
  refine ROps.d (r := b false) (fs := []) (Γ' := [⟨0, some (a2.map f32)⟩, ⟨1, some [i64 0, i64 0, nilsl]⟩, ⟨0, none⟩]) rfl rfl rfl (TOp.eqb (TOp.callB (CallAs.func ent65 rfl rfl) (Bors.cons (Bor.agg (Bors.cons (Bor.pure rfl) (Bors.cons (Bor.pure rfl) (Bors.cons (Bor.own (f := f32) (fun _ => rfl) rfl rfl) Bors.nil)))) Bors.nil) rfl rfl (i_ValidMatrix_ok a0 a1 a2 r1 hf1)) hc2) rfl ?_
  refine zL (r := b true) rfl rfl rfl (LOp.eqb (LOp.not rfl rfl) rfl) ?_
  refine zN ?_
  refine RunC.cond_true rfl rfl ?_
  refine zQ ?_
  refine zL (r := agg [i64 0, i64 0, nilsl]) rfl rfl rfl (LOp.build (qs := []) zer26 zok26 und26 plc26 rfl trivial rfl) ?_
  refine ROps.store_le (r := agg [i64 0, i64 0, nilsl]) (l' := [i64 0, i64 0, nilsl]) (Γ' := [⟨0, some (a2.map f32)⟩, ⟨1, some [i64 0, i64 0, nilsl]⟩, ⟨0, none⟩]) rfl siz26 rfl rfl rfl aR rfl rfl rfl rfl (Nat.le_of_ble_eq_true rfl) rfl rfl ?_
  refine zA (r := b false) rfl rfl rfl rfl rfl ?_
  refine zN ?_
  refine RunC.nil_cell (l' := [i64 0, i64 0, oref 2 1 0 0]) (Γ' := [⟨0, some (a2.map f32)⟩, ⟨1, some [i64 0, i64 0, oref 2 1 0 0]⟩, ⟨1, some (([] : List F).map f32)⟩]) 1 2 2 rfl rfl rfl rfl rfl ?_
  refine RunC.ret ?_
  have hq := Option.some.inj h
  have hq := Sum.inr.inj hq
  obtain ⟨hq0, hq⟩ := Prod.mk.inj hq
  obtain ⟨hq1, hq⟩ := Prod.mk.inj hq
  obtain ⟨hq2, hq⟩ := Prod.mk.inj hq
  obtain ⟨hq3, hq⟩ := Prod.mk.inj hq
  subst q0
  subst q1
  subst q2
  subst q3
  subst q4
  exact bodyQ.mk (r' := tup [agg [i64 0, i64 0, oref 2 1 0 (([] : List F).length)], b false]) [(0, 0), (2, 1)] (.inr rfl) rfl (show List.Nodup [0, 2] from by decide) rfl rfl (Res.eq (Res.two rfl (RV.cell agg26 siz26 rfl rfl rfl rfl) (RV.tmp rfl)) (by rw [(show ([] : List F).length = 0 from rfl)] <;> rfl)) (SelL.arr (f := f32) (fun _ => rfl) rfl (SelL.arr0 (f := f32) (fun _ => rfl) rfl trivial))
noncomputable def i_LowMatrix (a0 : Int) (a1 : Int) (a2 : List F) (a3 : Int) (a4 : Int) : Option (Int × Int × Bool × (List F)) :=
 obind7 (i_SideTurns a0 a1 a2 a4) fun (r1 : Int) (r2 : Int) (r3 : Int) (r4 : Int) (r5 : Bool) (r6 : List F) (r7 : List F) =>
 bsel r5 (
  obind (i_inRange a3 0 a1) fun (r8 : Bool) =>
  bsel r8 (
   obind (i_Matrix_columnSquares r1 r2 r6) fun (r9 : List F) =>
   obind (i_ascending a1) fun (r10 : List Int) =>
   obind2 (x_slices_SortStableFunc_int64_int64_0o_1Fi_LowMatrix_1_1c0p1_C10o2 r10 r9) fun (r11 : List Int) (r12 : List F) =>
   need (decide (r11.length = r10.length)) <|
   need (decide (r12.length = r9.length)) <|
   obind (sub? r11 0 a3) fun (L13 : List Int) =>
   obind (x_slices_Sort_int64_int64_0o L13) fun (r14 : List Int) =>
   need (decide (r14.length = L13.length)) <|
   obind3 (i_made_2Fi_LowMatrix_2 a0 a1 r14 r1 r2 r6 r3 r4 r7) fun (r15 : Int) (r16 : Int) (r17 : List F) =>
   obind (i_Matrix_valid_02o r15 r16 r17) (fun z => osum z (fun y => obind4 (some y) fun (r18 : Int) (r19 : Int) (r20 : Bool) (r21 : List F) =>
    need (decide (r21.length = r17.length)) <|
    some (r18, r19, r20, r21)) (fun y => obind5 (some y) fun (r22 : Int) (r23 : Int) (r24 : Bool) (r25 : List F) (r26 : List F) =>
    need (decide (r25.length = r17.length)) <|
    some (r22, r23, r24, r26)))) (
   some (0, 0, false, ([] : List F)))) (
  some (0, 0, false, ([] : List F)))
theorem i_LowMatrix_ok (a0 : Int) (a1 : Int) (a2 : List F) (a3 : Int) (a4 : Int) (q0 : Int) (q1 : Int) (q2 : Bool) (q3 : List F) (h : i_LowMatrix a0 a1 a2 a3 a4 = some (q0, q1, q2, q3)) : Ev Tryz.prog 8 [agg [i64 a0, i64 a1, sl a2.length (a2.map f32)], i64 a3, i64 a4] [] (tup [agg [i64 q0, i64 q1, oref 0 0 0 q3.length], b q2]) [⟨0, some (q3.map f32)⟩] := by
 refine Ev.start Tryz.func8 rfl rfl 9 (τ := [(0, agg [i64 a0, i64 a1, sl a2.length (a2.map f32)]), (1, i64 a3), (2, i64 a4)]) rfl (Γ' := [⟨0, none⟩, ⟨0, none⟩, ⟨0, none⟩, ⟨0, none⟩, ⟨0, none⟩, ⟨0, none⟩, ⟨0, none⟩, ⟨0, none⟩, ⟨0, none⟩]) rfl (n := 107) rfl (g := 0) rfl (fun _ => rfl) ?_
 unfold i_LowMatrix at h
 refine zQ ?_
 refine ROps.d (r := ptr [i64 a0, i64 a1, sl a2.length (a2.map f32)]) (fs := []) (Γ' := [⟨0, none⟩, ⟨0, none⟩, ⟨0, none⟩, ⟨0, none⟩, ⟨0, none⟩, ⟨0, none⟩, ⟨0, none⟩, ⟨0, none⟩, ⟨0, none⟩]) rfl rfl rfl (TOp.box_s rfl rfl rfl) rfl ?_
 refine ROps.d (r := optr 0 1 0) (fs := [(0, [i64 0, i64 0, nilsl])]) (Γ' := [⟨1, some [i64 0, i64 0, nilsl]⟩, ⟨0, none⟩, ⟨0, none⟩, ⟨0, none⟩, ⟨0, none⟩, ⟨0, none⟩, ⟨0, none⟩, ⟨0, none⟩, ⟨0, none⟩]) rfl rfl rfl (TOp.alloc_o (g := ⟨0, none⟩) 0 rfl zer26 zok26 rfl) rfl ?_
 refine zA (r := b false) rfl rfl rfl rfl rfl ?_
 refine zN ?_
 refine RunC.seq ?_
 obtain ⟨r1, r2, r3, r4, r5, r6, r7, hf1, h⟩ := obind7_some h
 rcases bsel_some h with ⟨hc2, h⟩ | ⟨hc2, h⟩
 ·refine RunC.regionW ?_
  refine zL (r := agg [i64 a0, i64 a1, sl a2.length (a2.map f32)]) rfl rfl rfl (LOp.loadAgg agg26 siz26 rfl rfl rfl rfl) ?_
  refine zM (r := i64 a4) rfl rfl rfl rfl rfl ?_
  refine ROps.d (r := tup [agg [i64 r1, i64 r2, oref 1 1 0 r6.length], agg [i64 r3, i64 r4, oref 2 1 0 r7.length], b r5]) (fs := [(1, (r6.map f32)), (2, (r7.map f32))]) (Γ' := [⟨1, some [i64 0, i64 0, nilsl]⟩, ⟨1, some (r6.map f32)⟩, ⟨1, some (r7.map f32)⟩, ⟨0, none⟩, ⟨0, none⟩, ⟨0, none⟩, ⟨0, none⟩, ⟨0, none⟩, ⟨0, none⟩]) rfl rfl rfl (TOp.callBN (ls := [(r6.map f32), (r7.map f32)]) [1, 2] (CallAs.func ent24 rfl rfl) (Bors.cons (Bor.agg (Bors.cons (Bor.pure rfl) (Bors.cons (Bor.pure rfl) (Bors.cons (Bor.sl (fun _ => rfl)) Bors.nil)))) (Bors.cons (Bor.pure rfl) Bors.nil)) rfl (i_SideTurns_ok a0 a1 a2 a4 r1 r2 r3 r4 r5 r6 r7 hf1) (and_all (lts0_map (f := f32) (fun _ => rfl) _) (and_all (lts0_map (f := f32) (fun _ => rfl) _) rfl)) (and_all (noss_map (f := f32) (fun _ => rfl) _) (and_all (noss_map (f := f32) (fun _ => rfl) _) rfl)) rfl (by decide) (ns_of ⟨⟨_, rfl⟩, ⟨_, rfl⟩, trivial⟩)) rfl ?_
  refine zM (r := tup [agg [i64 r1, i64 r2, oref 1 1 0 r6.length], agg [i64 r3, i64 r4, oref 2 1 0 r7.length], b r5]) rfl rfl rfl rfl rfl ?_
  refine zL (r := agg [i64 r1, i64 r2, oref 1 1 0 r6.length]) rfl rfl rfl (LOp.extract rfl rfl rfl) ?_
  refine zL (r := agg [i64 r3, i64 r4, oref 2 1 0 r7.length]) rfl rfl rfl (LOp.extract rfl rfl rfl) ?_
  refine zL (r := b true) rfl rfl rfl (LOp.eqb (LOp.extract rfl rfl rfl) hc2) ?_
  refine ROps.d (r := optr 3 1 0) (fs := [(3, [i64 0, i64 0, nilsl])]) (Γ' := [⟨1, some [i64 0, i64 0, nilsl]⟩, ⟨1, some (r6.map f32)⟩, ⟨1, some (r7.map f32)⟩, ⟨1, some [i64 0, i64 0, nilsl]⟩, ⟨0, none⟩, ⟨0, none⟩, ⟨0, none⟩, ⟨0, none⟩, ⟨0, none⟩]) rfl rfl rfl (TOp.alloc_o (g := ⟨0, none⟩) 3 rfl zer26 zok26 rfl) rfl ?_
  refine ROps.d (r := optr 4 1 0) (fs := [(4, [i64 0, i64 0, nilsl])]) (Γ' := [⟨1, some [i64 0, i64 0, nilsl]⟩, ⟨1, some (r6.map f32)⟩, ⟨1, some (r7.map f32)⟩, ⟨1, some [i64 0, i64 0, nilsl]⟩, ⟨1, some [i64 0, i64 0, nilsl]⟩, ⟨0, none⟩, ⟨0, none⟩, ⟨0, none⟩, ⟨0, none⟩]) rfl rfl rfl (TOp.alloc_o (g := ⟨0, none⟩) 4 rfl zer26 zok26 rfl) rfl ?_
  refine ROps.store_le (r := agg [i64 r1, i64 r2, oref 1 1 0 r6.length]) (l' := [i64 r1, i64 r2, oref 1 1 0 r6.length]) (Γ' := [⟨1, some [i64 0, i64 0, nilsl]⟩, ⟨1, some (r6.map f32)⟩, ⟨1, some (r7.map f32)⟩, ⟨1, some [i64 r1, i64 r2, oref 1 1 0 r6.length]⟩, ⟨1, some [i64 0, i64 0, nilsl]⟩, ⟨0, none⟩, ⟨0, none⟩, ⟨0, none⟩, ⟨0, none⟩]) rfl siz26 rfl rfl rfl aR rfl rfl rfl rfl (Nat.le_of_ble_eq_true rfl) rfl rfl ?_
  refine ROps.store_le (r := agg [i64 r3, i64 r4, oref 2 1 0 r7.length]) (l' := [i64 r3, i64 r4, oref 2 1 0 r7.length]) (Γ' := [⟨1, some [i64 0, i64 0, nilsl]⟩, ⟨1, some (r6.map f32)⟩, ⟨1, some (r7.map f32)⟩, ⟨1, some [i64 r1, i64 r2, oref 1 1 0 r6.length]⟩, ⟨1, some [i64 r3, i64 r4, oref 2 1 0 r7.length]⟩, ⟨0, none⟩, ⟨0, none⟩, ⟨0, none⟩, ⟨0, none⟩]) rfl siz26 rfl rfl rfl aR rfl rfl rfl rfl (Nat.le_of_ble_eq_true rfl) rfl rfl ?_
  refine zA (r := b true) rfl rfl rfl rfl rfl ?_
  refine zN ?_
  refine RunC.seq ?_
  refine RunC.seq ?_
  obtain ⟨r8, hf3, h⟩ := obind_some h
  rcases bsel_some h with ⟨hc4, h⟩ | ⟨hc4, h⟩
  ·refine RunC.regionW ?_
   refine zM (r := b true) rfl rfl rfl rfl rfl ?_
   refine zL (r := b false) rfl rfl rfl (LOp.eqb (LOp.not rfl rfl) rfl) ?_
   refine zM (r := b false) rfl rfl rfl rfl rfl ?_
   refine zM (r := i64 a3) rfl rfl rfl rfl rfl ?_
   refine zL (r := ptr [i64 a1, sl a2.length (a2.map f32)]) rfl rfl rfl (LOp.fap und26 rfl siz2 rfl rfl rfl) ?_
   refine zL (r := i64 a1) rfl rfl rfl (LOp.load1 agg2 rfl rfl) ?_
   refine ROps.d (r := b true) (fs := []) (Γ' := [⟨1, some [i64 0, i64 0, nilsl]⟩, ⟨1, some (r6.map f32)⟩, ⟨1, some (r7.map f32)⟩, ⟨1, some [i64 r1, i64 r2, oref 1 1 0 r6.length]⟩, ⟨1, some [i64 r3, i64 r4, oref 2 1 0 r7.length]⟩, ⟨0, none⟩, ⟨0, none⟩, ⟨0, none⟩, ⟨0, none⟩]) rfl rfl rfl (TOp.eqb (TOp.callB (CallAs.func ent25 rfl rfl) (Bors.cons (Bor.pure rfl) (Bors.cons (Bor.pure rfl) (Bors.cons (Bor.pure rfl) Bors.nil))) rfl rfl (i_inRange_ok a3 0 a1 r8 hf3)) hc4) rfl ?_
   refine zL (r := b false) rfl rfl rfl (LOp.eqb (LOp.not rfl rfl) rfl) ?_
   refine zL (r := b false) rfl rfl rfl (LOp.pick_false rfl rfl rfl) ?_
   refine zN ?_
   refine RunC.wl (τ' := [(1, i64 a3), (3, ptr [i64 a0, i64 a1, sl a2.length (a2.map f32)]), (6, optr 0 1 0), (8, optr 3 1 0), (9, optr 4 1 0), (29, b false)]) (Γ' := [⟨1, some [i64 0, i64 0, nilsl]⟩, ⟨1, some (r6.map f32)⟩, ⟨1, some (r7.map f32)⟩, ⟨1, some [i64 r1, i64 r2, oref 1 1 0 r6.length]⟩, ⟨1, some [i64 r3, i64 r4, oref 2 1 0 r7.length]⟩, ⟨0, none⟩, ⟨0, none⟩, ⟨0, none⟩, ⟨0, none⟩]) ⟨aR, aR, aR, aR, aR, aR, trivial⟩ ⟨⟨rfl, .inr rfl⟩, ⟨rfl, .inr rfl⟩, ⟨rfl, .inr rfl⟩, ⟨rfl, .inr rfl⟩, ⟨rfl, .inr rfl⟩, ⟨rfl, .inr rfl⟩, ⟨rfl, .inr rfl⟩, ⟨rfl, .inr rfl⟩, ⟨rfl, .inr rfl⟩, trivial⟩ ?_
   refine RunC.cond_false rfl rfl ?_
   refine RunC.skip ?_
   refine RunC.seq ?_
   obtain ⟨r9, hf5, h⟩ := obind_some h
   obtain ⟨r10, hf6, h⟩ := obind_some h
   refine RunC.region_draw (Γ' := [⟨1, some [i64 0, i64 0, nilsl]⟩, ⟨1, some (r6.map f32)⟩, ⟨1, some (r7.map f32)⟩, ⟨1, some [i64 r1, i64 r2, oref 1 1 0 r6.length]⟩, ⟨1, some [i64 r3, i64 r4, oref 2 1 0 r7.length]⟩, ⟨1, some (r9.map f32)⟩, ⟨1, some (r10.map i64)⟩, ⟨1, some [nilsl]⟩, ⟨0, none⟩]) 6 mixed 
    (TR.d (r := agg [i64 r1, i64 r2, oref 1 1 0 r6.length]) (fs := []) rfl rfl (TOp.loadAgg_o rfl agg26 siz26 rfl rfl rfl rfl) <|
    (TR.d (r := oref 5 1 0 r9.length) (fs := [(5, (r9.map f32))]) rfl rfl (TOp.callBN (ls := [(r9.map f32)]) [5] (CallAs.func ent26 rfl rfl) (Bors.cons (Bor.agg (Bors.cons (Bor.pure rfl) (Bors.cons (Bor.pure rfl) (Bors.cons (Bor.own (f := f32) (fun _ => rfl) rfl rfl) Bors.nil)))) Bors.nil) rfl (i_Matrix_columnSquares_ok r1 r2 r6 r9 hf5) (and_all (lts0_map (f := f32) (fun _ => rfl) _) rfl) (and_all (noss_map (f := f32) (fun _ => rfl) _) rfl) rfl (by decide) (ns_of ⟨⟨_, rfl⟩, trivial⟩)) <|
    (TR.l (r := ptr [i64 a1, sl a2.length (a2.map f32)]) rfl rfl (LOp.fap und26 rfl siz2 rfl rfl rfl) <|
    (TR.l (r := i64 a1) rfl rfl (LOp.load1 agg2 rfl rfl) <|
    (TR.d (r := oref 6 1 0 r10.length) (fs := [(6, (r10.map i64))]) rfl rfl (TOp.callBN (ls := [(r10.map i64)]) [6] (CallAs.func ent27 rfl rfl) (Bors.cons (Bor.pure rfl) Bors.nil) rfl (i_ascending_ok a1 r10 hf6) (and_all (lts0_map (f := i64) (fun _ => rfl) _) rfl) (and_all (noss_map (f := i64) (fun _ => rfl) _) rfl) rfl (by decide) (ns_of ⟨⟨_, rfl⟩, trivial⟩)) <|
    (TR.d (r := optr 7 1 0) (fs := [(7, [nilsl])]) rfl rfl (TOp.alloc_o (g := ⟨0, none⟩) 7 rfl zer22 zok22 rfl) <|
    TR.nil)))))) rfl (by kernel_rfl) rfl (fills_of (by show List.Nodup [5, 6, 7]; decide) ⟨⟨_, rfl⟩, ⟨_, rfl⟩, ⟨_, rfl⟩, trivial⟩) rfl ?_
   iterate 6 refine ROps.dropS ?_
   refine ROps.drop0 ?_
   refine ROps.store_le (r := oref 5 1 0 r9.length) (l' := [oref 5 1 0 r9.length]) (Γ' := [⟨1, some [i64 0, i64 0, nilsl]⟩, ⟨1, some (r6.map f32)⟩, ⟨1, some (r7.map f32)⟩, ⟨1, some [i64 r1, i64 r2, oref 1 1 0 r6.length]⟩, ⟨1, some [i64 r3, i64 r4, oref 2 1 0 r7.length]⟩, ⟨1, some (r9.map f32)⟩, ⟨1, some (r10.map i64)⟩, ⟨1, some [oref 5 1 0 r9.length]⟩, ⟨0, none⟩]) rfl siz22 rfl rfl rfl aR rfl rfl rfl rfl (Nat.le_of_ble_eq_true rfl) rfl rfl ?_
   refine zA (r := oref 6 1 0 r10.length) rfl rfl rfl rfl rfl ?_
   refine zN ?_
   refine RunC.seq ?_
   obtain ⟨r11, r12, hf7, h⟩ := obind2_some h
   obtain ⟨hn8, h⟩ := need_some h
   obtain ⟨hn9, h⟩ := need_some h
   refine RunC.regionW ?_
   refine zM (r := oref 6 1 0 r10.length) rfl rfl rfl rfl rfl ?_
   refine zL (r := fn (.func 29) [] [optr 7 1 0]) rfl rfl rfl (LOp.makeFunc rfl rfl) ?_
   refine ROps.callO (A := [oref 6 1 0 r10.length, fn (.func 29) [] [optr 7 1 0]]) (args := [oref 0 0 0 r10.length, fn (.func 29) [] [optr 1 0 0]]) (Γc := [⟨0, some (r10.map i64)⟩, ⟨0, some [oref 2 0 0 r9.length]⟩, ⟨0, some (r9.map f32)⟩]) (Γc' := [⟨0, some (r11.map i64)⟩, ⟨0, some [oref 2 0 0 r9.length]⟩, ⟨0, some (r12.map f32)⟩]) (r' := tup []) (Γ' := [⟨1, some [i64 0, i64 0, nilsl]⟩, ⟨1, some (r6.map f32)⟩, ⟨1, some (r7.map f32)⟩, ⟨1, some [i64 r1, i64 r2, oref 1 1 0 r6.length]⟩, ⟨1, some [i64 r3, i64 r4, oref 2 1 0 r7.length]⟩, ⟨1, some (r12.map f32)⟩, ⟨1, some (r11.map i64)⟩, ⟨1, some [oref 5 1 0 r9.length]⟩, ⟨0, none⟩]) [(6, 1), (7, 1), (5, 1)] [] rfl (CallAs.func ent28 rfl rfl) rfl rfl (SelOk.of (show List.Nodup [6, 7, 5] from by decide) (SelL.arr0 (f := i64) (fun _ => rfl) rfl (SelL.cells0 rfl (by simp [ren, rens, sigma, rens_f32, rens_f64, rens_i64, rens_ik, rens_str, rens_cp]) rfl (SelL.arr0 (f := f32) (fun _ => rfl) rfl trivial)))) (live_of ⟨⟨_, _, rfl⟩, ⟨_, _, rfl⟩, ⟨_, _, rfl⟩, trivial⟩) (by simp [ren, rens, sigma, rens_f32, rens_f64, rens_i64, rens_ik, rens_str, rens_cp]) rfl (x_slices_SortStableFunc_int64_int64_0o_1Fi_LowMatrix_1_1c0p1_C10o2_ok r10 r9 r11 r12 hf7) rfl (news_of trivial) (show List.Nodup [6, 7, 5] from by decide) (by simp [ren, rens, sigma, of_decide_eq_true hn8, of_decide_eq_true hn9]) (by simp [backOb, sigma, ren, rens, rens_f32, rens_f64, rens_i64, rens_ik, rens_str, rens_cp, of_decide_eq_true hn8, of_decide_eq_true hn9]) ?_
   refine zN ?_
   refine RunC.wl (τ' := [(1, i64 a3), (3, ptr [i64 a0, i64 a1, sl a2.length (a2.map f32)]), (6, optr 0 1 0), (8, optr 3 1 0), (9, optr 4 1 0), (12, oref 6 1 0 r10.length)]) (Γ' := [⟨1, some [i64 0, i64 0, nilsl]⟩, ⟨1, some (r6.map f32)⟩, ⟨1, some (r7.map f32)⟩, ⟨1, some [i64 r1, i64 r2, oref 1 1 0 r6.length]⟩, ⟨1, some [i64 r3, i64 r4, oref 2 1 0 r7.length]⟩, ⟨1, none⟩, ⟨1, some (r11.map i64)⟩, ⟨1, none⟩, ⟨0, none⟩]) ⟨aR, aR, aR, aR, aR, aR, trivial⟩ ⟨⟨rfl, .inr rfl⟩, ⟨rfl, .inr rfl⟩, ⟨rfl, .inr rfl⟩, ⟨rfl, .inr rfl⟩, ⟨rfl, .inr rfl⟩, ⟨rfl, .inl rfl⟩, ⟨rfl, .inr rfl⟩, ⟨rfl, .inl rfl⟩, ⟨rfl, .inr rfl⟩, trivial⟩ ?_
   refine RunC.seq ?_
   obtain ⟨L13, hs10, h⟩ := obind_some h
   refine RunC.regionW ?_
   refine zM (r := oref 6 1 0 r10.length) rfl rfl rfl rfl rfl ?_
   refine zM (r := i64 a3) rfl rfl rfl rfl rfl ?_
   refine ROps.slice_hi_o (f := i64) (Γ' := [⟨1, some [i64 0, i64 0, nilsl]⟩, ⟨1, some (r6.map f32)⟩, ⟨1, some (r7.map f32)⟩, ⟨1, some [i64 r1, i64 r2, oref 1 1 0 r6.length]⟩, ⟨1, some [i64 r3, i64 r4, oref 2 1 0 r7.length]⟩, ⟨1, none⟩, ⟨1, some (L13.map i64)⟩, ⟨1, none⟩, ⟨0, none⟩]) rfl und53 siz2 rfl rfl rfl rfl rfl (of_decide_eq_true hn8) hs10 rfl rfl ?_
   refine ROps.d (r := optr 5 2 0) (fs := [(5, [nilsl])]) (Γ' := [⟨1, some [i64 0, i64 0, nilsl]⟩, ⟨1, some (r6.map f32)⟩, ⟨1, some (r7.map f32)⟩, ⟨1, some [i64 r1, i64 r2, oref 1 1 0 r6.length]⟩, ⟨1, some [i64 r3, i64 r4, oref 2 1 0 r7.length]⟩, ⟨2, some [nilsl]⟩, ⟨1, some (L13.map i64)⟩, ⟨1, none⟩, ⟨0, none⟩]) rfl rfl rfl (TOp.alloc_o (g := ⟨1, none⟩) 5 rfl zer53 zok53 rfl) rfl ?_
   refine ROps.store_le (r := oref 6 1 0 L13.length) (l' := [oref 6 1 0 L13.length]) (Γ' := [⟨1, some [i64 0, i64 0, nilsl]⟩, ⟨1, some (r6.map f32)⟩, ⟨1, some (r7.map f32)⟩, ⟨1, some [i64 r1, i64 r2, oref 1 1 0 r6.length]⟩, ⟨1, some [i64 r3, i64 r4, oref 2 1 0 r7.length]⟩, ⟨2, some [oref 6 1 0 L13.length]⟩, ⟨1, some (L13.map i64)⟩, ⟨1, none⟩, ⟨0, none⟩]) rfl siz53 rfl rfl rfl aR rfl rfl rfl rfl (Nat.le_of_ble_eq_true rfl) rfl rfl ?_
   refine zN ?_
   refine RunC.seq ?_
   obtain ⟨r14, hf11, h⟩ := obind_some h
   obtain ⟨hn12, h⟩ := need_some h
   refine RunC.regionW ?_
   refine ROps.d (r := oref 6 1 0 L13.length) (fs := []) (Γ' := [⟨1, some [i64 0, i64 0, nilsl]⟩, ⟨1, some (r6.map f32)⟩, ⟨1, some (r7.map f32)⟩, ⟨1, some [i64 r1, i64 r2, oref 1 1 0 r6.length]⟩, ⟨1, some [i64 r3, i64 r4, oref 2 1 0 r7.length]⟩, ⟨2, some [oref 6 1 0 L13.length]⟩, ⟨1, some (L13.map i64)⟩, ⟨1, none⟩, ⟨0, none⟩]) rfl rfl rfl (TOp.load1_o rfl rfl agg53 rfl rfl) rfl ?_
   refine ROps.callO (A := [oref 6 1 0 L13.length]) (args := [oref 0 0 0 L13.length]) (Γc := [⟨0, some (L13.map i64)⟩]) (Γc' := [⟨0, some (r14.map i64)⟩]) (r' := tup []) (Γ' := [⟨1, some [i64 0, i64 0, nilsl]⟩, ⟨1, some (r6.map f32)⟩, ⟨1, some (r7.map f32)⟩, ⟨1, some [i64 r1, i64 r2, oref 1 1 0 r6.length]⟩, ⟨1, some [i64 r3, i64 r4, oref 2 1 0 r7.length]⟩, ⟨2, some [oref 6 1 0 L13.length]⟩, ⟨1, some (r14.map i64)⟩, ⟨1, none⟩, ⟨0, none⟩]) [(6, 1)] [] rfl (CallAs.func ent31 rfl rfl) rfl rfl (SelOk.of (show List.Nodup [6] from by decide) (SelL.arr0 (f := i64) (fun _ => rfl) rfl trivial)) (live_of ⟨⟨_, _, rfl⟩, trivial⟩) (by simp [ren, rens, sigma, rens_f32, rens_f64, rens_i64, rens_ik, rens_str, rens_cp]) rfl (x_slices_Sort_int64_int64_0o_ok L13 r14 hf11) rfl (news_of trivial) (show List.Nodup [6] from by decide) (by simp [ren, rens, sigma, of_decide_eq_true hn12]) (by simp [backOb, sigma, ren, rens, rens_f32, rens_f64, rens_i64, rens_ik, rens_str, rens_cp]) ?_
   refine zN ?_
   refine RunC.seq ?_
   obtain ⟨r15, r16, r17, hf13, h⟩ := obind3_some h
   obtain ⟨z1, hf14, h⟩ := obind_some h
   rcases z1 with z1 | z1
   ·replace h := (osum_inl _ _ _).symm.trans h
    obtain ⟨r18, r19, r20, r21, hz2, h⟩ := obind4_some h
    cases hz2
    obtain ⟨hn15, h⟩ := need_some h
    refine RunC.regionW ?_
    refine zL (r := ptr [i64 a0, i64 a1, sl a2.length (a2.map f32)]) rfl rfl rfl (LOp.fap und26 rfl siz2 rfl rfl rfl) ?_
    refine zL (r := i64 a0) rfl rfl rfl (LOp.load1 agg2 rfl rfl) ?_
    refine zL (r := ptr [i64 a1, sl a2.length (a2.map f32)]) rfl rfl rfl (LOp.fap und26 rfl siz2 rfl rfl rfl) ?_
    refine zL (r := i64 a1) rfl rfl rfl (LOp.load1 agg2 rfl rfl) ?_
    refine zL (r := fn (.func 33) [] [optr 5 2 0, optr 3 1 0, optr 4 1 0]) rfl rfl rfl (LOp.makeFunc rfl rfl) ?_
    refine ROps.d (r := agg [i64 r15, i64 r16, oref 7 2 0 r17.length]) (fs := [(7, (r17.map f32))]) (Γ' := [⟨1, some [i64 0, i64 0, nilsl]⟩, ⟨1, some (r6.map f32)⟩, ⟨1, some (r7.map f32)⟩, ⟨1, some [i64 r1, i64 r2, oref 1 1 0 r6.length]⟩, ⟨1, some [i64 r3, i64 r4, oref 2 1 0 r7.length]⟩, ⟨2, some [oref 6 1 0 L13.length]⟩, ⟨1, some (r14.map i64)⟩, ⟨2, some (r17.map f32)⟩, ⟨0, none⟩]) rfl rfl rfl (TOp.callBN (ls := [(r17.map f32)]) [7] (CallAs.func ent32 rfl rfl) (Bors.cons (Bor.pure rfl) (Bors.cons (Bor.pure rfl) (Bors.cons (Bor.fn Bors.nil (Bors.cons (Bor.optr rfl (Bors.p (Bors.cons (Bor.own (f := i64) (fun _ => rfl) rfl (of_decide_eq_true hn12)) Bors.nil)) rfl) (Bors.cons (Bor.optr rfl (Bors.p (Bors.cons (Bor.pure rfl) (Bors.cons (Bor.pure rfl) (Bors.cons (Bor.own (f := f32) (fun _ => rfl) rfl rfl) Bors.nil)))) rfl) (Bors.cons (Bor.optr rfl (Bors.p (Bors.cons (Bor.pure rfl) (Bors.cons (Bor.pure rfl) (Bors.cons (Bor.own (f := f32) (fun _ => rfl) rfl rfl) Bors.nil)))) rfl) Bors.nil)))) Bors.nil))) rfl (i_made_2Fi_LowMatrix_2_ok a0 a1 r14 r1 r2 r6 r3 r4 r7 r15 r16 r17 hf13) (and_all (lts0_map (f := f32) (fun _ => rfl) _) rfl) (and_all (noss_map (f := f32) (fun _ => rfl) _) rfl) rfl (by decide) (ns_of ⟨⟨_, rfl⟩, trivial⟩)) rfl ?_
    refine ROps.callO (A := [agg [i64 r15, i64 r16, oref 7 2 0 r17.length]]) (args := [agg [i64 r15, i64 r16, oref 0 0 0 r17.length]]) (Γc := [⟨0, some (r17.map f32)⟩]) (Γc' := [⟨0, some (r21.map f32)⟩]) (r' := tup [agg [i64 r18, i64 r19, oref 7 2 0 r17.length], b r20]) (Γ' := [⟨1, some [i64 0, i64 0, nilsl]⟩, ⟨1, some (r6.map f32)⟩, ⟨1, some (r7.map f32)⟩, ⟨1, some [i64 r1, i64 r2, oref 1 1 0 r6.length]⟩, ⟨1, some [i64 r3, i64 r4, oref 2 1 0 r7.length]⟩, ⟨2, some [oref 6 1 0 L13.length]⟩, ⟨1, some (r14.map i64)⟩, ⟨2, some (r21.map f32)⟩, ⟨0, none⟩]) [(7, 2)] [] rfl (CallAs.func ent36 rfl rfl) rfl rfl (SelOk.of (show List.Nodup [7] from by decide) (SelL.arr0 (f := f32) (fun _ => rfl) rfl trivial)) (live_of ⟨⟨_, _, rfl⟩, trivial⟩) (by simp [ren, rens, sigma, rens_f32, rens_f64, rens_i64, rens_ik, rens_str, rens_cp]) rfl (i_Matrix_valid_02o_ok0 r15 r16 r17 r18 r19 r20 r21 hf14) rfl (news_of trivial) (show List.Nodup [7] from by decide) (by simp [ren, rens, sigma, of_decide_eq_true hn15]) (by simp [backOb, sigma, ren, rens, rens_f32, rens_f64, rens_i64, rens_ik, rens_str, rens_cp]) ?_
    refine zL (r := agg [i64 r18, i64 r19, oref 7 2 0 r17.length]) rfl rfl rfl (LOp.extract rfl rfl rfl) ?_
    refine zL (r := b r20) rfl rfl rfl (LOp.extract rfl rfl rfl) ?_
    refine ROps.store_le (r := agg [i64 r18, i64 r19, oref 7 2 0 r17.length]) (l' := [i64 r18, i64 r19, oref 7 2 0 r17.length]) (Γ' := [⟨1, some [i64 r18, i64 r19, oref 7 2 0 r17.length]⟩, ⟨1, some (r6.map f32)⟩, ⟨1, some (r7.map f32)⟩, ⟨1, some [i64 r1, i64 r2, oref 1 1 0 r6.length]⟩, ⟨1, some [i64 r3, i64 r4, oref 2 1 0 r7.length]⟩, ⟨2, some [oref 6 1 0 L13.length]⟩, ⟨1, some (r14.map i64)⟩, ⟨2, some (r21.map f32)⟩, ⟨0, none⟩]) rfl siz26 rfl rfl rfl aR rfl rfl rfl rfl (Nat.le_of_ble_eq_true rfl) rfl rfl ?_
    refine zA (r := b r20) rfl rfl rfl rfl rfl ?_
    refine zN ?_
    refine RunC.ret ?_
    have hq := Option.some.inj h
    obtain ⟨hq0, hq⟩ := Prod.mk.inj hq
    obtain ⟨hq1, hq⟩ := Prod.mk.inj hq
    obtain ⟨hq2, hq⟩ := Prod.mk.inj hq
    subst q0
    subst q1
    subst q2
    subst q3
    exact bodyQ.mk (r' := tup [agg [i64 r18, i64 r19, oref 7 2 0 r21.length], b r20]) [(7, 2)] (.inr rfl) rfl (show List.Nodup [7] from by decide) rfl rfl (Res.eq (Res.two rfl (RV.cell agg26 siz26 rfl rfl rfl rfl) (RV.tmp rfl)) (by rw [(show r21.length = r17.length from (of_decide_eq_true hn15))] <;> rfl)) (SelL.arr0 (f := f32) (fun _ => rfl) rfl trivial)
   ·replace h := (osum_inr _ _ _).symm.trans h
    obtain ⟨r22, r23, r24, r25, r26, hz3, h⟩ := obind5_some h
    cases hz3
    obtain ⟨hn16, h⟩ := need_some h
    refine RunC.regionW ?_
    refine zL (r := ptr [i64 a0, i64 a1, sl a2.length (a2.map f32)]) rfl rfl rfl (LOp.fap und26 rfl siz2 rfl rfl rfl) ?_
    refine zL (r := i64 a0) rfl rfl rfl (LOp.load1 agg2 rfl rfl) ?_
    refine zL (r := ptr [i64 a1, sl a2.length (a2.map f32)]) rfl rfl rfl (LOp.fap und26 rfl siz2 rfl rfl rfl) ?_
    refine zL (r := i64 a1) rfl rfl rfl (LOp.load1 agg2 rfl rfl) ?_
    refine zL (r := fn (.func 33) [] [optr 5 2 0, optr 3 1 0, optr 4 1 0]) rfl rfl rfl (LOp.makeFunc rfl rfl) ?_
    refine ROps.d (r := agg [i64 r15, i64 r16, oref 7 2 0 r17.length]) (fs := [(7, (r17.map f32))]) (Γ' := [⟨1, some [i64 0, i64 0, nilsl]⟩, ⟨1, some (r6.map f32)⟩, ⟨1, some (r7.map f32)⟩, ⟨1, some [i64 r1, i64 r2, oref 1 1 0 r6.length]⟩, ⟨1, some [i64 r3, i64 r4, oref 2 1 0 r7.length]⟩, ⟨2, some [oref 6 1 0 L13.length]⟩, ⟨1, some (r14.map i64)⟩, ⟨2, some (r17.map f32)⟩, ⟨0, none⟩]) rfl rfl rfl (TOp.callBN (ls := [(r17.map f32)]) [7] (CallAs.func ent32 rfl rfl) (Bors.cons (Bor.pure rfl) (Bors.cons (Bor.pure rfl) (Bors.cons (Bor.fn Bors.nil (Bors.cons (Bor.optr rfl (Bors.p (Bors.cons (Bor.own (f := i64) (fun _ => rfl) rfl (of_decide_eq_true hn12)) Bors.nil)) rfl) (Bors.cons (Bor.optr rfl (Bors.p (Bors.cons (Bor.pure rfl) (Bors.cons (Bor.pure rfl) (Bors.cons (Bor.own (f := f32) (fun _ => rfl) rfl rfl) Bors.nil)))) rfl) (Bors.cons (Bor.optr rfl (Bors.p (Bors.cons (Bor.pure rfl) (Bors.cons (Bor.pure rfl) (Bors.cons (Bor.own (f := f32) (fun _ => rfl) rfl rfl) Bors.nil)))) rfl) Bors.nil)))) Bors.nil))) rfl (i_made_2Fi_LowMatrix_2_ok a0 a1 r14 r1 r2 r6 r3 r4 r7 r15 r16 r17 hf13) (and_all (lts0_map (f := f32) (fun _ => rfl) _) rfl) (and_all (noss_map (f := f32) (fun _ => rfl) _) rfl) rfl (by decide) (ns_of ⟨⟨_, rfl⟩, trivial⟩)) rfl ?_
    refine ROps.callO (A := [agg [i64 r15, i64 r16, oref 7 2 0 r17.length]]) (args := [agg [i64 r15, i64 r16, oref 0 0 0 r17.length]]) (Γc := [⟨0, some (r17.map f32)⟩]) (Γc' := [⟨0, some (r25.map f32)⟩, ⟨0, some (r26.map f32)⟩]) (r' := tup [agg [i64 r22, i64 r23, oref 8 1 0 r26.length], b r24]) (Γ' := [⟨1, some [i64 0, i64 0, nilsl]⟩, ⟨1, some (r6.map f32)⟩, ⟨1, some (r7.map f32)⟩, ⟨1, some [i64 r1, i64 r2, oref 1 1 0 r6.length]⟩, ⟨1, some [i64 r3, i64 r4, oref 2 1 0 r7.length]⟩, ⟨2, some [oref 6 1 0 L13.length]⟩, ⟨1, some (r14.map i64)⟩, ⟨2, some (r25.map f32)⟩, ⟨1, some (r26.map f32)⟩]) [(7, 2)] [(8, 1)] rfl (CallAs.func ent36 rfl rfl) rfl rfl (SelOk.of (show List.Nodup [7] from by decide) (SelL.arr0 (f := f32) (fun _ => rfl) rfl trivial)) (live_of ⟨⟨_, _, rfl⟩, trivial⟩) (by simp [ren, rens, sigma, rens_f32, rens_f64, rens_i64, rens_ik, rens_str, rens_cp]) rfl (i_Matrix_valid_02o_ok1 r15 r16 r17 r22 r23 r24 r25 r26 hf14) rfl (news_of ⟨⟨_, rfl, rfl⟩, trivial⟩) (show List.Nodup [7, 8] from by decide) (by simp [ren, rens, sigma, of_decide_eq_true hn16]) (by simp [backOb, sigma, ren, rens, rens_f32, rens_f64, rens_i64, rens_ik, rens_str, rens_cp]) ?_
    refine zL (r := agg [i64 r22, i64 r23, oref 8 1 0 r26.length]) rfl rfl rfl (LOp.extract rfl rfl rfl) ?_
    refine zL (r := b r24) rfl rfl rfl (LOp.extract rfl rfl rfl) ?_
    refine ROps.store_le (r := agg [i64 r22, i64 r23, oref 8 1 0 r26.length]) (l' := [i64 r22, i64 r23, oref 8 1 0 r26.length]) (Γ' := [⟨1, some [i64 r22, i64 r23, oref 8 1 0 r26.length]⟩, ⟨1, some (r6.map f32)⟩, ⟨1, some (r7.map f32)⟩, ⟨1, some [i64 r1, i64 r2, oref 1 1 0 r6.length]⟩, ⟨1, some [i64 r3, i64 r4, oref 2 1 0 r7.length]⟩, ⟨2, some [oref 6 1 0 L13.length]⟩, ⟨1, some (r14.map i64)⟩, ⟨2, some (r25.map f32)⟩, ⟨1, some (r26.map f32)⟩]) rfl siz26 rfl rfl rfl aR rfl rfl rfl rfl (Nat.le_of_ble_eq_true rfl) rfl rfl ?_
    refine zA (r := b r24) rfl rfl rfl rfl rfl ?_
    refine zN ?_
    refine RunC.ret ?_
    have hq := Option.some.inj h
    obtain ⟨hq0, hq⟩ := Prod.mk.inj hq
    obtain ⟨hq1, hq⟩ := Prod.mk.inj hq
    obtain ⟨hq2, hq⟩ := Prod.mk.inj hq
    subst q0
    subst q1
    subst q2
    subst q3
    exact bodyQ.mk (r' := tup [agg [i64 r22, i64 r23, oref 8 1 0 r26.length], b r24]) [(8, 1)] (.inr rfl) rfl (show List.Nodup [8] from by decide) rfl rfl (Res.two rfl (RV.cell agg26 siz26 rfl rfl rfl rfl) (RV.tmp rfl)) (SelL.arr0 (f := f32) (fun _ => rfl) rfl trivial)
  ·refine RunC.regionW ?_
   refine zM (r := b true) rfl rfl rfl rfl rfl ?_
   refine zL (r := b false) rfl rfl rfl (LOp.eqb (LOp.not rfl rfl) rfl) ?_
   refine zM (r := b false) rfl rfl rfl rfl rfl ?_
   refine zM (r := i64 a3) rfl rfl rfl rfl rfl ?_
   refine zL (r := ptr [i64 a1, sl a2.length (a2.map f32)]) rfl rfl rfl (LOp.fap und26 rfl siz2 rfl rfl rfl) ?_
   refine zL (r := i64 a1) rfl rfl rfl (LOp.load1 agg2 rfl rfl) ?_
   refine ROps.d (r := b false) (fs := []) (Γ' := [⟨1, some [i64 0, i64 0, nilsl]⟩, ⟨1, some (r6.map f32)⟩, ⟨1, some (r7.map f32)⟩, ⟨1, some [i64 r1, i64 r2, oref 1 1 0 r6.length]⟩, ⟨1, some [i64 r3, i64 r4, oref 2 1 0 r7.length]⟩, ⟨0, none⟩, ⟨0, none⟩, ⟨0, none⟩, ⟨0, none⟩]) rfl rfl rfl (TOp.eqb (TOp.callB (CallAs.func ent25 rfl rfl) (Bors.cons (Bor.pure rfl) (Bors.cons (Bor.pure rfl) (Bors.cons (Bor.pure rfl) Bors.nil))) rfl rfl (i_inRange_ok a3 0 a1 r8 hf3)) hc4) rfl ?_
   refine zL (r := b true) rfl rfl rfl (LOp.eqb (LOp.not rfl rfl) rfl) ?_
   refine zL (r := b true) rfl rfl rfl (LOp.pick_false rfl rfl rfl) ?_
   refine zN ?_
   refine RunC.wl (τ' := [(1, i64 a3), (3, ptr [i64 a0, i64 a1, sl a2.length (a2.map f32)]), (6, optr 0 1 0), (8, optr 3 1 0), (9, optr 4 1 0), (29, b true)]) (Γ' := [⟨1, some [i64 0, i64 0, nilsl]⟩, ⟨1, some (r6.map f32)⟩, ⟨1, some (r7.map f32)⟩, ⟨1, some [i64 r1, i64 r2, oref 1 1 0 r6.length]⟩, ⟨1, some [i64 r3, i64 r4, oref 2 1 0 r7.length]⟩, ⟨0, none⟩, ⟨0, none⟩, ⟨0, none⟩, ⟨0, none⟩]) ⟨aR, aR, aR, aR, aR, aR, trivial⟩ ⟨⟨rfl, .inr rfl⟩, ⟨rfl, .inr rfl⟩, ⟨rfl, .inr rfl⟩, ⟨rfl, .inr rfl⟩, ⟨rfl, .inr rfl⟩, ⟨rfl, .inr rfl⟩, ⟨rfl, .inr rfl⟩, ⟨rfl, .inr rfl⟩, ⟨rfl, .inr rfl⟩, trivial⟩ ?_
   refine RunC.cond_true rfl rfl ?_
   refine zQ ?_
   refine zL (r := agg [i64 0, i64 0, nilsl]) rfl rfl rfl (LOp.build (qs := []) zer26 zok26 und26 plc26 rfl trivial rfl) ?_
   refine ROps.store_le (r := agg [i64 0, i64 0, nilsl]) (l' := [i64 0, i64 0, nilsl]) (Γ' := [⟨1, some [i64 0, i64 0, nilsl]⟩, ⟨1, some (r6.map f32)⟩, ⟨1, some (r7.map f32)⟩, ⟨1, some [i64 r1, i64 r2, oref 1 1 0 r6.length]⟩, ⟨1, some [i64 r3, i64 r4, oref 2 1 0 r7.length]⟩, ⟨0, none⟩, ⟨0, none⟩, ⟨0, none⟩, ⟨0, none⟩]) rfl siz26 rfl rfl rfl aR rfl rfl rfl rfl (Nat.le_of_ble_eq_true rfl) rfl rfl ?_
   refine zA (r := b false) rfl rfl rfl rfl rfl ?_
   refine zN ?_
   refine RunC.nil_cell (l' := [i64 0, i64 0, oref 5 1 0 0]) (Γ' := [⟨1, some [i64 0, i64 0, oref 5 1 0 0]⟩, ⟨1, some (r6.map f32)⟩, ⟨1, some (r7.map f32)⟩, ⟨1, some [i64 r1, i64 r2, oref 1 1 0 r6.length]⟩, ⟨1, some [i64 r3, i64 r4, oref 2 1 0 r7.length]⟩, ⟨1, some (([] : List F).map f32)⟩, ⟨0, none⟩, ⟨0, none⟩, ⟨0, none⟩]) 0 2 5 rfl rfl rfl rfl rfl ?_
   refine RunC.ret ?_
   have hq := Option.some.inj h
   obtain ⟨hq0, hq⟩ := Prod.mk.inj hq
   obtain ⟨hq1, hq⟩ := Prod.mk.inj hq
   obtain ⟨hq2, hq⟩ := Prod.mk.inj hq
   subst q0
   subst q1
   subst q2
   subst q3
   exact bodyQ.mk (r' := tup [agg [i64 0, i64 0, oref 5 1 0 (([] : List F).length)], b false]) [(5, 1)] (.inr rfl) rfl (show List.Nodup [5] from by decide) rfl rfl (Res.eq (Res.two rfl (RV.cell agg26 siz26 rfl rfl rfl rfl) (RV.tmp rfl)) (by rw [(show ([] : List F).length = 0 from rfl)] <;> rfl)) (SelL.arr0 (f := f32) (fun _ => rfl) rfl trivial)
 ·refine RunC.regionW ?_
  refine zL (r := agg [i64 a0, i64 a1, sl a2.length (a2.map f32)]) rfl rfl rfl (LOp.loadAgg agg26 siz26 rfl rfl rfl rfl) ?_
  refine zM (r := i64 a4) rfl rfl rfl rfl rfl ?_
  refine ROps.d (r := tup [agg [i64 r1, i64 r2, oref 1 1 0 r6.length], agg [i64 r3, i64 r4, oref 2 1 0 r7.length], b r5]) (fs := [(1, (r6.map f32)), (2, (r7.map f32))]) (Γ' := [⟨1, some [i64 0, i64 0, nilsl]⟩, ⟨1, some (r6.map f32)⟩, ⟨1, some (r7.map f32)⟩, ⟨0, none⟩, ⟨0, none⟩, ⟨0, none⟩, ⟨0, none⟩, ⟨0, none⟩, ⟨0, none⟩]) rfl rfl rfl (TOp.callBN (ls := [(r6.map f32), (r7.map f32)]) [1, 2] (CallAs.func ent24 rfl rfl) (Bors.cons (Bor.agg (Bors.cons (Bor.pure rfl) (Bors.cons (Bor.pure rfl) (Bors.cons (Bor.sl (fun _ => rfl)) Bors.nil)))) (Bors.cons (Bor.pure rfl) Bors.nil)) rfl (i_SideTurns_ok a0 a1 a2 a4 r1 r2 r3 r4 r5 r6 r7 hf1) (and_all (lts0_map (f := f32) (fun _ => rfl) _) (and_all (lts0_map (f := f32) (fun _ => rfl) _) rfl)) (and_all (noss_map (f := f32) (fun _ => rfl) _) (and_all (noss_map (f := f32) (fun _ => rfl) _) rfl)) rfl (by decide) (ns_of ⟨⟨_, rfl⟩, ⟨_, rfl⟩, trivial⟩)) rfl ?_
  refine zM (r := tup [agg [i64 r1, i64 r2, oref 1 1 0 r6.length], agg [i64 r3, i64 r4, oref 2 1 0 r7.length], b r5]) rfl rfl rfl rfl rfl ?_
  refine zL (r := agg [i64 r1, i64 r2, oref 1 1 0 r6.length]) rfl rfl rfl (LOp.extract rfl rfl rfl) ?_
  refine zL (r := agg [i64 r3, i64 r4, oref 2 1 0 r7.length]) rfl rfl rfl (LOp.extract rfl rfl rfl) ?_
  refine zL (r := b false) rfl rfl rfl (LOp.eqb (LOp.extract rfl rfl rfl) hc2) ?_
  refine ROps.d (r := optr 3 1 0) (fs := [(3, [i64 0, i64 0, nilsl])]) (Γ' := [⟨1, some [i64 0, i64 0, nilsl]⟩, ⟨1, some (r6.map f32)⟩, ⟨1, some (r7.map f32)⟩, ⟨1, some [i64 0, i64 0, nilsl]⟩, ⟨0, none⟩, ⟨0, none⟩, ⟨0, none⟩, ⟨0, none⟩, ⟨0, none⟩]) rfl rfl rfl (TOp.alloc_o (g := ⟨0, none⟩) 3 rfl zer26 zok26 rfl) rfl ?_
  refine ROps.d (r := optr 4 1 0) (fs := [(4, [i64 0, i64 0, nilsl])]) (Γ' := [⟨1, some [i64 0, i64 0, nilsl]⟩, ⟨1, some (r6.map f32)⟩, ⟨1, some (r7.map f32)⟩, ⟨1, some [i64 0, i64 0, nilsl]⟩, ⟨1, some [i64 0, i64 0, nilsl]⟩, ⟨0, none⟩, ⟨0, none⟩, ⟨0, none⟩, ⟨0, none⟩]) rfl rfl rfl (TOp.alloc_o (g := ⟨0, none⟩) 4 rfl zer26 zok26 rfl) rfl ?_
  refine ROps.store_le (r := agg [i64 r1, i64 r2, oref 1 1 0 r6.length]) (l' := [i64 r1, i64 r2, oref 1 1 0 r6.length]) (Γ' := [⟨1, some [i64 0, i64 0, nilsl]⟩, ⟨1, some (r6.map f32)⟩, ⟨1, some (r7.map f32)⟩, ⟨1, some [i64 r1, i64 r2, oref 1 1 0 r6.length]⟩, ⟨1, some [i64 0, i64 0, nilsl]⟩, ⟨0, none⟩, ⟨0, none⟩, ⟨0, none⟩, ⟨0, none⟩]) rfl siz26 rfl rfl rfl aR rfl rfl rfl rfl (Nat.le_of_ble_eq_true rfl) rfl rfl ?_
  refine ROps.store_le (r := agg [i64 r3, i64 r4, oref 2 1 0 r7.length]) (l' := [i64 r3, i64 r4, oref 2 1 0 r7.length]) (Γ' := [⟨1, some [i64 0, i64 0, nilsl]⟩, ⟨1, some (r6.map f32)⟩, ⟨1, some (r7.map f32)⟩, ⟨1, some [i64 r1, i64 r2, oref 1 1 0 r6.length]⟩, ⟨1, some [i64 r3, i64 r4, oref 2 1 0 r7.length]⟩, ⟨0, none⟩, ⟨0, none⟩, ⟨0, none⟩, ⟨0, none⟩]) rfl siz26 rfl rfl rfl aR rfl rfl rfl rfl (Nat.le_of_ble_eq_true rfl) rfl rfl ?_
  refine zA (r := b false) rfl rfl rfl rfl rfl ?_
  refine zN ?_
  refine RunC.seq ?_
  refine zQ ?_
  refine zM (r := b false) rfl rfl rfl rfl rfl ?_
  refine zL (r := b true) rfl rfl rfl (LOp.eqb (LOp.not rfl rfl) rfl) ?_
  refine zM (r := b true) rfl rfl rfl rfl rfl ?_
  refine ROps.s rfl rfl rfl ?_
  refine ROps.s rfl rfl rfl ?_
  refine ROps.s rfl rfl rfl ?_
  refine ROps.s rfl rfl rfl ?_
  refine ROps.s rfl rfl rfl ?_
  refine zL (r := b true) rfl rfl rfl (LOp.pick_true rfl rfl rfl) ?_
  refine zN ?_
  refine RunC.wl (τ' := [(1, i64 a3), (3, ptr [i64 a0, i64 a1, sl a2.length (a2.map f32)]), (6, optr 0 1 0), (8, optr 3 1 0), (9, optr 4 1 0), (29, b true)]) (Γ' := [⟨1, some [i64 0, i64 0, nilsl]⟩, ⟨1, some (r6.map f32)⟩, ⟨1, some (r7.map f32)⟩, ⟨1, some [i64 r1, i64 r2, oref 1 1 0 r6.length]⟩, ⟨1, some [i64 r3, i64 r4, oref 2 1 0 r7.length]⟩, ⟨0, none⟩, ⟨0, none⟩, ⟨0, none⟩, ⟨0, none⟩]) ⟨aR, aR, aR, aR, aR, aR, trivial⟩ ⟨⟨rfl, .inr rfl⟩, ⟨rfl, .inr rfl⟩, ⟨rfl, .inr rfl⟩, ⟨rfl, .inr rfl⟩, ⟨rfl, .inr rfl⟩, ⟨rfl, .inr rfl⟩, ⟨rfl, .inr rfl⟩, ⟨rfl, .inr rfl⟩, ⟨rfl, .inr rfl⟩, trivial⟩ ?_
  refine RunC.cond_true rfl rfl ?_
  refine zQ ?_
  refine zL (r := agg [i64 0, i64 0, nilsl]) rfl rfl rfl (LOp.build (qs := []) zer26 zok26 und26 plc26 rfl trivial rfl) ?_
  refine ROps.store_le (r := agg [i64 0, i64 0, nilsl]) (l' := [i64 0, i64 0, nilsl]) (Γ' := [⟨1, some [i64 0, i64 0, nilsl]⟩, ⟨1, some (r6.map f32)⟩, ⟨1, some (r7.map f32)⟩, ⟨1, some [i64 r1, i64 r2, oref 1 1 0 r6.length]⟩, ⟨1, some [i64 r3, i64 r4, oref 2 1 0 r7.length]⟩, ⟨0, none⟩, ⟨0, none⟩, ⟨0, none⟩, ⟨0, none⟩]) rfl siz26 rfl rfl rfl aR rfl rfl rfl rfl (Nat.le_of_ble_eq_true rfl) rfl rfl ?_
  refine zA (r := b false) rfl rfl rfl rfl rfl ?_
  refine zN ?_
  refine RunC.nil_cell (l' := [i64 0, i64 0, oref 5 1 0 0]) (Γ' := [⟨1, some [i64 0, i64 0, oref 5 1 0 0]⟩, ⟨1, some (r6.map f32)⟩, ⟨1, some (r7.map f32)⟩, ⟨1, some [i64 r1, i64 r2, oref 1 1 0 r6.length]⟩, ⟨1, some [i64 r3, i64 r4, oref 2 1 0 r7.length]⟩, ⟨1, some (([] : List F).map f32)⟩, ⟨0, none⟩, ⟨0, none⟩, ⟨0, none⟩]) 0 2 5 rfl rfl rfl rfl rfl ?_
  refine RunC.ret ?_
  have hq := Option.some.inj h
  obtain ⟨hq0, hq⟩ := Prod.mk.inj hq
  obtain ⟨hq1, hq⟩ := Prod.mk.inj hq
  obtain ⟨hq2, hq⟩ := Prod.mk.inj hq
  subst q0
  subst q1
  subst q2
  subst q3
  exact bodyQ.mk (r' := tup [agg [i64 0, i64 0, oref 5 1 0 (([] : List F).length)], b false]) [(5, 1)] (.inr rfl) rfl (show List.Nodup [5] from by decide) rfl rfl (Res.eq (Res.two rfl (RV.cell agg26 siz26 rfl rfl rfl rfl) (RV.tmp rfl)) (by rw [(show ([] : List F).length = 0 from rfl)] <;> rfl)) (SelL.arr0 (f := f32) (fun _ => rfl) rfl trivial)
noncomputable def w_sameFloat_k1 (a0 : F) (a1 : F) : Option (Bool) :=
 some (feq .f64 a0 a1)
noncomputable def w_sameFloat (a0 : F) (a1 : F) : Option (Bool) :=
 bsel (!feq .f64 a0 a0) (
  some (!feq .f64 a1 a1)) (
  bsel (!feq .f64 a1 a1) (
   some false) (
   bsel (feq .f64 a0 (some 0)) (
    bsel (feq .f64 a1 (some 0)) (
     olet (fop .quo .f64 (some 4607182418800017408) a0) fun (x1 : F) =>
     olet (fop .quo .f64 (some 4607182418800017408) a1) fun (x2 : F) =>
     some ((flt .f64 (some 0) x1) == (flt .f64 (some 0) x2))) (
     w_sameFloat_k1 a0 a1)) (
    w_sameFloat_k1 a0 a1)))
theorem w_sameFloat_ok (a0 : F) (a1 : F) (q0 : Bool) (h : w_sameFloat a0 a1 = some q0) : Ev Tryz.prog 14 [f64 a0, f64 a1] [] (b q0) [] := by
 refine Ev.start Tryz.func14 rfl rfl 0 (τ := [(0, f64 a0), (1, f64 a1)]) rfl (Γ' := []) rfl (n := 75) rfl (g := 0) rfl (fun _ => rfl) ?_
 unfold w_sameFloat at h
 refine zQ ?_
 refine zA (r := b false) rfl rfl rfl rfl rfl ?_
 refine zN ?_
 refine RunC.seq ?_
 refine RunC.seq ?_
 rcases bsel_some h with ⟨hc1, h⟩ | ⟨hc1, h⟩
 ·refine RunC.regionW ?_
  refine zM (r := f64 a0) rfl rfl rfl rfl rfl ?_
  refine zM (r := f64 a0) rfl rfl rfl rfl rfl ?_
  refine zL (r := b true) rfl rfl rfl (LOp.eqb (LOp.fne rfl (OpF.tmp rfl) (OpF.tmp rfl)) hc1) ?_
  refine zM (r := b true) rfl rfl rfl rfl rfl ?_
  refine ROps.s rfl rfl rfl ?_
  refine ROps.s rfl rfl rfl ?_
  refine ROps.s rfl rfl rfl ?_
  refine zL (r := b true) rfl rfl rfl (LOp.pick_true rfl rfl rfl) ?_
  refine zN ?_
  refine RunC.cond_true rfl rfl ?_
  refine zQ ?_
  refine zM (r := f64 a0) rfl rfl rfl rfl rfl ?_
  refine zM (r := f64 a0) rfl rfl rfl rfl rfl ?_
  refine zL (r := b true) rfl rfl rfl (LOp.eqb (LOp.fne rfl (OpF.tmp rfl) (OpF.tmp rfl)) hc1) ?_
  refine zM (r := b true) rfl rfl rfl rfl rfl ?_
  refine zM (r := f64 a1) rfl rfl rfl rfl rfl ?_
  refine zM (r := f64 a1) rfl rfl rfl rfl rfl ?_
  refine zL (r := b (!feq .f64 a1 a1)) rfl rfl rfl (LOp.fne rfl (OpF.tmp rfl) (OpF.tmp rfl)) ?_
  refine zL (r := b (!feq .f64 a1 a1)) rfl rfl rfl (LOp.pick_true rfl rfl rfl) ?_
  refine zA (r := b (!feq .f64 a1 a1)) rfl rfl rfl rfl rfl ?_
  refine zN ?_
  refine RunC.ret ?_
  have hq := Option.some.inj h
  subst q0
  exact bodyQ.pure (.inr rfl) rfl (Res.one rfl (RV.tmp rfl))
 ·rcases bsel_some h with ⟨hc2, h⟩ | ⟨hc2, h⟩
  ·refine RunC.regionW ?_
   refine zM (r := f64 a0) rfl rfl rfl rfl rfl ?_
   refine zM (r := f64 a0) rfl rfl rfl rfl rfl ?_
   refine zL (r := b false) rfl rfl rfl (LOp.eqb (LOp.fne rfl (OpF.tmp rfl) (OpF.tmp rfl)) hc1) ?_
   refine zM (r := b false) rfl rfl rfl rfl rfl ?_
   refine zM (r := f64 a1) rfl rfl rfl rfl rfl ?_
   refine zM (r := f64 a1) rfl rfl rfl rfl rfl ?_
   refine zL (r := b true) rfl rfl rfl (LOp.eqb (LOp.fne rfl (OpF.tmp rfl) (OpF.tmp rfl)) hc2) ?_
   refine zL (r := b true) rfl rfl rfl (LOp.pick_false rfl rfl rfl) ?_
   refine zN ?_
   refine RunC.cond_true rfl rfl ?_
   refine zQ ?_
   refine zM (r := f64 a0) rfl rfl rfl rfl rfl ?_
   refine zM (r := f64 a0) rfl rfl rfl rfl rfl ?_
   refine zL (r := b false) rfl rfl rfl (LOp.eqb (LOp.fne rfl (OpF.tmp rfl) (OpF.tmp rfl)) hc1) ?_
   refine zM (r := b false) rfl rfl rfl rfl rfl ?_
   refine ROps.s rfl rfl rfl ?_
   refine ROps.s rfl rfl rfl ?_
   refine ROps.s rfl rfl rfl ?_
   refine zL (r := b false) rfl rfl rfl (LOp.pick_false rfl rfl rfl) ?_
   refine zA (r := b false) rfl rfl rfl rfl rfl ?_
   refine zN ?_
   refine RunC.ret ?_
   have hq := Option.some.inj h
   subst q0
   exact bodyQ.pure (.inr rfl) rfl (Res.one rfl (RV.tmp rfl))
  ·refine RunC.regionW ?_
   refine zM (r := f64 a0) rfl rfl rfl rfl rfl ?_
   refine zM (r := f64 a0) rfl rfl rfl rfl rfl ?_
   refine zL (r := b false) rfl rfl rfl (LOp.eqb (LOp.fne rfl (OpF.tmp rfl) (OpF.tmp rfl)) hc1) ?_
   refine zM (r := b false) rfl rfl rfl rfl rfl ?_
   refine zM (r := f64 a1) rfl rfl rfl rfl rfl ?_
   refine zM (r := f64 a1) rfl rfl rfl rfl rfl ?_
   refine zL (r := b false) rfl rfl rfl (LOp.eqb (LOp.fne rfl (OpF.tmp rfl) (OpF.tmp rfl)) hc2) ?_
   refine zL (r := b false) rfl rfl rfl (LOp.pick_false rfl rfl rfl) ?_
   refine zN ?_
   refine RunC.cond_false rfl rfl ?_
   refine RunC.skip ?_
   refine RunC.seq ?_
   refine RunC.cutN (fun τ Γ =>  WeakLe τ [(0, f64 a0), (1, f64 a1)] ∧ DeadLe Γ [] ∧ w_sameFloat_k1 a0 a1 = some q0) ?_ ?_
   ·refine RunC.seq ?_
    rcases bsel_some h with ⟨hc3, h⟩ | ⟨hc3, h⟩
    ·rcases bsel_some h with ⟨hc4, h⟩ | ⟨hc4, h⟩
     ·refine RunC.regionW ?_
      refine zM (r := f64 a0) rfl rfl rfl rfl rfl ?_
      refine zL (r := b true) rfl rfl rfl (LOp.eqb (LOp.feq rfl (OpF.tmp rfl) (OpF.const rfl (by kernel_rfl) (by kernel_rfl))) hc3) ?_
      refine zM (r := b true) rfl rfl rfl rfl rfl ?_
      refine zM (r := f64 a1) rfl rfl rfl rfl rfl ?_
      refine zL (r := b true) rfl rfl rfl (LOp.eqb (LOp.feq rfl (OpF.tmp rfl) (OpF.const rfl (by kernel_rfl) (by kernel_rfl))) hc4) ?_
      refine zL (r := b true) rfl rfl rfl (LOp.pick_true rfl rfl rfl) ?_
      refine zN ?_
      refine RunC.wl (τ' := [(0, f64 a0), (1, f64 a1), (26, b true)]) (Γ' := []) ⟨aR, aR, aR, trivial⟩ trivial ?_
      refine RunC.cond_true rfl rfl ?_
      refine RunC.seq ?_
      obtain ⟨x1, hx5, h⟩ := olet_some h
      obtain ⟨x2, hx6, h⟩ := olet_some h
      refine RunC.regionW ?_
      refine zM (r := f64 a0) rfl rfl rfl rfl rfl ?_
      refine ROps.d (r := f64 x1) (fs := []) (Γ' := []) rfl rfl rfl (TOp.eqr (TOp.fop (.inr (.inr (.inr rfl))) rfl (OpF.const rfl (by kernel_rfl) (by kernel_rfl)) (OpF.tmp rfl)) (congrArg (f .f64) hx5)) rfl ?_
      refine zL (r := b (flt .f64 (some 0) x1)) rfl rfl rfl (LOp.fgt rfl (OpF.tmp rfl) (OpF.const rfl (by kernel_rfl) (by kernel_rfl))) ?_
      refine zM (r := f64 a1) rfl rfl rfl rfl rfl ?_
      refine ROps.d (r := f64 x2) (fs := []) (Γ' := []) rfl rfl rfl (TOp.eqr (TOp.fop (.inr (.inr (.inr rfl))) rfl (OpF.const rfl (by kernel_rfl) (by kernel_rfl)) (OpF.tmp rfl)) (congrArg (f .f64) hx6)) rfl ?_
      refine zL (r := b (flt .f64 (some 0) x2)) rfl rfl rfl (LOp.fgt rfl (OpF.tmp rfl) (OpF.const rfl (by kernel_rfl) (by kernel_rfl))) ?_
      refine zL (r := b ((flt .f64 (some 0) x1) == (flt .f64 (some 0) x2))) rfl rfl rfl (LOp.eqlb pun4 rfl rfl rfl) ?_
      refine zA (r := b ((flt .f64 (some 0) x1) == (flt .f64 (some 0) x2))) rfl rfl rfl rfl rfl ?_
      refine zN ?_
      refine RunC.ret ?_
      have hq := Option.some.inj h
      subst q0
      exact bodyQ.pure (.inr rfl) rfl (Res.one rfl (RV.tmp rfl))
     ·refine RunC.regionW ?_
      refine zM (r := f64 a0) rfl rfl rfl rfl rfl ?_
      refine zL (r := b true) rfl rfl rfl (LOp.eqb (LOp.feq rfl (OpF.tmp rfl) (OpF.const rfl (by kernel_rfl) (by kernel_rfl))) hc3) ?_
      refine zM (r := b true) rfl rfl rfl rfl rfl ?_
      refine zM (r := f64 a1) rfl rfl rfl rfl rfl ?_
      refine zL (r := b false) rfl rfl rfl (LOp.eqb (LOp.feq rfl (OpF.tmp rfl) (OpF.const rfl (by kernel_rfl) (by kernel_rfl))) hc4) ?_
      refine zL (r := b false) rfl rfl rfl (LOp.pick_true rfl rfl rfl) ?_
      refine zN ?_
      refine RunC.wl (τ' := [(0, f64 a0), (1, f64 a1), (26, b false)]) (Γ' := []) ⟨aR, aR, aR, trivial⟩ trivial ?_
      refine RunC.cond_false rfl rfl ?_
      refine RunC.skip ?_
      exact ⟨⟨aR, aR, trivial⟩, trivial, h⟩
    ·refine RunC.regionW ?_
     refine zM (r := f64 a0) rfl rfl rfl rfl rfl ?_
     refine zL (r := b false) rfl rfl rfl (LOp.eqb (LOp.feq rfl (OpF.tmp rfl) (OpF.const rfl (by kernel_rfl) (by kernel_rfl))) hc3) ?_
     refine zM (r := b false) rfl rfl rfl rfl rfl ?_
     refine ROps.s rfl rfl rfl ?_
     refine ROps.s rfl rfl rfl ?_
     refine zL (r := b false) rfl rfl rfl (LOp.pick_false rfl rfl rfl) ?_
     refine zN ?_
     refine RunC.wl (τ' := [(0, f64 a0), (1, f64 a1), (26, b false)]) (Γ' := []) ⟨aR, aR, aR, trivial⟩ trivial ?_
     refine RunC.cond_false rfl rfl ?_
     refine RunC.skip ?_
     exact ⟨⟨aR, aR, trivial⟩, trivial, h⟩
   ·rintro τ2 Γ2 ⟨hw2, hd2, h⟩
    refine RunC.wl hw2 hd2 ?_
    unfold w_sameFloat_k1 at h
    refine zQ ?_
    refine zM (r := f64 a0) rfl rfl rfl rfl rfl ?_
    refine zM (r := f64 a1) rfl rfl rfl rfl rfl ?_
    refine zL (r := b (feq .f64 a0 a1)) rfl rfl rfl (LOp.feq rfl (OpF.tmp rfl) (OpF.tmp rfl)) ?_
    refine zA (r := b (feq .f64 a0 a1)) rfl rfl rfl rfl rfl ?_
    refine zN ?_
    refine RunC.ret ?_
    have hq := Option.some.inj h
    subst q0
    exact bodyQ.pure (.inr rfl) rfl (Res.one rfl (RV.tmp rfl))
noncomputable def w_eqFloat32S_b1 (a0 : List F) (a1 : List F) (v1 : Int) : Option (LR (Int) (Unit) (Bool)) :=
 bsel (decide (v1 < (a0.length : Int))) (
  obind (at? a0 v1) fun (e2 : F) =>
  olet (fwiden e2) fun (x3 : F) =>
  obind (at? a1 v1) fun (e4 : F) =>
  olet (fwiden e4) fun (x5 : F) =>
  obind (w_sameFloat x3 x5) fun (r6 : Bool) =>
  bsel r6 (
   olet (IntKind.i64.wrap (v1 + 1)) fun (x7 : Int) =>
   some (LR.next x7)) (
   some (LR.ret false))) (
  some (LR.out ()))
noncomputable def w_eqFloat32S_s1 (a0 : List F) (a1 : List F) : (Int) → Option (LR (Int) (Unit) (Bool)) := fun s => w_eqFloat32S_b1 a0 a1 s
noncomputable def w_eqFloat32S_k1  : Option (Bool) :=
 some true
noncomputable def w_eqFloat32S (a0 : List F) (a1 : List F) : Option (Bool) :=
 bsel (!decide ((a0.length : Int) = (a1.length : Int))) (
  some false) (
  obind (loopM (w_eqFloat32S_s1 a0 a1) 0) fun z => osum z (fun _ => w_eqFloat32S_k1) (fun r => some r))
theorem w_eqFloat32S_ok (a0 : List F) (a1 : List F) (q0 : Bool) (h : w_eqFloat32S a0 a1 = some q0) : Ev Tryz.prog 37 [sl a0.length (a0.map f32), sl a1.length (a1.map f32)] [] (b q0) [] := by
 refine Ev.start Tryz.func37 rfl rfl 0 (τ := [(0, sl a0.length (a0.map f32)), (1, sl a1.length (a1.map f32))]) rfl (Γ' := []) rfl (n := 59) rfl (g := 0) rfl (fun _ => rfl) ?_
 unfold w_eqFloat32S at h
 refine zQ ?_
 refine zA (r := b false) rfl rfl rfl rfl rfl ?_
 refine zN ?_
 refine RunC.seq ?_
 refine RunC.seq ?_
 rcases bsel_some h with ⟨hc1, h⟩ | ⟨hc1, h⟩
 ·refine RunC.regionW ?_
  refine zM (r := sl a0.length (a0.map f32)) rfl rfl rfl rfl rfl ?_
  refine zL (r := i64 (a0.length : Int)) rfl rfl rfl (LOp.len_sl und22 rfl rfl) ?_
  refine zM (r := sl a1.length (a1.map f32)) rfl rfl rfl rfl rfl ?_
  refine zL (r := i64 (a1.length : Int)) rfl rfl rfl (LOp.len_sl und22 rfl rfl) ?_
  refine zL (r := b true) rfl rfl rfl (LOp.eqb (LOp.neq rfl rfl rfl) hc1) ?_
  refine zN ?_
  refine RunC.cond_true rfl rfl ?_
  refine zQ ?_
  refine zA (r := b false) rfl rfl rfl rfl rfl ?_
  refine zN ?_
  refine RunC.ret ?_
  have hq := Option.some.inj h
  subst q0
  exact bodyQ.pure (.inr rfl) rfl (Res.one rfl (RV.tmp rfl))
 ·refine RunC.regionW ?_
  refine zM (r := sl a0.length (a0.map f32)) rfl rfl rfl rfl rfl ?_
  refine zL (r := i64 (a0.length : Int)) rfl rfl rfl (LOp.len_sl und22 rfl rfl) ?_
  refine zM (r := sl a1.length (a1.map f32)) rfl rfl rfl rfl rfl ?_
  refine zL (r := i64 (a1.length : Int)) rfl rfl rfl (LOp.len_sl und22 rfl rfl) ?_
  refine zL (r := b false) rfl rfl rfl (LOp.eqb (LOp.neq rfl rfl rfl) hc1) ?_
  refine zN ?_
  refine RunC.cond_false rfl rfl ?_
  refine RunC.skip ?_
  refine RunC.seq ?_
  refine zQ ?_
  refine zA (r := i64 0) rfl rfl rfl rfl rfl ?_
  refine zN ?_
  obtain ⟨z2, hz_2, h⟩ := obind_some h
  refine RunC.cutN (fun τ Γ => WeakLe τ [] ∧ DeadLe Γ [] ∧ z2 = .inl ()) ?_ ?_
  ·refine RunC.block (RunC.loop (RunL.loopM (x := z2) (w_eqFloat32S_s1 a0 a1) (fun (s : Int) τ Γ => WeakLe τ [(0, sl a0.length (a0.map f32)), (1, sl a1.length (a1.map f32)), (5, i64 s)] ∧ DeadLe Γ []) ?_ _ _ _ hz_2 ⟨⟨aR, aR, aR, trivial⟩, trivial⟩))
   rintro v1 τ2 Γ2 y2_ ⟨hw2, hd2⟩ h2_ ho2 hr2
   refine RunC.wl (τ' := [(0, sl a0.length (a0.map f32)), (1, sl a1.length (a1.map f32)), (5, i64 v1)]) (Γ' := []) hw2 hd2 ?_
   replace h2_ : w_eqFloat32S_b1 a0 a1 v1 = some y2_ := h2_
   unfold w_eqFloat32S_b1 at h2_
   refine RunC.seq ?_
   refine RunC.seq ?_
   rcases bsel_some h2_ with ⟨hc2, h2_⟩ | ⟨hc2, h2_⟩
   ·refine RunC.regionW ?_
    refine zM (r := i64 v1) rfl rfl rfl rfl rfl ?_
    refine zM (r := sl a0.length (a0.map f32)) rfl rfl rfl rfl rfl ?_
    refine zL (r := i64 (a0.length : Int)) rfl rfl rfl (LOp.len_sl und22 rfl rfl) ?_
    refine zL (r := b true) rfl rfl rfl (LOp.eqb (LOp.lss rfl rfl rfl) hc2) ?_
    refine zN ?_
    refine RunC.cond_true rfl rfl ?_
    refine RunC.skip ?_
    refine RunC.seq ?_
    refine RunC.block ?_
    refine RunC.seq ?_
    obtain ⟨e2, he3, h2_⟩ := obind_some h2_
    obtain ⟨x3, hx4, h2_⟩ := olet_some h2_
    obtain ⟨e4, he5, h2_⟩ := obind_some h2_
    obtain ⟨x5, hx6, h2_⟩ := olet_some h2_
    obtain ⟨r6, hf7, h2_⟩ := obind_some h2_
    rcases bsel_some h2_ with ⟨hc8, h2_⟩ | ⟨hc8, h2_⟩
    ·refine RunC.region_draw (Γ' := []) 12 mixed 
      (TR.l (r := sl a0.length (a0.map f32)) rfl rfl (LOp.move rfl rfl) <|
      (TR.l (r := i64 v1) rfl rfl (LOp.move rfl rfl) <|
      (TR.l (r := ptr [f32 e2]) rfl rfl (LOp.le (LOp.ix (f := f32) und22 siz33 rfl rfl rfl rfl he3) ALe.ptr) <|
      (TR.l (r := f32 e2) rfl rfl (LOp.load1 agg33 rfl rfl) <|
      (TR.d (r := f64 x3) (fs := []) rfl rfl (TOp.eqr (TOp.widen (src := 33) (dst := 37) ⟨_, pun33⟩ pun37 rfl (OpF.tmp rfl)) (congrArg (f .f64) hx4)) <|
      (TR.l (r := sl a1.length (a1.map f32)) rfl rfl (LOp.move rfl rfl) <|
      (TR.l (r := i64 v1) rfl rfl (LOp.move rfl rfl) <|
      (TR.l (r := ptr [f32 e4]) rfl rfl (LOp.le (LOp.ix (f := f32) und22 siz33 rfl rfl rfl rfl he5) ALe.ptr) <|
      (TR.l (r := f32 e4) rfl rfl (LOp.load1 agg33 rfl rfl) <|
      (TR.d (r := f64 x5) (fs := []) rfl rfl (TOp.eqr (TOp.widen (src := 33) (dst := 37) ⟨_, pun33⟩ pun37 rfl (OpF.tmp rfl)) (congrArg (f .f64) hx6)) <|
      (TR.d (r := b true) (fs := []) rfl rfl (TOp.eqb (TOp.callB (CallAs.func ent14 rfl rfl) (Bors.cons (Bor.pure rfl) (Bors.cons (Bor.pure rfl) Bors.nil)) rfl rfl (w_sameFloat_ok x3 x5 r6 hf7)) hc8) <|
      (TR.l (r := b false) rfl rfl (LOp.eqb (LOp.not rfl rfl) rfl) <|
      TR.nil)))))))))))) rfl (by kernel_rfl) rfl fills_nil rfl ?_
     iterate 12 refine ROps.dropS ?_
     refine ROps.drop0 ?_
     refine zN ?_
     refine RunC.wl (τ' := [(0, sl a0.length (a0.map f32)), (1, sl a1.length (a1.map f32)), (5, i64 v1), (28, b false)]) (Γ' := []) ⟨aR, aR, aR, aR, trivial⟩ trivial ?_
     refine RunC.cond_false rfl rfl ?_
     refine RunC.skip ?_
     obtain ⟨x7, hx9, h2_⟩ := olet_some h2_
     refine RunC.regionW ?_
     refine zM (r := i64 v1) rfl rfl rfl rfl rfl ?_
     refine zL (r := i64 x7) rfl rfl rfl (LOp.eqr (LOp.add rfl rfl rfl) (congrArg (ik .i64) hx9)) ?_
     refine zA (r := i64 x7) rfl rfl rfl rfl rfl ?_
     refine zN ?_
     cases Option.some.inj h2_
     exact ⟨_, rfl, ⟨aR, aR, aR, trivial⟩, trivial⟩
    ·refine RunC.region_draw (Γ' := []) 12 mixed 
      (TR.l (r := sl a0.length (a0.map f32)) rfl rfl (LOp.move rfl rfl) <|
      (TR.l (r := i64 v1) rfl rfl (LOp.move rfl rfl) <|
      (TR.l (r := ptr [f32 e2]) rfl rfl (LOp.le (LOp.ix (f := f32) und22 siz33 rfl rfl rfl rfl he3) ALe.ptr) <|
      (TR.l (r := f32 e2) rfl rfl (LOp.load1 agg33 rfl rfl) <|
      (TR.d (r := f64 x3) (fs := []) rfl rfl (TOp.eqr (TOp.widen (src := 33) (dst := 37) ⟨_, pun33⟩ pun37 rfl (OpF.tmp rfl)) (congrArg (f .f64) hx4)) <|
      (TR.l (r := sl a1.length (a1.map f32)) rfl rfl (LOp.move rfl rfl) <|
      (TR.l (r := i64 v1) rfl rfl (LOp.move rfl rfl) <|
      (TR.l (r := ptr [f32 e4]) rfl rfl (LOp.le (LOp.ix (f := f32) und22 siz33 rfl rfl rfl rfl he5) ALe.ptr) <|
      (TR.l (r := f32 e4) rfl rfl (LOp.load1 agg33 rfl rfl) <|
      (TR.d (r := f64 x5) (fs := []) rfl rfl (TOp.eqr (TOp.widen (src := 33) (dst := 37) ⟨_, pun33⟩ pun37 rfl (OpF.tmp rfl)) (congrArg (f .f64) hx6)) <|
      (TR.d (r := b false) (fs := []) rfl rfl (TOp.eqb (TOp.callB (CallAs.func ent14 rfl rfl) (Bors.cons (Bor.pure rfl) (Bors.cons (Bor.pure rfl) Bors.nil)) rfl rfl (w_sameFloat_ok x3 x5 r6 hf7)) hc8) <|
      (TR.l (r := b true) rfl rfl (LOp.eqb (LOp.not rfl rfl) rfl) <|
      TR.nil)))))))))))) rfl (by kernel_rfl) rfl fills_nil rfl ?_
     iterate 12 refine ROps.dropS ?_
     refine ROps.drop0 ?_
     refine zN ?_
     refine RunC.wl (τ' := [(0, sl a0.length (a0.map f32)), (1, sl a1.length (a1.map f32)), (5, i64 v1), (28, b true)]) (Γ' := []) ⟨aR, aR, aR, aR, trivial⟩ trivial ?_
     refine RunC.cond_true rfl rfl ?_
     refine zQ ?_
     refine zA (r := b false) rfl rfl rfl rfl rfl ?_
     refine zN ?_
     refine RunC.ret ?_
     cases Option.some.inj h2_
     have hx3_ := hr2 _ rfl
     subst hx3_
     have hq := Option.some.inj h
     subst q0
     exact bodyQ.pure (.inr rfl) rfl (Res.one rfl (RV.tmp rfl))
   ·refine RunC.regionW ?_
    refine zM (r := i64 v1) rfl rfl rfl rfl rfl ?_
    refine zM (r := sl a0.length (a0.map f32)) rfl rfl rfl rfl rfl ?_
    refine zL (r := i64 (a0.length : Int)) rfl rfl rfl (LOp.len_sl und22 rfl rfl) ?_
    refine zL (r := b false) rfl rfl rfl (LOp.eqb (LOp.lss rfl rfl rfl) hc2) ?_
    refine zN ?_
    refine RunC.cond_false rfl rfl ?_
    refine RunC.exit ?_
    cases Option.some.inj h2_
    have hx := ho2 _ rfl
    exact ⟨trivial, trivial, hx⟩
  ·rintro τ4 Γ4 ⟨hw4, hd4, rfl⟩
   refine RunC.wl hw4 hd4 ?_
   replace h : w_eqFloat32S_k1 = some q0 := h
   unfold w_eqFloat32S_k1 at h
   refine zQ ?_
   refine zA (r := b true) rfl rfl rfl rfl rfl ?_
   refine zN ?_
   refine RunC.ret ?_
   have hq := Option.some.inj h
   subst q0
   exact bodyQ.pure (.inr rfl) rfl (Res.one rfl (RV.tmp rfl))
noncomputable def w_eqMatrix (a0 : Int) (a1 : Int) (a2 : List F) (a3 : Int) (a4 : Int) (a5 : List F) : Option (Bool) :=
 bsel (!decide (a0 = a3)) (
  some false) (
  bsel (!decide (a1 = a4)) (
   some false) (
   obind (w_eqFloat32S a2 a5) fun (r1 : Bool) =>
   bsel r1 (
    some true) (
    some false)))
theorem w_eqMatrix_ok (a0 : Int) (a1 : Int) (a2 : List F) (a3 : Int) (a4 : Int) (a5 : List F) (q0 : Bool) (h : w_eqMatrix a0 a1 a2 a3 a4 a5 = some q0) : Ev Tryz.prog 9 [agg [i64 a0, i64 a1, sl a2.length (a2.map f32)], agg [i64 a3, i64 a4, sl a5.length (a5.map f32)]] [] (b q0) [] := by
 refine Ev.start Tryz.func9 rfl rfl 0 (τ := [(0, agg [i64 a0, i64 a1, sl a2.length (a2.map f32)]), (1, agg [i64 a3, i64 a4, sl a5.length (a5.map f32)])]) rfl (Γ' := []) rfl (n := 43) rfl (g := 0) rfl (fun _ => rfl) ?_
 unfold w_eqMatrix at h
 refine zQ ?_
 refine ROps.d (r := ptr [i64 a0, i64 a1, sl a2.length (a2.map f32)]) (fs := []) (Γ' := []) rfl rfl rfl (TOp.box_s rfl rfl rfl) rfl ?_
 refine ROps.d (r := ptr [i64 a3, i64 a4, sl a5.length (a5.map f32)]) (fs := []) (Γ' := []) rfl rfl rfl (TOp.box_s rfl rfl rfl) rfl ?_
 refine zA (r := b false) rfl rfl rfl rfl rfl ?_
 refine zN ?_
 refine RunC.seq ?_
 refine RunC.seq ?_
 rcases bsel_some h with ⟨hc1, h⟩ | ⟨hc1, h⟩
 ·refine RunC.regionW ?_
  refine zL (r := ptr [i64 a0, i64 a1, sl a2.length (a2.map f32)]) rfl rfl rfl (LOp.fap und26 rfl siz2 rfl rfl rfl) ?_
  refine zL (r := i64 a0) rfl rfl rfl (LOp.load1 agg2 rfl rfl) ?_
  refine zL (r := ptr [i64 a3, i64 a4, sl a5.length (a5.map f32)]) rfl rfl rfl (LOp.fap und26 rfl siz2 rfl rfl rfl) ?_
  refine zL (r := i64 a3) rfl rfl rfl (LOp.load1 agg2 rfl rfl) ?_
  refine zL (r := b true) rfl rfl rfl (LOp.eqb (LOp.neq rfl rfl rfl) hc1) ?_
  refine zN ?_
  refine RunC.cond_true rfl rfl ?_
  refine zQ ?_
  refine zA (r := b false) rfl rfl rfl rfl rfl ?_
  refine zN ?_
  refine RunC.ret ?_
  have hq := Option.some.inj h
  subst q0
  exact bodyQ.pure (.inr rfl) rfl (Res.one rfl (RV.tmp rfl))
 ·refine RunC.regionW ?_
  refine zL (r := ptr [i64 a0, i64 a1, sl a2.length (a2.map f32)]) rfl rfl rfl (LOp.fap und26 rfl siz2 rfl rfl rfl) ?_
  refine zL (r := i64 a0) rfl rfl rfl (LOp.load1 agg2 rfl rfl) ?_
  refine zL (r := ptr [i64 a3, i64 a4, sl a5.length (a5.map f32)]) rfl rfl rfl (LOp.fap und26 rfl siz2 rfl rfl rfl) ?_
  refine zL (r := i64 a3) rfl rfl rfl (LOp.load1 agg2 rfl rfl) ?_
  refine zL (r := b false) rfl rfl rfl (LOp.eqb (LOp.neq rfl rfl rfl) hc1) ?_
  refine zN ?_
  refine RunC.cond_false rfl rfl ?_
  refine RunC.skip ?_
  refine RunC.seq ?_
  refine RunC.seq ?_
  rcases bsel_some h with ⟨hc2, h⟩ | ⟨hc2, h⟩
  ·refine RunC.regionW ?_
   refine zL (r := ptr [i64 a1, sl a2.length (a2.map f32)]) rfl rfl rfl (LOp.fap und26 rfl siz2 rfl rfl rfl) ?_
   refine zL (r := i64 a1) rfl rfl rfl (LOp.load1 agg2 rfl rfl) ?_
   refine zL (r := ptr [i64 a4, sl a5.length (a5.map f32)]) rfl rfl rfl (LOp.fap und26 rfl siz2 rfl rfl rfl) ?_
   refine zL (r := i64 a4) rfl rfl rfl (LOp.load1 agg2 rfl rfl) ?_
   refine zL (r := b true) rfl rfl rfl (LOp.eqb (LOp.neq rfl rfl rfl) hc2) ?_
   refine zN ?_
   refine RunC.cond_true rfl rfl ?_
   refine zQ ?_
   refine zA (r := b false) rfl rfl rfl rfl rfl ?_
   refine zN ?_
   refine RunC.ret ?_
   have hq := Option.some.inj h
   subst q0
   exact bodyQ.pure (.inr rfl) rfl (Res.one rfl (RV.tmp rfl))
  ·refine RunC.regionW ?_
   refine zL (r := ptr [i64 a1, sl a2.length (a2.map f32)]) rfl rfl rfl (LOp.fap und26 rfl siz2 rfl rfl rfl) ?_
   refine zL (r := i64 a1) rfl rfl rfl (LOp.load1 agg2 rfl rfl) ?_
   refine zL (r := ptr [i64 a4, sl a5.length (a5.map f32)]) rfl rfl rfl (LOp.fap und26 rfl siz2 rfl rfl rfl) ?_
   refine zL (r := i64 a4) rfl rfl rfl (LOp.load1 agg2 rfl rfl) ?_
   refine zL (r := b false) rfl rfl rfl (LOp.eqb (LOp.neq rfl rfl rfl) hc2) ?_
   refine zN ?_
   refine RunC.cond_false rfl rfl ?_
   refine RunC.skip ?_
   refine RunC.wl (τ' := [(2, ptr [i64 a0, i64 a1, sl a2.length (a2.map f32)]), (3, ptr [i64 a3, i64 a4, sl a5.length (a5.map f32)])]) (Γ' := []) ⟨aR, aR, trivial⟩ trivial ?_
   refine RunC.seq ?_
   refine RunC.seq ?_
   obtain ⟨r1, hf3, h⟩ := obind_some h
   rcases bsel_some h with ⟨hc4, h⟩ | ⟨hc4, h⟩
   ·refine RunC.regionW ?_
    refine zL (r := ptr [sl a2.length (a2.map f32)]) rfl rfl rfl (LOp.fap und26 rfl siz22 rfl rfl rfl) ?_
    refine zL (r := sl a2.length (a2.map f32)) rfl rfl rfl (LOp.load1 agg22 rfl rfl) ?_
    refine zL (r := ptr [sl a5.length (a5.map f32)]) rfl rfl rfl (LOp.fap und26 rfl siz22 rfl rfl rfl) ?_
    refine zL (r := sl a5.length (a5.map f32)) rfl rfl rfl (LOp.load1 agg22 rfl rfl) ?_
    refine ROps.d (r := b true) (fs := []) (Γ' := []) rfl rfl rfl (TOp.eqb (TOp.callB (CallAs.func ent37 rfl rfl) (Bors.cons (Bor.sl (fun _ => rfl)) (Bors.cons (Bor.sl (fun _ => rfl)) Bors.nil)) rfl rfl (w_eqFloat32S_ok a2 a5 r1 hf3)) hc4) rfl ?_
    refine zL (r := b false) rfl rfl rfl (LOp.eqb (LOp.not rfl rfl) rfl) ?_
    refine zN ?_
    refine RunC.cond_false rfl rfl ?_
    refine RunC.skip ?_
    refine zQ ?_
    refine zA (r := b true) rfl rfl rfl rfl rfl ?_
    refine zN ?_
    refine RunC.ret ?_
    have hq := Option.some.inj h
    subst q0
    exact bodyQ.pure (.inr rfl) rfl (Res.one rfl (RV.tmp rfl))
   ·refine RunC.regionW ?_
    refine zL (r := ptr [sl a2.length (a2.map f32)]) rfl rfl rfl (LOp.fap und26 rfl siz22 rfl rfl rfl) ?_
    refine zL (r := sl a2.length (a2.map f32)) rfl rfl rfl (LOp.load1 agg22 rfl rfl) ?_
    refine zL (r := ptr [sl a5.length (a5.map f32)]) rfl rfl rfl (LOp.fap und26 rfl siz22 rfl rfl rfl) ?_
    refine zL (r := sl a5.length (a5.map f32)) rfl rfl rfl (LOp.load1 agg22 rfl rfl) ?_
    refine ROps.d (r := b false) (fs := []) (Γ' := []) rfl rfl rfl (TOp.eqb (TOp.callB (CallAs.func ent37 rfl rfl) (Bors.cons (Bor.sl (fun _ => rfl)) (Bors.cons (Bor.sl (fun _ => rfl)) Bors.nil)) rfl rfl (w_eqFloat32S_ok a2 a5 r1 hf3)) hc4) rfl ?_
    refine zL (r := b true) rfl rfl rfl (LOp.eqb (LOp.not rfl rfl) rfl) ?_
    refine zN ?_
    refine RunC.cond_true rfl rfl ?_
    refine zQ ?_
    refine zA (r := b false) rfl rfl rfl rfl rfl ?_
    refine zN ?_
    refine RunC.ret ?_
    have hq := Option.some.inj h
    subst q0
    exact bodyQ.pure (.inr rfl) rfl (Res.one rfl (RV.tmp rfl))
noncomputable def w_markFloat32S_0o_b1 (a1 : List F) (L1 : List F) (v3 : Int) (v4 : Int) : Option (LR ((List F) × Int × Int) ((List F) × Int) (Int × (List F))) :=
 bsel (decide (v4 < ((a1.length : Nat) : Int))) (
  olet (fint .f32 v3) fun (x5 : F) =>
  obind (setAt? L1 v4 x5) fun (L6 : List F) =>
  olet (IntKind.i64.wrap (v3 + 1)) fun (x7 : Int) =>
  olet (IntKind.i64.wrap (v4 + 1)) fun (x8 : Int) =>
  some (LR.next (L6, x7, x8))) (
  some (LR.out (L1, v3)))
noncomputable def w_markFloat32S_0o_s1 (a1 : List F) : ((List F) × Int × Int) → Option (LR ((List F) × Int × Int) ((List F) × Int) (Int × (List F))) := fun s => w_markFloat32S_0o_b1 a1 s.1 s.2.1 s.2.2
noncomputable def w_markFloat32S_0o_k1 (L9 : List F) (v11 : Int) : Option (Int × (List F)) :=
 some (v11, L9)
noncomputable def w_markFloat32S_0o (a0 : Int) (a1 : List F) : Option (Int × (List F)) :=
 obind (loopM (w_markFloat32S_0o_s1 a1) (a1, a0, 0)) fun z => osum z (fun e => w_markFloat32S_0o_k1 e.1 e.2) (fun r => some r)
theorem w_markFloat32S_0o_ok (a0 : Int) (a1 : List F) (q0 : Int) (q1 : List F) (h : w_markFloat32S_0o a0 a1 = some (q0, q1)) : Ev Tryz.prog 38 [oref 0 0 0 a1.length, i64 a0] [⟨0, some (a1.map f32)⟩] (i64 q0) [⟨0, some (q1.map f32)⟩] := by
 refine Ev.start Tryz.func38 rfl rfl 0 (τ := [(0, oref 0 0 0 a1.length), (1, i64 a0)]) rfl (Γ' := [⟨0, some (a1.map f32)⟩]) rfl (n := 40) rfl (g := 1) rfl (by decide) ?_
 unfold w_markFloat32S_0o at h
 refine zQ ?_
 refine zA (r := i64 0) rfl rfl rfl rfl rfl ?_
 refine zN ?_
 refine RunC.seq ?_
 refine zQ ?_
 refine zA (r := i64 0) rfl rfl rfl rfl rfl ?_
 refine zN ?_
 obtain ⟨z2, hz_2, h⟩ := obind_some h
 refine RunC.cutN (fun τ Γ => ∃ (L9 : List F) (v11 : Int), L9.length = a1.length ∧ WeakLe τ [(1, i64 v11)] ∧ DeadLe Γ [⟨0, some (L9.map f32)⟩] ∧ z2 = .inl (L9, v11)) ?_ ?_
 ·refine RunC.block (RunC.loop (RunL.loopM (x := z2) (w_markFloat32S_0o_s1 a1) (fun (s : (List F) × Int × Int) τ Γ => s.1.length = a1.length ∧ WeakLe τ [(0, oref 0 0 0 a1.length), (1, i64 s.2.1), (5, i64 s.2.2)] ∧ DeadLe Γ [⟨0, some (s.1.map f32)⟩]) ?_ _ _ _ hz_2 ⟨rfl, ⟨aR, aR, aR, trivial⟩, ⟨⟨rfl, .inr rfl⟩, trivial⟩⟩))
  rintro ⟨L1, v3, v4⟩ τ2 Γ2 y2_ ⟨hl2, hw2, hd2⟩ h2_ ho2 hr2
  refine RunC.wl (τ' := [(0, oref 0 0 0 a1.length), (1, i64 v3), (5, i64 v4)]) (Γ' := [⟨0, some (L1.map f32)⟩]) hw2 hd2 ?_
  replace hl2 : L1.length = a1.length := hl2
  replace h2_ : w_markFloat32S_0o_b1 a1 L1 v3 v4 = some y2_ := h2_
  unfold w_markFloat32S_0o_b1 at h2_
  refine RunC.seq ?_
  refine RunC.seq ?_
  rcases bsel_some h2_ with ⟨hc1, h2_⟩ | ⟨hc1, h2_⟩
  ·refine RunC.regionW ?_
   refine zM (r := i64 v4) rfl rfl rfl rfl rfl ?_
   refine zM (r := oref 0 0 0 a1.length) rfl rfl rfl rfl rfl ?_
   refine zL (r := i64 ((a1.length : Nat) : Int)) rfl rfl rfl (LOp.len_oref und22 rfl rfl) ?_
   refine zL (r := b true) rfl rfl rfl (LOp.eqb (LOp.lss rfl rfl rfl) hc1) ?_
   refine zN ?_
   refine RunC.cond_true rfl rfl ?_
   refine RunC.skip ?_
   refine RunC.seq ?_
   refine RunC.block ?_
   refine RunC.seq ?_
   obtain ⟨x5, hx2, h2_⟩ := olet_some h2_
   obtain ⟨L6, he3, h2_⟩ := obind_some h2_
   refine RunC.regionW ?_
   refine zM (r := oref 0 0 0 a1.length) rfl rfl rfl rfl rfl ?_
   refine zM (r := i64 v4) rfl rfl rfl rfl rfl ?_
   refine zM (r := i64 v3) rfl rfl rfl rfl rfl ?_
   refine zL (r := f32 x5) rfl rfl rfl (LOp.eqr (LOp.i2f (src := 3) (dst := 33) ⟨_, pun3⟩ pun33 rfl rfl) (congrArg (f .f32) hx2)) ?_
   refine ROps.d (r := optr 0 0 v4.toNat) (fs := []) (Γ' := [⟨0, some (L1.map f32)⟩]) rfl rfl rfl (TOp.ixo und22 siz33 rfl rfl rfl (set_in he3 hl2) rfl) rfl ?_
   refine ROps.st (f := f32) (i := v4) (Γ' := [⟨0, some (L6.map f32)⟩]) rfl siz33 rfl rfl rfl aR rfl rfl rfl he3 rfl ?_
   refine zN ?_
   obtain ⟨x7, hx4, h2_⟩ := olet_some h2_
   refine RunC.regionW ?_
   refine zM (r := i64 v3) rfl rfl rfl rfl rfl ?_
   refine zL (r := i64 x7) rfl rfl rfl (LOp.eqr (LOp.add rfl rfl rfl) (congrArg (ik .i64) hx4)) ?_
   refine zA (r := i64 x7) rfl rfl rfl rfl rfl ?_
   refine zN ?_
   obtain ⟨x8, hx5, h2_⟩ := olet_some h2_
   refine RunC.regionW ?_
   refine zM (r := i64 v4) rfl rfl rfl rfl rfl ?_
   refine zL (r := i64 x8) rfl rfl rfl (LOp.eqr (LOp.add rfl rfl rfl) (congrArg (ik .i64) hx5)) ?_
   refine zA (r := i64 x8) rfl rfl rfl rfl rfl ?_
   refine zN ?_
   cases Option.some.inj h2_
   exact ⟨_, rfl, ((setAt?_len he3).trans hl2), ⟨aR, aR, aR, trivial⟩, ⟨⟨rfl, .inr rfl⟩, trivial⟩⟩
  ·refine RunC.regionW ?_
   refine zM (r := i64 v4) rfl rfl rfl rfl rfl ?_
   refine zM (r := oref 0 0 0 a1.length) rfl rfl rfl rfl rfl ?_
   refine zL (r := i64 ((a1.length : Nat) : Int)) rfl rfl rfl (LOp.len_oref und22 rfl rfl) ?_
   refine zL (r := b false) rfl rfl rfl (LOp.eqb (LOp.lss rfl rfl rfl) hc1) ?_
   refine zN ?_
   refine RunC.cond_false rfl rfl ?_
   refine RunC.exit ?_
   cases Option.some.inj h2_
   have hx := ho2 _ rfl
   exact ⟨L1, v3, hl2, ⟨aR, trivial⟩, ⟨⟨rfl, .inr rfl⟩, trivial⟩, hx⟩
 ·rintro τ3 Γ3 ⟨L9, v11, hl10, hw3, hd3, rfl⟩
  refine RunC.wl hw3 hd3 ?_
  replace h : w_markFloat32S_0o_k1 L9 v11 = some (q0, q1) := h
  unfold w_markFloat32S_0o_k1 at h
  refine zQ ?_
  refine zM (r := i64 v11) rfl rfl rfl rfl rfl ?_
  refine zA (r := i64 v11) rfl rfl rfl rfl rfl ?_
  refine zN ?_
  refine RunC.ret ?_
  have hq := Option.some.inj h
  obtain ⟨hq0, hq⟩ := Prod.mk.inj hq
  subst q0
  subst q1
  exact bodyQ.mk (r' := i64 v11) [(0, 0)] (.inr rfl) rfl (show List.Nodup [0] from by decide) rfl rfl (Res.one rfl (RV.tmp rfl)) (SelL.arr (f := f32) (fun _ => rfl) rfl trivial)
noncomputable def w_markMatrix_02o (a0 : Int) (a1 : Int) (a2 : Int) (a3 : List F) : Option (Int × (List F)) :=
 obind2 (w_markFloat32S_0o a2 a3) fun (r1 : Int) (r2 : List F) =>
 need (decide (r2.length = a3.length)) <|
 some (r1, r2)
theorem w_markMatrix_02o_ok (a0 : Int) (a1 : Int) (a2 : Int) (a3 : List F) (q0 : Int) (q1 : List F) (h : w_markMatrix_02o a0 a1 a2 a3 = some (q0, q1)) : Ev Tryz.prog 10 [agg [i64 a0, i64 a1, oref 0 0 0 a3.length], i64 a2] [⟨0, some (a3.map f32)⟩] (i64 q0) [⟨0, some (q1.map f32)⟩] := by
 refine Ev.start Tryz.func10 rfl rfl 0 (τ := [(0, agg [i64 a0, i64 a1, oref 0 0 0 a3.length]), (1, i64 a2)]) rfl (Γ' := [⟨0, some (a3.map f32)⟩]) rfl (n := 20) rfl (g := 1) rfl (by decide) ?_
 unfold w_markMatrix_02o at h
 refine zQ ?_
 refine ROps.d (r := ptr [i64 a0, i64 a1, oref 0 0 0 a3.length]) (fs := []) (Γ' := [⟨0, some (a3.map f32)⟩]) rfl rfl rfl (TOp.box_s rfl rfl rfl) rfl ?_
 refine zA (r := i64 0) rfl rfl rfl rfl rfl ?_
 refine zN ?_
 refine RunC.seq ?_
 obtain ⟨r1, r2, hf1, h⟩ := obind2_some h
 obtain ⟨hn2, h⟩ := need_some h
 refine RunC.regionW ?_
 refine zL (r := ptr [oref 0 0 0 a3.length]) rfl rfl rfl (LOp.fap und26 rfl siz22 rfl rfl rfl) ?_
 refine zL (r := oref 0 0 0 a3.length) rfl rfl rfl (LOp.load1 agg22 rfl rfl) ?_
 refine zM (r := i64 a2) rfl rfl rfl rfl rfl ?_
 refine ROps.callO (A := [oref 0 0 0 a3.length, i64 a2]) (args := [oref 0 0 0 a3.length, i64 a2]) (Γc := [⟨0, some (a3.map f32)⟩]) (Γc' := [⟨0, some (r2.map f32)⟩]) (r' := i64 r1) (Γ' := [⟨0, some (r2.map f32)⟩]) [(0, 0)] [] rfl (CallAs.func ent38 rfl rfl) rfl rfl (SelOk.of (show List.Nodup [0] from by decide) (SelL.arr0 (f := f32) (fun _ => rfl) rfl trivial)) (live_of ⟨⟨_, _, rfl⟩, trivial⟩) (by simp [ren, rens, sigma, rens_f32, rens_f64, rens_i64, rens_ik, rens_str, rens_cp]) rfl (w_markFloat32S_0o_ok a2 a3 r1 r2 hf1) rfl (news_of trivial) (show List.Nodup [0] from by decide) (by simp [ren, rens, sigma, of_decide_eq_true hn2]) (by simp [backOb, sigma, ren, rens, rens_f32, rens_f64, rens_i64, rens_ik, rens_str, rens_cp]) ?_
 refine zA (r := i64 r1) rfl rfl rfl rfl rfl ?_
 refine zN ?_
 refine zQ ?_
 refine zM (r := i64 r1) rfl rfl rfl rfl rfl ?_
 refine zA (r := i64 r1) rfl rfl rfl rfl rfl ?_
 refine zN ?_
 refine RunC.ret ?_
 have hq := Option.some.inj h
 obtain ⟨hq0, hq⟩ := Prod.mk.inj hq
 subst q0
 subst q1
 exact bodyQ.mk (r' := i64 r1) [(0, 0)] (.inr rfl) rfl (show List.Nodup [0] from by decide) rfl rfl (Res.one rfl (RV.tmp rfl)) (SelL.arr (f := f32) (fun _ => rfl) rfl trivial)
noncomputable def w_heldFloat32S_b1 (a0 : List F) (v1 : Int) (v2 : Int) : Option (LR (Int × Int) (Int) (Int)) :=
 bsel (decide (v2 < (a0.length : Int))) (
  obind (at? a0 v2) fun (e3 : F) =>
  olet (fint .f32 v1) fun (x4 : F) =>
  bsel (!feq .f32 e3 x4) (
   some (LR.ret (-1))) (
   olet (IntKind.i64.wrap (v1 + 1)) fun (x5 : Int) =>
   olet (IntKind.i64.wrap (v2 + 1)) fun (x6 : Int) =>
   some (LR.next (x5, x6)))) (
  some (LR.out v1))
noncomputable def w_heldFloat32S_s1 (a0 : List F) : (Int × Int) → Option (LR (Int × Int) (Int) (Int)) := fun s => w_heldFloat32S_b1 a0 s.1 s.2
noncomputable def w_heldFloat32S_k1 (v7 : Int) : Option (Int) :=
 some v7
noncomputable def w_heldFloat32S (a0 : List F) (a1 : Int) : Option (Int) :=
 obind (loopM (w_heldFloat32S_s1 a0) (a1, 0)) fun z => osum z (fun e => w_heldFloat32S_k1 e) (fun r => some r)
theorem w_heldFloat32S_ok (a0 : List F) (a1 : Int) (q0 : Int) (h : w_heldFloat32S a0 a1 = some q0) : Ev Tryz.prog 39 [sl a0.length (a0.map f32), i64 a1] [] (i64 q0) [] := by
 refine Ev.start Tryz.func39 rfl rfl 0 (τ := [(0, sl a0.length (a0.map f32)), (1, i64 a1)]) rfl (Γ' := []) rfl (n := 45) rfl (g := 0) rfl (fun _ => rfl) ?_
 unfold w_heldFloat32S at h
 refine zQ ?_
 refine zA (r := i64 0) rfl rfl rfl rfl rfl ?_
 refine zN ?_
 refine RunC.seq ?_
 refine zQ ?_
 refine zA (r := i64 0) rfl rfl rfl rfl rfl ?_
 refine zN ?_
 obtain ⟨z2, hz_2, h⟩ := obind_some h
 refine RunC.cutN (fun τ Γ => ∃ (v7 : Int), WeakLe τ [(1, i64 v7)] ∧ DeadLe Γ [] ∧ z2 = .inl v7) ?_ ?_
 ·refine RunC.block (RunC.loop (RunL.loopM (x := z2) (w_heldFloat32S_s1 a0) (fun (s : Int × Int) τ Γ => WeakLe τ [(0, sl a0.length (a0.map f32)), (1, i64 s.1), (5, i64 s.2)] ∧ DeadLe Γ []) ?_ _ _ _ hz_2 ⟨⟨aR, aR, aR, trivial⟩, trivial⟩))
  rintro ⟨v1, v2⟩ τ2 Γ2 y2_ ⟨hw2, hd2⟩ h2_ ho2 hr2
  refine RunC.wl (τ' := [(0, sl a0.length (a0.map f32)), (1, i64 v1), (5, i64 v2)]) (Γ' := []) hw2 hd2 ?_
  replace h2_ : w_heldFloat32S_b1 a0 v1 v2 = some y2_ := h2_
  unfold w_heldFloat32S_b1 at h2_
  refine RunC.seq ?_
  refine RunC.seq ?_
  rcases bsel_some h2_ with ⟨hc1, h2_⟩ | ⟨hc1, h2_⟩
  ·refine RunC.regionW ?_
   refine zM (r := i64 v2) rfl rfl rfl rfl rfl ?_
   refine zM (r := sl a0.length (a0.map f32)) rfl rfl rfl rfl rfl ?_
   refine zL (r := i64 (a0.length : Int)) rfl rfl rfl (LOp.len_sl und22 rfl rfl) ?_
   refine zL (r := b true) rfl rfl rfl (LOp.eqb (LOp.lss rfl rfl rfl) hc1) ?_
   refine zN ?_
   refine RunC.cond_true rfl rfl ?_
   refine RunC.skip ?_
   refine RunC.seq ?_
   refine RunC.block ?_
   refine RunC.seq ?_
   refine RunC.seq ?_
   obtain ⟨e3, he2, h2_⟩ := obind_some h2_
   obtain ⟨x4, hx3, h2_⟩ := olet_some h2_
   rcases bsel_some h2_ with ⟨hc4, h2_⟩ | ⟨hc4, h2_⟩
   ·refine RunC.regionW ?_
    refine zM (r := sl a0.length (a0.map f32)) rfl rfl rfl rfl rfl ?_
    refine zM (r := i64 v2) rfl rfl rfl rfl rfl ?_
    refine zL (r := ptr [f32 e3]) rfl rfl rfl (LOp.le (LOp.ix (f := f32) und22 siz33 rfl rfl rfl rfl he2) ALe.ptr) ?_
    refine zL (r := f32 e3) rfl rfl rfl (LOp.load1 agg33 rfl rfl) ?_
    refine zM (r := i64 v1) rfl rfl rfl rfl rfl ?_
    refine zL (r := f32 x4) rfl rfl rfl (LOp.eqr (LOp.i2f (src := 3) (dst := 33) ⟨_, pun3⟩ pun33 rfl rfl) (congrArg (f .f32) hx3)) ?_
    refine zL (r := b true) rfl rfl rfl (LOp.eqb (LOp.fne rfl (OpF.tmp rfl) (OpF.tmp rfl)) hc4) ?_
    refine zN ?_
    refine RunC.cond_true rfl rfl ?_
    refine zQ ?_
    refine zA (r := i64 (-1)) rfl rfl rfl rfl rfl ?_
    refine zN ?_
    refine RunC.ret ?_
    cases Option.some.inj h2_
    have hx3_ := hr2 _ rfl
    subst hx3_
    have hq := Option.some.inj h
    subst q0
    exact bodyQ.pure (.inr rfl) rfl (Res.one rfl (RV.tmp rfl))
   ·refine RunC.regionW ?_
    refine zM (r := sl a0.length (a0.map f32)) rfl rfl rfl rfl rfl ?_
    refine zM (r := i64 v2) rfl rfl rfl rfl rfl ?_
    refine zL (r := ptr [f32 e3]) rfl rfl rfl (LOp.le (LOp.ix (f := f32) und22 siz33 rfl rfl rfl rfl he2) ALe.ptr) ?_
    refine zL (r := f32 e3) rfl rfl rfl (LOp.load1 agg33 rfl rfl) ?_
    refine zM (r := i64 v1) rfl rfl rfl rfl rfl ?_
    refine zL (r := f32 x4) rfl rfl rfl (LOp.eqr (LOp.i2f (src := 3) (dst := 33) ⟨_, pun3⟩ pun33 rfl rfl) (congrArg (f .f32) hx3)) ?_
    refine zL (r := b false) rfl rfl rfl (LOp.eqb (LOp.fne rfl (OpF.tmp rfl) (OpF.tmp rfl)) hc4) ?_
    refine zN ?_
    refine RunC.cond_false rfl rfl ?_
    refine RunC.skip ?_
    obtain ⟨x5, hx5, h2_⟩ := olet_some h2_
    refine RunC.regionW ?_
    refine zM (r := i64 v1) rfl rfl rfl rfl rfl ?_
    refine zL (r := i64 x5) rfl rfl rfl (LOp.eqr (LOp.add rfl rfl rfl) (congrArg (ik .i64) hx5)) ?_
    refine zA (r := i64 x5) rfl rfl rfl rfl rfl ?_
    refine zN ?_
    refine RunC.wl (τ' := [(0, sl a0.length (a0.map f32)), (1, i64 x5), (5, i64 v2)]) (Γ' := []) ⟨aR, aR, aR, trivial⟩ trivial ?_
    obtain ⟨x6, hx6, h2_⟩ := olet_some h2_
    refine RunC.regionW ?_
    refine zM (r := i64 v2) rfl rfl rfl rfl rfl ?_
    refine zL (r := i64 x6) rfl rfl rfl (LOp.eqr (LOp.add rfl rfl rfl) (congrArg (ik .i64) hx6)) ?_
    refine zA (r := i64 x6) rfl rfl rfl rfl rfl ?_
    refine zN ?_
    cases Option.some.inj h2_
    exact ⟨_, rfl, ⟨aR, aR, aR, trivial⟩, trivial⟩
  ·refine RunC.regionW ?_
   refine zM (r := i64 v2) rfl rfl rfl rfl rfl ?_
   refine zM (r := sl a0.length (a0.map f32)) rfl rfl rfl rfl rfl ?_
   refine zL (r := i64 (a0.length : Int)) rfl rfl rfl (LOp.len_sl und22 rfl rfl) ?_
   refine zL (r := b false) rfl rfl rfl (LOp.eqb (LOp.lss rfl rfl rfl) hc1) ?_
   refine zN ?_
   refine RunC.cond_false rfl rfl ?_
   refine RunC.exit ?_
   cases Option.some.inj h2_
   have hx := ho2 _ rfl
   exact ⟨v1, ⟨aR, trivial⟩, trivial, hx⟩
 ·rintro τ4 Γ4 ⟨v7, hw4, hd4, rfl⟩
  refine RunC.wl hw4 hd4 ?_
  replace h : w_heldFloat32S_k1 v7 = some q0 := h
  unfold w_heldFloat32S_k1 at h
  refine zQ ?_
  refine zM (r := i64 v7) rfl rfl rfl rfl rfl ?_
  refine zA (r := i64 v7) rfl rfl rfl rfl rfl ?_
  refine zN ?_
  refine RunC.ret ?_
  have hq := Option.some.inj h
  subst q0
  exact bodyQ.pure (.inr rfl) rfl (Res.one rfl (RV.tmp rfl))
noncomputable def w_heldMatrix (a0 : Int) (a1 : Int) (a2 : List F) (a3 : Int) : Option (Int) :=
 obind (w_heldFloat32S a2 a3) fun (r1 : Int) =>
 bsel (decide (r1 < 0)) (
  some (-1)) (
  some r1)
theorem w_heldMatrix_ok (a0 : Int) (a1 : Int) (a2 : List F) (a3 : Int) (q0 : Int) (h : w_heldMatrix a0 a1 a2 a3 = some q0) : Ev Tryz.prog 11 [agg [i64 a0, i64 a1, sl a2.length (a2.map f32)], i64 a3] [] (i64 q0) [] := by
 refine Ev.start Tryz.func11 rfl rfl 0 (τ := [(0, agg [i64 a0, i64 a1, sl a2.length (a2.map f32)]), (1, i64 a3)]) rfl (Γ' := []) rfl (n := 25) rfl (g := 0) rfl (fun _ => rfl) ?_
 unfold w_heldMatrix at h
 refine zQ ?_
 refine ROps.d (r := ptr [i64 a0, i64 a1, sl a2.length (a2.map f32)]) (fs := []) (Γ' := []) rfl rfl rfl (TOp.box_s rfl rfl rfl) rfl ?_
 refine zA (r := i64 0) rfl rfl rfl rfl rfl ?_
 refine zN ?_
 refine RunC.seq ?_
 obtain ⟨r1, hf1, h⟩ := obind_some h
 refine RunC.regionW ?_
 refine zL (r := ptr [sl a2.length (a2.map f32)]) rfl rfl rfl (LOp.fap und26 rfl siz22 rfl rfl rfl) ?_
 refine zL (r := sl a2.length (a2.map f32)) rfl rfl rfl (LOp.load1 agg22 rfl rfl) ?_
 refine zM (r := i64 a3) rfl rfl rfl rfl rfl ?_
 refine ROps.d (r := i64 r1) (fs := []) (Γ' := []) rfl rfl rfl (TOp.callB (CallAs.func ent39 rfl rfl) (Bors.cons (Bor.sl (fun _ => rfl)) (Bors.cons (Bor.pure rfl) Bors.nil)) rfl rfl (w_heldFloat32S_ok a2 a3 r1 hf1)) rfl ?_
 refine zA (r := i64 r1) rfl rfl rfl rfl rfl ?_
 refine zN ?_
 refine RunC.seq ?_
 refine RunC.seq ?_
 rcases bsel_some h with ⟨hc2, h⟩ | ⟨hc2, h⟩
 ·refine RunC.regionW ?_
  refine zM (r := i64 r1) rfl rfl rfl rfl rfl ?_
  refine zL (r := b true) rfl rfl rfl (LOp.eqb (LOp.lss rfl rfl rfl) hc2) ?_
  refine zN ?_
  refine RunC.cond_true rfl rfl ?_
  refine zQ ?_
  refine zA (r := i64 (-1)) rfl rfl rfl rfl rfl ?_
  refine zN ?_
  refine RunC.ret ?_
  have hq := Option.some.inj h
  subst q0
  exact bodyQ.pure (.inr rfl) rfl (Res.one rfl (RV.tmp rfl))
 ·refine RunC.regionW ?_
  refine zM (r := i64 r1) rfl rfl rfl rfl rfl ?_
  refine zL (r := b false) rfl rfl rfl (LOp.eqb (LOp.lss rfl rfl rfl) hc2) ?_
  refine zN ?_
  refine RunC.cond_false rfl rfl ?_
  refine RunC.skip ?_
  refine zQ ?_
  refine zM (r := i64 r1) rfl rfl rfl rfl rfl ?_
  refine zA (r := i64 r1) rfl rfl rfl rfl rfl ?_
  refine zN ?_
  refine RunC.ret ?_
  have hq := Option.some.inj h
  subst q0
  exact bodyQ.pure (.inr rfl) rfl (Res.one rfl (RV.tmp rfl))
noncomputable def w_FnExactLowMatrix (a0 : Int) (a1 : Int) (a2 : List F) (a3 : Int) (a4 : Int) : Option (Bool) :=
 obind (w_szMatrix a0 a1 a2 1048576) fun (r1 : Int) =>
 bsel (decide (r1 < 0)) (
  some true) (
  obind3 (w_toMatrix a0 a1 a2) fun (r2 : Int) (r3 : Int) (r4 : List F) =>
  obind4 (s_LowMatrix r2 r3 r4 a3 a4) fun (r5 : Int) (r6 : Int) (r7 : Bool) (r8 : List F) =>
  obind3 (w_toMatrix a0 a1 a2) fun (r9 : Int) (r10 : Int) (r11 : List F) =>
  obind4 (i_LowMatrix r9 r10 r11 a3 a4) fun (r12 : Int) (r13 : Int) (r14 : Bool) (r15 : List F) =>
  obind (w_eqMatrix r12 r13 r15 r5 r6 r8) fun (r16 : Bool) =>
  bsel r16 (
   bsel (!(r14 == r7)) (
    some false) (
    obind3 (w_toMatrix a0 a1 a2) fun (r17 : Int) (r18 : Int) (r19 : List F) =>
    obind (w_eqMatrix r9 r10 r11 r17 r18 r19) fun (r20 : Bool) =>
    bsel r20 (
     obind2 (w_markMatrix_02o r9 r10 1 r11) fun (r21 : Int) (r22 : List F) =>
     need (decide (r22.length = r11.length)) <|
     bsel (decide (r21 < 0)) (
      some false) (
      obind (w_eqMatrix r12 r13 r15 r5 r6 r8) fun (r23 : Bool) =>
      bsel r23 (
       obind2 (w_markMatrix_02o r12 r13 1 r15) fun (r24 : Int) (r25 : List F) =>
       need (decide (r25.length = r15.length)) <|
       obind (w_heldMatrix r12 r13 r25 1) fun (r26 : Int) =>
       bsel (decide (r26 < 0)) (
        some false) (
        bsel (!decide (r26 = r24)) (
         some false) (
         obind3 (w_toMatrix a0 a1 a2) fun (r27 : Int) (r28 : Int) (r29 : List F) =>
         obind4 (i_LowMatrix r27 r28 r29 a3 a4) fun (r30 : Int) (r31 : Int) (r32 : Bool) (r33 : List F) =>
         obind (w_eqMatrix r30 r31 r33 r5 r6 r8) fun (r34 : Bool) =>
         bsel r34 (
          bsel (!(r32 == r7)) (
           some false) (
           obind (w_heldMatrix r12 r13 r25 1) fun (r35 : Int) =>
           bsel (decide (r35 < 0)) (
            some false) (
            bsel (!decide (r35 = r24)) (
             some false) (
             some true)))) (
          some false)))) (
       some false))) (
     some false))) (
   some false))
theorem w_FnExactLowMatrix_ok (a0 : Int) (a1 : Int) (a2 : List F) (a3 : Int) (a4 : Int) (q0 : Bool) (h : w_FnExactLowMatrix a0 a1 a2 a3 a4 = some q0) : Ev Tryz.prog 3 [agg [i64 a0, i64 a1, sl a2.length (a2.map f32)], i64 a3, i64 a4] [] (b q0) [] := by
 refine Ev.start Tryz.func3 rfl rfl 7 (τ := [(0, agg [i64 a0, i64 a1, sl a2.length (a2.map f32)]), (1, i64 a3), (2, i64 a4)]) rfl (Γ' := [⟨0, none⟩, ⟨0, none⟩, ⟨0, none⟩, ⟨0, none⟩, ⟨0, none⟩, ⟨0, none⟩, ⟨0, none⟩]) rfl (n := 213) rfl (g := 0) rfl (fun _ => rfl) ?_
 unfold w_FnExactLowMatrix at h
 refine zQ ?_
 refine ROps.d (r := ptr [i64 a0, i64 a1, sl a2.length (a2.map f32)]) (fs := []) (Γ' := [⟨0, none⟩, ⟨0, none⟩, ⟨0, none⟩, ⟨0, none⟩, ⟨0, none⟩, ⟨0, none⟩, ⟨0, none⟩]) rfl rfl rfl (TOp.box_s rfl rfl rfl) rfl ?_
 refine zA (r := b false) rfl rfl rfl rfl rfl ?_
 refine zN ?_
 refine zQ ?_
 refine zA (r := i64 1048576) rfl rfl rfl rfl rfl ?_
 refine zN ?_
 refine RunC.seq ?_
 obtain ⟨r1, hf1, h⟩ := obind_some h
 refine RunC.regionW ?_
 refine zL (r := agg [i64 a0, i64 a1, sl a2.length (a2.map f32)]) rfl rfl rfl (LOp.loadAgg agg24 siz24 rfl rfl rfl rfl) ?_
 refine zM (r := i64 1048576) rfl rfl rfl rfl rfl ?_
 refine ROps.d (r := i64 r1) (fs := []) (Γ' := [⟨0, none⟩, ⟨0, none⟩, ⟨0, none⟩, ⟨0, none⟩, ⟨0, none⟩, ⟨0, none⟩, ⟨0, none⟩]) rfl rfl rfl (TOp.callB (CallAs.func ent5 rfl rfl) (Bors.cons (Bor.agg (Bors.cons (Bor.pure rfl) (Bors.cons (Bor.pure rfl) (Bors.cons (Bor.sl (fun _ => rfl)) Bors.nil)))) (Bors.cons (Bor.pure rfl) Bors.nil)) rfl rfl (w_szMatrix_ok a0 a1 a2 1048576 r1 hf1)) rfl ?_
 refine zA (r := i64 r1) rfl rfl rfl rfl rfl ?_
 refine zN ?_
 refine RunC.seq ?_
 refine RunC.seq ?_
 rcases bsel_some h with ⟨hc2, h⟩ | ⟨hc2, h⟩
 ·refine RunC.regionW ?_
  refine zM (r := i64 r1) rfl rfl rfl rfl rfl ?_
  refine zL (r := b true) rfl rfl rfl (LOp.eqb (LOp.lss rfl rfl rfl) hc2) ?_
  refine zN ?_
  refine RunC.cond_true rfl rfl ?_
  refine zQ ?_
  refine zA (r := b true) rfl rfl rfl rfl rfl ?_
  refine zN ?_
  refine RunC.ret ?_
  have hq := Option.some.inj h
  subst q0
  exact bodyQ.pure (.inr rfl) rfl (Res.one rfl (RV.tmp rfl))
 ·refine RunC.regionW ?_
  refine zM (r := i64 r1) rfl rfl rfl rfl rfl ?_
  refine zL (r := b false) rfl rfl rfl (LOp.eqb (LOp.lss rfl rfl rfl) hc2) ?_
  refine zN ?_
  refine RunC.cond_false rfl rfl ?_
  refine RunC.skip ?_
  refine RunC.seq ?_
  obtain ⟨r2, r3, r4, hf3, h⟩ := obind3_some h
  obtain ⟨r5, r6, r7, r8, hf4, h⟩ := obind4_some h
  refine RunC.regionW ?_
  refine zL (r := agg [i64 a0, i64 a1, sl a2.length (a2.map f32)]) rfl rfl rfl (LOp.loadAgg agg24 siz24 rfl rfl rfl rfl) ?_
  refine ROps.d (r := agg [i64 r2, i64 r3, oref 0 1 0 r4.length]) (fs := [(0, (r4.map f32))]) (Γ' := [⟨1, some (r4.map f32)⟩, ⟨0, none⟩, ⟨0, none⟩, ⟨0, none⟩, ⟨0, none⟩, ⟨0, none⟩, ⟨0, none⟩]) rfl rfl rfl (TOp.callBN (ls := [(r4.map f32)]) [0] (CallAs.func ent7 rfl rfl) (Bors.cons (Bor.agg (Bors.cons (Bor.pure rfl) (Bors.cons (Bor.pure rfl) (Bors.cons (Bor.sl (fun _ => rfl)) Bors.nil)))) Bors.nil) rfl (w_toMatrix_ok a0 a1 a2 r2 r3 r4 hf3) (and_all (lts0_map (f := f32) (fun _ => rfl) _) rfl) (and_all (noss_map (f := f32) (fun _ => rfl) _) rfl) rfl (by decide) (ns_of ⟨⟨_, rfl⟩, trivial⟩)) rfl ?_
  refine zM (r := i64 a3) rfl rfl rfl rfl rfl ?_
  refine zM (r := i64 a4) rfl rfl rfl rfl rfl ?_
  refine ROps.d (r := tup [agg [i64 r5, i64 r6, oref 1 1 0 r8.length], b r7]) (fs := [(1, (r8.map f32))]) (Γ' := [⟨1, some (r4.map f32)⟩, ⟨1, some (r8.map f32)⟩, ⟨0, none⟩, ⟨0, none⟩, ⟨0, none⟩, ⟨0, none⟩, ⟨0, none⟩]) rfl rfl rfl (TOp.callBN (ls := [(r8.map f32)]) [1] (CallAs.func ent6 rfl rfl) (Bors.cons (Bor.agg (Bors.cons (Bor.pure rfl) (Bors.cons (Bor.pure rfl) (Bors.cons (Bor.own (f := f32) (fun _ => rfl) rfl rfl) Bors.nil)))) (Bors.cons (Bor.pure rfl) (Bors.cons (Bor.pure rfl) Bors.nil))) rfl (s_LowMatrix_ok r2 r3 r4 a3 a4 r5 r6 r7 r8 hf4) (and_all (lts0_map (f := f32) (fun _ => rfl) _) rfl) (and_all (noss_map (f := f32) (fun _ => rfl) _) rfl) rfl (by decide) (ns_of ⟨⟨_, rfl⟩, trivial⟩)) rfl ?_
  refine zM (r := tup [agg [i64 r5, i64 r6, oref 1 1 0 r8.length], b r7]) rfl rfl rfl rfl rfl ?_
  refine zL (r := agg [i64 r5, i64 r6, oref 1 1 0 r8.length]) rfl rfl rfl (LOp.extract rfl rfl rfl) ?_
  refine zL (r := b r7) rfl rfl rfl (LOp.extract rfl rfl rfl) ?_
  refine ROps.d (r := optr 2 1 0) (fs := [(2, [i64 0, i64 0, nilsl])]) (Γ' := [⟨1, some (r4.map f32)⟩, ⟨1, some (r8.map f32)⟩, ⟨1, some [i64 0, i64 0, nilsl]⟩, ⟨0, none⟩, ⟨0, none⟩, ⟨0, none⟩, ⟨0, none⟩]) rfl rfl rfl (TOp.alloc_o (g := ⟨0, none⟩) 2 rfl zer26 zok26 rfl) rfl ?_
  refine ROps.store_le (r := agg [i64 r5, i64 r6, oref 1 1 0 r8.length]) (l' := [i64 r5, i64 r6, oref 1 1 0 r8.length]) (Γ' := [⟨1, some (r4.map f32)⟩, ⟨1, some (r8.map f32)⟩, ⟨1, some [i64 r5, i64 r6, oref 1 1 0 r8.length]⟩, ⟨0, none⟩, ⟨0, none⟩, ⟨0, none⟩, ⟨0, none⟩]) rfl siz26 rfl rfl rfl aR rfl rfl rfl rfl (Nat.le_of_ble_eq_true rfl) rfl rfl ?_
  refine zA (r := b r7) rfl rfl rfl rfl rfl ?_
  refine zN ?_
  refine RunC.wl (τ' := [(1, i64 a3), (2, i64 a4), (3, ptr [i64 a0, i64 a1, sl a2.length (a2.map f32)]), (8, optr 2 1 0), (9, b r7)]) (Γ' := [⟨1, none⟩, ⟨1, some (r8.map f32)⟩, ⟨1, some [i64 r5, i64 r6, oref 1 1 0 r8.length]⟩, ⟨0, none⟩, ⟨0, none⟩, ⟨0, none⟩, ⟨0, none⟩]) ⟨aR, aR, aR, aR, aR, trivial⟩ ⟨⟨rfl, .inl rfl⟩, ⟨rfl, .inr rfl⟩, ⟨rfl, .inr rfl⟩, ⟨rfl, .inr rfl⟩, ⟨rfl, .inr rfl⟩, ⟨rfl, .inr rfl⟩, ⟨rfl, .inr rfl⟩, trivial⟩ ?_
  refine RunC.seq ?_
  obtain ⟨r9, r10, r11, hf5, h⟩ := obind3_some h
  refine RunC.regionW ?_
  refine zL (r := agg [i64 a0, i64 a1, sl a2.length (a2.map f32)]) rfl rfl rfl (LOp.loadAgg agg24 siz24 rfl rfl rfl rfl) ?_
  refine ROps.d (r := agg [i64 r9, i64 r10, oref 0 2 0 r11.length]) (fs := [(0, (r11.map f32))]) (Γ' := [⟨2, some (r11.map f32)⟩, ⟨1, some (r8.map f32)⟩, ⟨1, some [i64 r5, i64 r6, oref 1 1 0 r8.length]⟩, ⟨0, none⟩, ⟨0, none⟩, ⟨0, none⟩, ⟨0, none⟩]) rfl rfl rfl (TOp.callBN (ls := [(r11.map f32)]) [0] (CallAs.func ent7 rfl rfl) (Bors.cons (Bor.agg (Bors.cons (Bor.pure rfl) (Bors.cons (Bor.pure rfl) (Bors.cons (Bor.sl (fun _ => rfl)) Bors.nil)))) Bors.nil) rfl (w_toMatrix_ok a0 a1 a2 r9 r10 r11 hf5) (and_all (lts0_map (f := f32) (fun _ => rfl) _) rfl) (and_all (noss_map (f := f32) (fun _ => rfl) _) rfl) rfl (by decide) (ns_of ⟨⟨_, rfl⟩, trivial⟩)) rfl ?_
  refine ROps.d (r := optr 3 1 0) (fs := [(3, [i64 0, i64 0, nilsl])]) (Γ' := [⟨2, some (r11.map f32)⟩, ⟨1, some (r8.map f32)⟩, ⟨1, some [i64 r5, i64 r6, oref 1 1 0 r8.length]⟩, ⟨1, some [i64 0, i64 0, nilsl]⟩, ⟨0, none⟩, ⟨0, none⟩, ⟨0, none⟩]) rfl rfl rfl (TOp.alloc_o (g := ⟨0, none⟩) 3 rfl zer26 zok26 rfl) rfl ?_
  refine ROps.store_le (r := agg [i64 r9, i64 r10, oref 0 2 0 r11.length]) (l' := [i64 r9, i64 r10, oref 0 2 0 r11.length]) (Γ' := [⟨2, some (r11.map f32)⟩, ⟨1, some (r8.map f32)⟩, ⟨1, some [i64 r5, i64 r6, oref 1 1 0 r8.length]⟩, ⟨1, some [i64 r9, i64 r10, oref 0 2 0 r11.length]⟩, ⟨0, none⟩, ⟨0, none⟩, ⟨0, none⟩]) rfl siz26 rfl rfl rfl aR rfl rfl rfl rfl (Nat.le_of_ble_eq_true rfl) rfl rfl ?_
  refine zN ?_
  refine RunC.seq ?_
  obtain ⟨r12, r13, r14, r15, hf6, h⟩ := obind4_some h
  refine RunC.regionW ?_
  refine ROps.d (r := agg [i64 r9, i64 r10, oref 0 2 0 r11.length]) (fs := []) (Γ' := [⟨2, some (r11.map f32)⟩, ⟨1, some (r8.map f32)⟩, ⟨1, some [i64 r5, i64 r6, oref 1 1 0 r8.length]⟩, ⟨1, some [i64 r9, i64 r10, oref 0 2 0 r11.length]⟩, ⟨0, none⟩, ⟨0, none⟩, ⟨0, none⟩]) rfl rfl rfl (TOp.loadAgg_o rfl agg26 siz26 rfl rfl rfl rfl) rfl ?_
  refine zM (r := i64 a3) rfl rfl rfl rfl rfl ?_
  refine zM (r := i64 a4) rfl rfl rfl rfl rfl ?_
  refine ROps.d (r := tup [agg [i64 r12, i64 r13, oref 4 1 0 r15.length], b r14]) (fs := [(4, (r15.map f32))]) (Γ' := [⟨2, some (r11.map f32)⟩, ⟨1, some (r8.map f32)⟩, ⟨1, some [i64 r5, i64 r6, oref 1 1 0 r8.length]⟩, ⟨1, some [i64 r9, i64 r10, oref 0 2 0 r11.length]⟩, ⟨1, some (r15.map f32)⟩, ⟨0, none⟩, ⟨0, none⟩]) rfl rfl rfl (TOp.callBN (ls := [(r15.map f32)]) [4] (CallAs.func ent8 rfl rfl) (Bors.cons (Bor.agg (Bors.cons (Bor.pure rfl) (Bors.cons (Bor.pure rfl) (Bors.cons (Bor.own (f := f32) (fun _ => rfl) rfl rfl) Bors.nil)))) (Bors.cons (Bor.pure rfl) (Bors.cons (Bor.pure rfl) Bors.nil))) rfl (i_LowMatrix_ok r9 r10 r11 a3 a4 r12 r13 r14 r15 hf6) (and_all (lts0_map (f := f32) (fun _ => rfl) _) rfl) (and_all (noss_map (f := f32) (fun _ => rfl) _) rfl) rfl (by decide) (ns_of ⟨⟨_, rfl⟩, trivial⟩)) rfl ?_
  refine zM (r := tup [agg [i64 r12, i64 r13, oref 4 1 0 r15.length], b r14]) rfl rfl rfl rfl rfl ?_
  refine zL (r := agg [i64 r12, i64 r13, oref 4 1 0 r15.length]) rfl rfl rfl (LOp.extract rfl rfl rfl) ?_
  refine zL (r := b r14) rfl rfl rfl (LOp.extract rfl rfl rfl) ?_
  refine ROps.d (r := optr 5 1 0) (fs := [(5, [i64 0, i64 0, nilsl])]) (Γ' := [⟨2, some (r11.map f32)⟩, ⟨1, some (r8.map f32)⟩, ⟨1, some [i64 r5, i64 r6, oref 1 1 0 r8.length]⟩, ⟨1, some [i64 r9, i64 r10, oref 0 2 0 r11.length]⟩, ⟨1, some (r15.map f32)⟩, ⟨1, some [i64 0, i64 0, nilsl]⟩, ⟨0, none⟩]) rfl rfl rfl (TOp.alloc_o (g := ⟨0, none⟩) 5 rfl zer26 zok26 rfl) rfl ?_
  refine ROps.store_le (r := agg [i64 r12, i64 r13, oref 4 1 0 r15.length]) (l' := [i64 r12, i64 r13, oref 4 1 0 r15.length]) (Γ' := [⟨2, some (r11.map f32)⟩, ⟨1, some (r8.map f32)⟩, ⟨1, some [i64 r5, i64 r6, oref 1 1 0 r8.length]⟩, ⟨1, some [i64 r9, i64 r10, oref 0 2 0 r11.length]⟩, ⟨1, some (r15.map f32)⟩, ⟨1, some [i64 r12, i64 r13, oref 4 1 0 r15.length]⟩, ⟨0, none⟩]) rfl siz26 rfl rfl rfl aR rfl rfl rfl rfl (Nat.le_of_ble_eq_true rfl) rfl rfl ?_
  refine zA (r := b r14) rfl rfl rfl rfl rfl ?_
  refine zN ?_
  refine RunC.seq ?_
  refine RunC.seq ?_
  obtain ⟨r16, hf7, h⟩ := obind_some h
  rcases bsel_some h with ⟨hc8, h⟩ | ⟨hc8, h⟩
  ·rcases bsel_some h with ⟨hc9, h⟩ | ⟨hc9, h⟩
   ·refine RunC.regionW ?_
    refine ROps.d (r := agg [i64 r12, i64 r13, oref 4 1 0 r15.length]) (fs := []) (Γ' := [⟨2, some (r11.map f32)⟩, ⟨1, some (r8.map f32)⟩, ⟨1, some [i64 r5, i64 r6, oref 1 1 0 r8.length]⟩, ⟨1, some [i64 r9, i64 r10, oref 0 2 0 r11.length]⟩, ⟨1, some (r15.map f32)⟩, ⟨1, some [i64 r12, i64 r13, oref 4 1 0 r15.length]⟩, ⟨0, none⟩]) rfl rfl rfl (TOp.loadAgg_o rfl agg26 siz26 rfl rfl rfl rfl) rfl ?_
    refine ROps.d (r := agg [i64 r5, i64 r6, oref 1 1 0 r8.length]) (fs := []) (Γ' := [⟨2, some (r11.map f32)⟩, ⟨1, some (r8.map f32)⟩, ⟨1, some [i64 r5, i64 r6, oref 1 1 0 r8.length]⟩, ⟨1, some [i64 r9, i64 r10, oref 0 2 0 r11.length]⟩, ⟨1, some (r15.map f32)⟩, ⟨1, some [i64 r12, i64 r13, oref 4 1 0 r15.length]⟩, ⟨0, none⟩]) rfl rfl rfl (TOp.loadAgg_o rfl agg26 siz26 rfl rfl rfl rfl) rfl ?_
    refine ROps.d (r := b true) (fs := []) (Γ' := [⟨2, some (r11.map f32)⟩, ⟨1, some (r8.map f32)⟩, ⟨1, some [i64 r5, i64 r6, oref 1 1 0 r8.length]⟩, ⟨1, some [i64 r9, i64 r10, oref 0 2 0 r11.length]⟩, ⟨1, some (r15.map f32)⟩, ⟨1, some [i64 r12, i64 r13, oref 4 1 0 r15.length]⟩, ⟨0, none⟩]) rfl rfl rfl (TOp.eqb (TOp.callB (CallAs.func ent9 rfl rfl) (Bors.cons (Bor.agg (Bors.cons (Bor.pure rfl) (Bors.cons (Bor.pure rfl) (Bors.cons (Bor.own (f := f32) (fun _ => rfl) rfl rfl) Bors.nil)))) (Bors.cons (Bor.agg (Bors.cons (Bor.pure rfl) (Bors.cons (Bor.pure rfl) (Bors.cons (Bor.own (f := f32) (fun _ => rfl) rfl rfl) Bors.nil)))) Bors.nil)) rfl rfl (w_eqMatrix_ok r12 r13 r15 r5 r6 r8 r16 hf7)) hc8) rfl ?_
    refine zL (r := b false) rfl rfl rfl (LOp.eqb (LOp.not rfl rfl) rfl) ?_
    refine zM (r := b false) rfl rfl rfl rfl rfl ?_
    refine zM (r := b r14) rfl rfl rfl rfl rfl ?_
    refine zM (r := b r7) rfl rfl rfl rfl rfl ?_
    refine zL (r := b true) rfl rfl rfl (LOp.eqb (LOp.neqb pun4 rfl rfl rfl) hc9) ?_
    refine zL (r := b true) rfl rfl rfl (LOp.pick_false rfl rfl rfl) ?_
    refine zN ?_
    refine RunC.cond_true rfl rfl ?_
    refine zQ ?_
    refine zA (r := b false) rfl rfl rfl rfl rfl ?_
    refine zN ?_
    refine RunC.ret ?_
    have hq := Option.some.inj h
    subst q0
    exact bodyQ.pure (.inr rfl) rfl (Res.one rfl (RV.tmp rfl))
   ·refine RunC.regionW ?_
    refine ROps.d (r := agg [i64 r12, i64 r13, oref 4 1 0 r15.length]) (fs := []) (Γ' := [⟨2, some (r11.map f32)⟩, ⟨1, some (r8.map f32)⟩, ⟨1, some [i64 r5, i64 r6, oref 1 1 0 r8.length]⟩, ⟨1, some [i64 r9, i64 r10, oref 0 2 0 r11.length]⟩, ⟨1, some (r15.map f32)⟩, ⟨1, some [i64 r12, i64 r13, oref 4 1 0 r15.length]⟩, ⟨0, none⟩]) rfl rfl rfl (TOp.loadAgg_o rfl agg26 siz26 rfl rfl rfl rfl) rfl ?_
    refine ROps.d (r := agg [i64 r5, i64 r6, oref 1 1 0 r8.length]) (fs := []) (Γ' := [⟨2, some (r11.map f32)⟩, ⟨1, some (r8.map f32)⟩, ⟨1, some [i64 r5, i64 r6, oref 1 1 0 r8.length]⟩, ⟨1, some [i64 r9, i64 r10, oref 0 2 0 r11.length]⟩, ⟨1, some (r15.map f32)⟩, ⟨1, some [i64 r12, i64 r13, oref 4 1 0 r15.length]⟩, ⟨0, none⟩]) rfl rfl rfl (TOp.loadAgg_o rfl agg26 siz26 rfl rfl rfl rfl) rfl ?_
    refine ROps.d (r := b true) (fs := []) (Γ' := [⟨2, some (r11.map f32)⟩, ⟨1, some (r8.map f32)⟩, ⟨1, some [i64 r5, i64 r6, oref 1 1 0 r8.length]⟩, ⟨1, some [i64 r9, i64 r10, oref 0 2 0 r11.length]⟩, ⟨1, some (r15.map f32)⟩, ⟨1, some [i64 r12, i64 r13, oref 4 1 0 r15.length]⟩, ⟨0, none⟩]) rfl rfl rfl (TOp.eqb (TOp.callB (CallAs.func ent9 rfl rfl) (Bors.cons (Bor.agg (Bors.cons (Bor.pure rfl) (Bors.cons (Bor.pure rfl) (Bors.cons (Bor.own (f := f32) (fun _ => rfl) rfl rfl) Bors.nil)))) (Bors.cons (Bor.agg (Bors.cons (Bor.pure rfl) (Bors.cons (Bor.pure rfl) (Bors.cons (Bor.own (f := f32) (fun _ => rfl) rfl rfl) Bors.nil)))) Bors.nil)) rfl rfl (w_eqMatrix_ok r12 r13 r15 r5 r6 r8 r16 hf7)) hc8) rfl ?_
    refine zL (r := b false) rfl rfl rfl (LOp.eqb (LOp.not rfl rfl) rfl) ?_
    refine zM (r := b false) rfl rfl rfl rfl rfl ?_
    refine zM (r := b r14) rfl rfl rfl rfl rfl ?_
    refine zM (r := b r7) rfl rfl rfl rfl rfl ?_
    refine zL (r := b false) rfl rfl rfl (LOp.eqb (LOp.neqb pun4 rfl rfl rfl) hc9) ?_
    refine zL (r := b false) rfl rfl rfl (LOp.pick_false rfl rfl rfl) ?_
    refine zN ?_
    refine RunC.cond_false rfl rfl ?_
    refine RunC.skip ?_
    refine RunC.seq ?_
    refine RunC.seq ?_
    obtain ⟨r17, r18, r19, hf10, h⟩ := obind3_some h
    obtain ⟨r20, hf11, h⟩ := obind_some h
    rcases bsel_some h with ⟨hc12, h⟩ | ⟨hc12, h⟩
    ·refine RunC.region_draw (Γ' := [⟨2, some (r11.map f32)⟩, ⟨1, some (r8.map f32)⟩, ⟨1, some [i64 r5, i64 r6, oref 1 1 0 r8.length]⟩, ⟨1, some [i64 r9, i64 r10, oref 0 2 0 r11.length]⟩, ⟨1, some (r15.map f32)⟩, ⟨1, some [i64 r12, i64 r13, oref 4 1 0 r15.length]⟩, ⟨0, none⟩]) 5 mixed 
      (TR.d (r := agg [i64 r9, i64 r10, oref 0 2 0 r11.length]) (fs := []) rfl rfl (TOp.loadAgg_o rfl agg26 siz26 rfl rfl rfl rfl) <|
      (TR.l (r := agg [i64 a0, i64 a1, sl a2.length (a2.map f32)]) rfl rfl (LOp.loadAgg agg24 siz24 rfl rfl rfl rfl) <|
      (TR.d (r := agg [i64 r17, i64 r18, sl r19.length (r19.map f32)]) (fs := []) rfl rfl (TOp.callS (CallAs.func ent7 rfl rfl) (ALes.cons aR ALes.nil) (lts_cons (lt_agg (lts_cons rfl (lts_cons rfl (lts_cons (lt_sl (fun _ => rfl)) lts_nil)))) lts_nil) (lt_agg (lts_cons rfl (lts_cons rfl (lts_cons (lt_sl (fun _ => rfl)) lts_nil)))) (w_toMatrix_ok a0 a1 a2 r17 r18 r19 hf10) (Bor.agg (Bors.cons (Bor.pure rfl) (Bors.cons (Bor.pure rfl) (Bors.cons (Bor.own (f := f32) (fun _ => rfl) rfl rfl) Bors.nil))))) <|
      (TR.d (r := b true) (fs := []) rfl rfl (TOp.eqb (TOp.callB (CallAs.func ent9 rfl rfl) (Bors.cons (Bor.agg (Bors.cons (Bor.pure rfl) (Bors.cons (Bor.pure rfl) (Bors.cons (Bor.own (f := f32) (fun _ => rfl) rfl rfl) Bors.nil)))) (Bors.cons (Bor.agg (Bors.cons (Bor.pure rfl) (Bors.cons (Bor.pure rfl) (Bors.cons (Bor.sl (fun _ => rfl)) Bors.nil)))) Bors.nil)) rfl rfl (w_eqMatrix_ok r9 r10 r11 r17 r18 r19 r20 hf11)) hc12) <|
      (TR.l (r := b false) rfl rfl (LOp.eqb (LOp.not rfl rfl) rfl) <|
      TR.nil))))) rfl (by kernel_rfl) rfl fills_nil rfl ?_
     iterate 5 refine ROps.dropS ?_
     refine ROps.drop0 ?_
     refine zN ?_
     refine RunC.cond_false rfl rfl ?_
     refine RunC.skip ?_
     refine RunC.wl (τ' := [(1, i64 a3), (2, i64 a4), (3, ptr [i64 a0, i64 a1, sl a2.length (a2.map f32)]), (8, optr 2 1 0), (9, b r7), (10, optr 3 1 0), (11, optr 5 1 0), (12, b r14)]) (Γ' := [⟨2, some (r11.map f32)⟩, ⟨1, some (r8.map f32)⟩, ⟨1, some [i64 r5, i64 r6, oref 1 1 0 r8.length]⟩, ⟨1, some [i64 r9, i64 r10, oref 0 2 0 r11.length]⟩, ⟨1, some (r15.map f32)⟩, ⟨1, some [i64 r12, i64 r13, oref 4 1 0 r15.length]⟩, ⟨0, none⟩]) ⟨aR, aR, aR, aR, aR, aR, aR, aR, trivial⟩ ⟨⟨rfl, .inr rfl⟩, ⟨rfl, .inr rfl⟩, ⟨rfl, .inr rfl⟩, ⟨rfl, .inr rfl⟩, ⟨rfl, .inr rfl⟩, ⟨rfl, .inr rfl⟩, ⟨rfl, .inr rfl⟩, trivial⟩ ?_
     refine zQ ?_
     refine zA (r := i64 1) rfl rfl rfl rfl rfl ?_
     refine zN ?_
     refine RunC.seq ?_
     obtain ⟨r21, r22, hf13, h⟩ := obind2_some h
     obtain ⟨hn14, h⟩ := need_some h
     refine RunC.regionW ?_
     refine ROps.d (r := agg [i64 r9, i64 r10, oref 0 2 0 r11.length]) (fs := []) (Γ' := [⟨2, some (r11.map f32)⟩, ⟨1, some (r8.map f32)⟩, ⟨1, some [i64 r5, i64 r6, oref 1 1 0 r8.length]⟩, ⟨1, some [i64 r9, i64 r10, oref 0 2 0 r11.length]⟩, ⟨1, some (r15.map f32)⟩, ⟨1, some [i64 r12, i64 r13, oref 4 1 0 r15.length]⟩, ⟨0, none⟩]) rfl rfl rfl (TOp.loadAgg_o rfl agg26 siz26 rfl rfl rfl rfl) rfl ?_
     refine zM (r := i64 1) rfl rfl rfl rfl rfl ?_
     refine ROps.callO (A := [agg [i64 r9, i64 r10, oref 0 2 0 r11.length], i64 1]) (args := [agg [i64 r9, i64 r10, oref 0 0 0 r11.length], i64 1]) (Γc := [⟨0, some (r11.map f32)⟩]) (Γc' := [⟨0, some (r22.map f32)⟩]) (r' := i64 r21) (Γ' := [⟨2, some (r22.map f32)⟩, ⟨1, some (r8.map f32)⟩, ⟨1, some [i64 r5, i64 r6, oref 1 1 0 r8.length]⟩, ⟨1, some [i64 r9, i64 r10, oref 0 2 0 r11.length]⟩, ⟨1, some (r15.map f32)⟩, ⟨1, some [i64 r12, i64 r13, oref 4 1 0 r15.length]⟩, ⟨0, none⟩]) [(0, 2)] [] rfl (CallAs.func ent10 rfl rfl) rfl rfl (SelOk.of (show List.Nodup [0] from by decide) (SelL.arr0 (f := f32) (fun _ => rfl) rfl trivial)) (live_of ⟨⟨_, _, rfl⟩, trivial⟩) (by simp [ren, rens, sigma, rens_f32, rens_f64, rens_i64, rens_ik, rens_str, rens_cp]) rfl (w_markMatrix_02o_ok r9 r10 1 r11 r21 r22 hf13) rfl (news_of trivial) (show List.Nodup [0] from by decide) (by simp [ren, rens, sigma, of_decide_eq_true hn14]) (by simp [backOb, sigma, ren, rens, rens_f32, rens_f64, rens_i64, rens_ik, rens_str, rens_cp]) ?_
     refine zA (r := i64 r21) rfl rfl rfl rfl rfl ?_
     refine zN ?_
     refine RunC.wl (τ' := [(1, i64 a3), (2, i64 a4), (3, ptr [i64 a0, i64 a1, sl a2.length (a2.map f32)]), (8, optr 2 1 0), (9, b r7), (11, optr 5 1 0), (12, b r14), (13, i64 r21)]) (Γ' := [⟨2, none⟩, ⟨1, some (r8.map f32)⟩, ⟨1, some [i64 r5, i64 r6, oref 1 1 0 r8.length]⟩, ⟨1, none⟩, ⟨1, some (r15.map f32)⟩, ⟨1, some [i64 r12, i64 r13, oref 4 1 0 r15.length]⟩, ⟨0, none⟩]) ⟨aR, aR, aR, aR, aR, aR, aR, aR, trivial⟩ ⟨⟨rfl, .inl rfl⟩, ⟨rfl, .inr rfl⟩, ⟨rfl, .inr rfl⟩, ⟨rfl, .inl rfl⟩, ⟨rfl, .inr rfl⟩, ⟨rfl, .inr rfl⟩, ⟨rfl, .inr rfl⟩, trivial⟩ ?_
     refine RunC.seq ?_
     refine RunC.seq ?_
     rcases bsel_some h with ⟨hc15, h⟩ | ⟨hc15, h⟩
     ·refine RunC.regionW ?_
      refine zM (r := i64 r21) rfl rfl rfl rfl rfl ?_
      refine zL (r := b true) rfl rfl rfl (LOp.eqb (LOp.lss rfl rfl rfl) hc15) ?_
      refine zM (r := b true) rfl rfl rfl rfl rfl ?_
      refine ROps.s rfl rfl rfl ?_
      refine ROps.s rfl rfl rfl ?_
      refine ROps.s rfl rfl rfl ?_
      refine ROps.s rfl rfl rfl ?_
      refine zL (r := b true) rfl rfl rfl (LOp.pick_true rfl rfl rfl) ?_
      refine zM (r := b true) rfl rfl rfl rfl rfl ?_
      refine ROps.s rfl rfl rfl ?_
      refine ROps.s rfl rfl rfl ?_
      refine ROps.s rfl rfl rfl ?_
      refine zL (r := b true) rfl rfl rfl (LOp.pick_true rfl rfl rfl) ?_
      refine zN ?_
      refine RunC.cond_true rfl rfl ?_
      refine zQ ?_
      refine zA (r := b false) rfl rfl rfl rfl rfl ?_
      refine zN ?_
      refine RunC.ret ?_
      have hq := Option.some.inj h
      subst q0
      exact bodyQ.pure (.inr rfl) rfl (Res.one rfl (RV.tmp rfl))
     ·obtain ⟨r23, hf16, h⟩ := obind_some h
      rcases bsel_some h with ⟨hc17, h⟩ | ⟨hc17, h⟩
      ·refine RunC.regionW ?_
       refine zM (r := i64 r21) rfl rfl rfl rfl rfl ?_
       refine zL (r := b false) rfl rfl rfl (LOp.eqb (LOp.lss rfl rfl rfl) hc15) ?_
       refine zM (r := b false) rfl rfl rfl rfl rfl ?_
       refine ROps.d (r := agg [i64 r12, i64 r13, oref 4 1 0 r15.length]) (fs := []) (Γ' := [⟨2, none⟩, ⟨1, some (r8.map f32)⟩, ⟨1, some [i64 r5, i64 r6, oref 1 1 0 r8.length]⟩, ⟨1, none⟩, ⟨1, some (r15.map f32)⟩, ⟨1, some [i64 r12, i64 r13, oref 4 1 0 r15.length]⟩, ⟨0, none⟩]) rfl rfl rfl (TOp.loadAgg_o rfl agg26 siz26 rfl rfl rfl rfl) rfl ?_
       refine ROps.d (r := agg [i64 r5, i64 r6, oref 1 1 0 r8.length]) (fs := []) (Γ' := [⟨2, none⟩, ⟨1, some (r8.map f32)⟩, ⟨1, some [i64 r5, i64 r6, oref 1 1 0 r8.length]⟩, ⟨1, none⟩, ⟨1, some (r15.map f32)⟩, ⟨1, some [i64 r12, i64 r13, oref 4 1 0 r15.length]⟩, ⟨0, none⟩]) rfl rfl rfl (TOp.loadAgg_o rfl agg26 siz26 rfl rfl rfl rfl) rfl ?_
       refine ROps.d (r := b true) (fs := []) (Γ' := [⟨2, none⟩, ⟨1, some (r8.map f32)⟩, ⟨1, some [i64 r5, i64 r6, oref 1 1 0 r8.length]⟩, ⟨1, none⟩, ⟨1, some (r15.map f32)⟩, ⟨1, some [i64 r12, i64 r13, oref 4 1 0 r15.length]⟩, ⟨0, none⟩]) rfl rfl rfl (TOp.eqb (TOp.callB (CallAs.func ent9 rfl rfl) (Bors.cons (Bor.agg (Bors.cons (Bor.pure rfl) (Bors.cons (Bor.pure rfl) (Bors.cons (Bor.own (f := f32) (fun _ => rfl) rfl rfl) Bors.nil)))) (Bors.cons (Bor.agg (Bors.cons (Bor.pure rfl) (Bors.cons (Bor.pure rfl) (Bors.cons (Bor.own (f := f32) (fun _ => rfl) rfl rfl) Bors.nil)))) Bors.nil)) rfl rfl (w_eqMatrix_ok r12 r13 r15 r5 r6 r8 r23 hf16)) hc17) rfl ?_
       refine zL (r := b false) rfl rfl rfl (LOp.eqb (LOp.not rfl rfl) rfl) ?_
       refine zL (r := b false) rfl rfl rfl (LOp.pick_false rfl rfl rfl) ?_
       refine zM (r := b false) rfl rfl rfl rfl rfl ?_
       refine zM (r := b r14) rfl rfl rfl rfl rfl ?_
       refine zM (r := b r7) rfl rfl rfl rfl rfl ?_
       refine zL (r := b false) rfl rfl rfl (LOp.eqb (LOp.neqb pun4 rfl rfl rfl) hc9) ?_
       refine zL (r := b false) rfl rfl rfl (LOp.pick_false rfl rfl rfl) ?_
       refine zN ?_
       refine RunC.cond_false rfl rfl ?_
       refine RunC.skip ?_
       refine zQ ?_
       refine zA (r := i64 1) rfl rfl rfl rfl rfl ?_
       refine zN ?_
       refine RunC.seq ?_
       obtain ⟨r24, r25, hf18, h⟩ := obind2_some h
       obtain ⟨hn19, h⟩ := need_some h
       refine RunC.regionW ?_
       refine ROps.d (r := agg [i64 r12, i64 r13, oref 4 1 0 r15.length]) (fs := []) (Γ' := [⟨2, none⟩, ⟨1, some (r8.map f32)⟩, ⟨1, some [i64 r5, i64 r6, oref 1 1 0 r8.length]⟩, ⟨1, none⟩, ⟨1, some (r15.map f32)⟩, ⟨1, some [i64 r12, i64 r13, oref 4 1 0 r15.length]⟩, ⟨0, none⟩]) rfl rfl rfl (TOp.loadAgg_o rfl agg26 siz26 rfl rfl rfl rfl) rfl ?_
       refine zM (r := i64 1) rfl rfl rfl rfl rfl ?_
       refine ROps.callO (A := [agg [i64 r12, i64 r13, oref 4 1 0 r15.length], i64 1]) (args := [agg [i64 r12, i64 r13, oref 0 0 0 r15.length], i64 1]) (Γc := [⟨0, some (r15.map f32)⟩]) (Γc' := [⟨0, some (r25.map f32)⟩]) (r' := i64 r24) (Γ' := [⟨2, none⟩, ⟨1, some (r8.map f32)⟩, ⟨1, some [i64 r5, i64 r6, oref 1 1 0 r8.length]⟩, ⟨1, none⟩, ⟨1, some (r25.map f32)⟩, ⟨1, some [i64 r12, i64 r13, oref 4 1 0 r15.length]⟩, ⟨0, none⟩]) [(4, 1)] [] rfl (CallAs.func ent10 rfl rfl) rfl rfl (SelOk.of (show List.Nodup [4] from by decide) (SelL.arr0 (f := f32) (fun _ => rfl) rfl trivial)) (live_of ⟨⟨_, _, rfl⟩, trivial⟩) (by simp [ren, rens, sigma, rens_f32, rens_f64, rens_i64, rens_ik, rens_str, rens_cp]) rfl (w_markMatrix_02o_ok r12 r13 1 r15 r24 r25 hf18) rfl (news_of trivial) (show List.Nodup [4] from by decide) (by simp [ren, rens, sigma, of_decide_eq_true hn19]) (by simp [backOb, sigma, ren, rens, rens_f32, rens_f64, rens_i64, rens_ik, rens_str, rens_cp]) ?_
       refine zA (r := i64 r24) rfl rfl rfl rfl rfl ?_
       refine zN ?_
       refine RunC.wl (τ' := [(1, i64 a3), (2, i64 a4), (3, ptr [i64 a0, i64 a1, sl a2.length (a2.map f32)]), (8, optr 2 1 0), (9, b r7), (11, optr 5 1 0), (14, i64 r24)]) (Γ' := [⟨2, none⟩, ⟨1, some (r8.map f32)⟩, ⟨1, some [i64 r5, i64 r6, oref 1 1 0 r8.length]⟩, ⟨1, none⟩, ⟨1, some (r25.map f32)⟩, ⟨1, some [i64 r12, i64 r13, oref 4 1 0 r15.length]⟩, ⟨0, none⟩]) ⟨aR, aR, aR, aR, aR, aR, aR, trivial⟩ ⟨⟨rfl, .inl rfl⟩, ⟨rfl, .inr rfl⟩, ⟨rfl, .inr rfl⟩, ⟨rfl, .inl rfl⟩, ⟨rfl, .inr rfl⟩, ⟨rfl, .inr rfl⟩, ⟨rfl, .inr rfl⟩, trivial⟩ ?_
       refine zQ ?_
       refine zA (r := i64 1) rfl rfl rfl rfl rfl ?_
       refine zN ?_
       refine RunC.seq ?_
       obtain ⟨r26, hf20, h⟩ := obind_some h
       refine RunC.regionW ?_
       refine ROps.d (r := agg [i64 r12, i64 r13, oref 4 1 0 r15.length]) (fs := []) (Γ' := [⟨2, none⟩, ⟨1, some (r8.map f32)⟩, ⟨1, some [i64 r5, i64 r6, oref 1 1 0 r8.length]⟩, ⟨1, none⟩, ⟨1, some (r25.map f32)⟩, ⟨1, some [i64 r12, i64 r13, oref 4 1 0 r15.length]⟩, ⟨0, none⟩]) rfl rfl rfl (TOp.loadAgg_o rfl agg26 siz26 rfl rfl rfl rfl) rfl ?_
       refine zM (r := i64 1) rfl rfl rfl rfl rfl ?_
       refine ROps.d (r := i64 r26) (fs := []) (Γ' := [⟨2, none⟩, ⟨1, some (r8.map f32)⟩, ⟨1, some [i64 r5, i64 r6, oref 1 1 0 r8.length]⟩, ⟨1, none⟩, ⟨1, some (r25.map f32)⟩, ⟨1, some [i64 r12, i64 r13, oref 4 1 0 r15.length]⟩, ⟨0, none⟩]) rfl rfl rfl (TOp.callB (CallAs.func ent11 rfl rfl) (Bors.cons (Bor.agg (Bors.cons (Bor.pure rfl) (Bors.cons (Bor.pure rfl) (Bors.cons (Bor.own (f := f32) (fun _ => rfl) rfl (of_decide_eq_true hn19)) Bors.nil)))) (Bors.cons (Bor.pure rfl) Bors.nil)) rfl rfl (w_heldMatrix_ok r12 r13 r25 1 r26 hf20)) rfl ?_
       refine zA (r := i64 r26) rfl rfl rfl rfl rfl ?_
       refine zN ?_
       refine RunC.seq ?_
       refine RunC.seq ?_
       rcases bsel_some h with ⟨hc21, h⟩ | ⟨hc21, h⟩
       ·refine RunC.regionW ?_
        refine zM (r := i64 r26) rfl rfl rfl rfl rfl ?_
        refine zL (r := b true) rfl rfl rfl (LOp.eqb (LOp.lss rfl rfl rfl) hc21) ?_
        refine zN ?_
        refine RunC.cond_true rfl rfl ?_
        refine zQ ?_
        refine zA (r := b false) rfl rfl rfl rfl rfl ?_
        refine zN ?_
        refine RunC.ret ?_
        have hq := Option.some.inj h
        subst q0
        exact bodyQ.pure (.inr rfl) rfl (Res.one rfl (RV.tmp rfl))
       ·refine RunC.regionW ?_
        refine zM (r := i64 r26) rfl rfl rfl rfl rfl ?_
        refine zL (r := b false) rfl rfl rfl (LOp.eqb (LOp.lss rfl rfl rfl) hc21) ?_
        refine zN ?_
        refine RunC.cond_false rfl rfl ?_
        refine RunC.skip ?_
        refine RunC.seq ?_
        refine RunC.seq ?_
        rcases bsel_some h with ⟨hc22, h⟩ | ⟨hc22, h⟩
        ·refine RunC.regionW ?_
         refine zM (r := i64 r26) rfl rfl rfl rfl rfl ?_
         refine zM (r := i64 r24) rfl rfl rfl rfl rfl ?_
         refine zL (r := b true) rfl rfl rfl (LOp.eqb (LOp.neq rfl rfl rfl) hc22) ?_
         refine zN ?_
         refine RunC.cond_true rfl rfl ?_
         refine zQ ?_
         refine zA (r := b false) rfl rfl rfl rfl rfl ?_
         refine zN ?_
         refine RunC.ret ?_
         have hq := Option.some.inj h
         subst q0
         exact bodyQ.pure (.inr rfl) rfl (Res.one rfl (RV.tmp rfl))
        ·refine RunC.regionW ?_
         refine zM (r := i64 r26) rfl rfl rfl rfl rfl ?_
         refine zM (r := i64 r24) rfl rfl rfl rfl rfl ?_
         refine zL (r := b false) rfl rfl rfl (LOp.eqb (LOp.neq rfl rfl rfl) hc22) ?_
         refine zN ?_
         refine RunC.cond_false rfl rfl ?_
         refine RunC.skip ?_
         refine RunC.seq ?_
         obtain ⟨r27, r28, r29, hf23, h⟩ := obind3_some h
         obtain ⟨r30, r31, r32, r33, hf24, h⟩ := obind4_some h
         refine RunC.regionW ?_
         refine zL (r := agg [i64 a0, i64 a1, sl a2.length (a2.map f32)]) rfl rfl rfl (LOp.loadAgg agg24 siz24 rfl rfl rfl rfl) ?_
         refine ROps.d (r := agg [i64 r27, i64 r28, oref 0 3 0 r29.length]) (fs := [(0, (r29.map f32))]) (Γ' := [⟨3, some (r29.map f32)⟩, ⟨1, some (r8.map f32)⟩, ⟨1, some [i64 r5, i64 r6, oref 1 1 0 r8.length]⟩, ⟨1, none⟩, ⟨1, some (r25.map f32)⟩, ⟨1, some [i64 r12, i64 r13, oref 4 1 0 r15.length]⟩, ⟨0, none⟩]) rfl rfl rfl (TOp.callBN (ls := [(r29.map f32)]) [0] (CallAs.func ent7 rfl rfl) (Bors.cons (Bor.agg (Bors.cons (Bor.pure rfl) (Bors.cons (Bor.pure rfl) (Bors.cons (Bor.sl (fun _ => rfl)) Bors.nil)))) Bors.nil) rfl (w_toMatrix_ok a0 a1 a2 r27 r28 r29 hf23) (and_all (lts0_map (f := f32) (fun _ => rfl) _) rfl) (and_all (noss_map (f := f32) (fun _ => rfl) _) rfl) rfl (by decide) (ns_of ⟨⟨_, rfl⟩, trivial⟩)) rfl ?_
         refine zM (r := i64 a3) rfl rfl rfl rfl rfl ?_
         refine zM (r := i64 a4) rfl rfl rfl rfl rfl ?_
         refine ROps.d (r := tup [agg [i64 r30, i64 r31, oref 3 2 0 r33.length], b r32]) (fs := [(3, (r33.map f32))]) (Γ' := [⟨3, some (r29.map f32)⟩, ⟨1, some (r8.map f32)⟩, ⟨1, some [i64 r5, i64 r6, oref 1 1 0 r8.length]⟩, ⟨2, some (r33.map f32)⟩, ⟨1, some (r25.map f32)⟩, ⟨1, some [i64 r12, i64 r13, oref 4 1 0 r15.length]⟩, ⟨0, none⟩]) rfl rfl rfl (TOp.callBN (ls := [(r33.map f32)]) [3] (CallAs.func ent8 rfl rfl) (Bors.cons (Bor.agg (Bors.cons (Bor.pure rfl) (Bors.cons (Bor.pure rfl) (Bors.cons (Bor.own (f := f32) (fun _ => rfl) rfl rfl) Bors.nil)))) (Bors.cons (Bor.pure rfl) (Bors.cons (Bor.pure rfl) Bors.nil))) rfl (i_LowMatrix_ok r27 r28 r29 a3 a4 r30 r31 r32 r33 hf24) (and_all (lts0_map (f := f32) (fun _ => rfl) _) rfl) (and_all (noss_map (f := f32) (fun _ => rfl) _) rfl) rfl (by decide) (ns_of ⟨⟨_, rfl⟩, trivial⟩)) rfl ?_
         refine zM (r := tup [agg [i64 r30, i64 r31, oref 3 2 0 r33.length], b r32]) rfl rfl rfl rfl rfl ?_
         refine zL (r := agg [i64 r30, i64 r31, oref 3 2 0 r33.length]) rfl rfl rfl (LOp.extract rfl rfl rfl) ?_
         refine zL (r := b r32) rfl rfl rfl (LOp.extract rfl rfl rfl) ?_
         refine ROps.d (r := optr 6 1 0) (fs := [(6, [i64 0, i64 0, nilsl])]) (Γ' := [⟨3, some (r29.map f32)⟩, ⟨1, some (r8.map f32)⟩, ⟨1, some [i64 r5, i64 r6, oref 1 1 0 r8.length]⟩, ⟨2, some (r33.map f32)⟩, ⟨1, some (r25.map f32)⟩, ⟨1, some [i64 r12, i64 r13, oref 4 1 0 r15.length]⟩, ⟨1, some [i64 0, i64 0, nilsl]⟩]) rfl rfl rfl (TOp.alloc_o (g := ⟨0, none⟩) 6 rfl zer26 zok26 rfl) rfl ?_
         refine ROps.store_le (r := agg [i64 r30, i64 r31, oref 3 2 0 r33.length]) (l' := [i64 r30, i64 r31, oref 3 2 0 r33.length]) (Γ' := [⟨3, some (r29.map f32)⟩, ⟨1, some (r8.map f32)⟩, ⟨1, some [i64 r5, i64 r6, oref 1 1 0 r8.length]⟩, ⟨2, some (r33.map f32)⟩, ⟨1, some (r25.map f32)⟩, ⟨1, some [i64 r12, i64 r13, oref 4 1 0 r15.length]⟩, ⟨1, some [i64 r30, i64 r31, oref 3 2 0 r33.length]⟩]) rfl siz26 rfl rfl rfl aR rfl rfl rfl rfl (Nat.le_of_ble_eq_true rfl) rfl rfl ?_
         refine zA (r := b r32) rfl rfl rfl rfl rfl ?_
         refine zN ?_
         refine RunC.wl (τ' := [(8, optr 2 1 0), (9, b r7), (11, optr 5 1 0), (14, i64 r24), (16, optr 6 1 0), (17, b r32)]) (Γ' := [⟨3, none⟩, ⟨1, some (r8.map f32)⟩, ⟨1, some [i64 r5, i64 r6, oref 1 1 0 r8.length]⟩, ⟨2, some (r33.map f32)⟩, ⟨1, some (r25.map f32)⟩, ⟨1, some [i64 r12, i64 r13, oref 4 1 0 r15.length]⟩, ⟨1, some [i64 r30, i64 r31, oref 3 2 0 r33.length]⟩]) ⟨aR, aR, aR, aR, aR, aR, trivial⟩ ⟨⟨rfl, .inl rfl⟩, ⟨rfl, .inr rfl⟩, ⟨rfl, .inr rfl⟩, ⟨rfl, .inr rfl⟩, ⟨rfl, .inr rfl⟩, ⟨rfl, .inr rfl⟩, ⟨rfl, .inr rfl⟩, trivial⟩ ?_
         refine RunC.seq ?_
         refine RunC.seq ?_
         obtain ⟨r34, hf25, h⟩ := obind_some h
         rcases bsel_some h with ⟨hc26, h⟩ | ⟨hc26, h⟩
         ·rcases bsel_some h with ⟨hc27, h⟩ | ⟨hc27, h⟩
          ·refine RunC.regionW ?_
           refine ROps.d (r := agg [i64 r30, i64 r31, oref 3 2 0 r33.length]) (fs := []) (Γ' := [⟨3, none⟩, ⟨1, some (r8.map f32)⟩, ⟨1, some [i64 r5, i64 r6, oref 1 1 0 r8.length]⟩, ⟨2, some (r33.map f32)⟩, ⟨1, some (r25.map f32)⟩, ⟨1, some [i64 r12, i64 r13, oref 4 1 0 r15.length]⟩, ⟨1, some [i64 r30, i64 r31, oref 3 2 0 r33.length]⟩]) rfl rfl rfl (TOp.loadAgg_o rfl agg26 siz26 rfl rfl rfl rfl) rfl ?_
           refine ROps.d (r := agg [i64 r5, i64 r6, oref 1 1 0 r8.length]) (fs := []) (Γ' := [⟨3, none⟩, ⟨1, some (r8.map f32)⟩, ⟨1, some [i64 r5, i64 r6, oref 1 1 0 r8.length]⟩, ⟨2, some (r33.map f32)⟩, ⟨1, some (r25.map f32)⟩, ⟨1, some [i64 r12, i64 r13, oref 4 1 0 r15.length]⟩, ⟨1, some [i64 r30, i64 r31, oref 3 2 0 r33.length]⟩]) rfl rfl rfl (TOp.loadAgg_o rfl agg26 siz26 rfl rfl rfl rfl) rfl ?_
           refine ROps.d (r := b true) (fs := []) (Γ' := [⟨3, none⟩, ⟨1, some (r8.map f32)⟩, ⟨1, some [i64 r5, i64 r6, oref 1 1 0 r8.length]⟩, ⟨2, some (r33.map f32)⟩, ⟨1, some (r25.map f32)⟩, ⟨1, some [i64 r12, i64 r13, oref 4 1 0 r15.length]⟩, ⟨1, some [i64 r30, i64 r31, oref 3 2 0 r33.length]⟩]) rfl rfl rfl (TOp.eqb (TOp.callB (CallAs.func ent9 rfl rfl) (Bors.cons (Bor.agg (Bors.cons (Bor.pure rfl) (Bors.cons (Bor.pure rfl) (Bors.cons (Bor.own (f := f32) (fun _ => rfl) rfl rfl) Bors.nil)))) (Bors.cons (Bor.agg (Bors.cons (Bor.pure rfl) (Bors.cons (Bor.pure rfl) (Bors.cons (Bor.own (f := f32) (fun _ => rfl) rfl rfl) Bors.nil)))) Bors.nil)) rfl rfl (w_eqMatrix_ok r30 r31 r33 r5 r6 r8 r34 hf25)) hc26) rfl ?_
           refine zL (r := b false) rfl rfl rfl (LOp.eqb (LOp.not rfl rfl) rfl) ?_
           refine zM (r := b false) rfl rfl rfl rfl rfl ?_
           refine zM (r := b r32) rfl rfl rfl rfl rfl ?_
           refine zM (r := b r7) rfl rfl rfl rfl rfl ?_
           refine zL (r := b true) rfl rfl rfl (LOp.eqb (LOp.neqb pun4 rfl rfl rfl) hc27) ?_
           refine zL (r := b true) rfl rfl rfl (LOp.pick_false rfl rfl rfl) ?_
           refine zN ?_
           refine RunC.wl (τ' := [(11, optr 5 1 0), (14, i64 r24), (97, b true)]) (Γ' := [⟨3, none⟩, ⟨1, none⟩, ⟨1, none⟩, ⟨2, none⟩, ⟨1, some (r25.map f32)⟩, ⟨1, some [i64 r12, i64 r13, oref 4 1 0 r15.length]⟩, ⟨1, none⟩]) ⟨aR, aR, aR, trivial⟩ ⟨⟨rfl, .inl rfl⟩, ⟨rfl, .inl rfl⟩, ⟨rfl, .inl rfl⟩, ⟨rfl, .inl rfl⟩, ⟨rfl, .inr rfl⟩, ⟨rfl, .inr rfl⟩, ⟨rfl, .inl rfl⟩, trivial⟩ ?_
           refine RunC.cond_true rfl rfl ?_
           refine zQ ?_
           refine zA (r := b false) rfl rfl rfl rfl rfl ?_
           refine zN ?_
           refine RunC.ret ?_
           have hq := Option.some.inj h
           subst q0
           exact bodyQ.pure (.inr rfl) rfl (Res.one rfl (RV.tmp rfl))
          ·refine RunC.regionW ?_
           refine ROps.d (r := agg [i64 r30, i64 r31, oref 3 2 0 r33.length]) (fs := []) (Γ' := [⟨3, none⟩, ⟨1, some (r8.map f32)⟩, ⟨1, some [i64 r5, i64 r6, oref 1 1 0 r8.length]⟩, ⟨2, some (r33.map f32)⟩, ⟨1, some (r25.map f32)⟩, ⟨1, some [i64 r12, i64 r13, oref 4 1 0 r15.length]⟩, ⟨1, some [i64 r30, i64 r31, oref 3 2 0 r33.length]⟩]) rfl rfl rfl (TOp.loadAgg_o rfl agg26 siz26 rfl rfl rfl rfl) rfl ?_
           refine ROps.d (r := agg [i64 r5, i64 r6, oref 1 1 0 r8.length]) (fs := []) (Γ' := [⟨3, none⟩, ⟨1, some (r8.map f32)⟩, ⟨1, some [i64 r5, i64 r6, oref 1 1 0 r8.length]⟩, ⟨2, some (r33.map f32)⟩, ⟨1, some (r25.map f32)⟩, ⟨1, some [i64 r12, i64 r13, oref 4 1 0 r15.length]⟩, ⟨1, some [i64 r30, i64 r31, oref 3 2 0 r33.length]⟩]) rfl rfl rfl (TOp.loadAgg_o rfl agg26 siz26 rfl rfl rfl rfl) rfl ?_
           refine ROps.d (r := b true) (fs := []) (Γ' := [⟨3, none⟩, ⟨1, some (r8.map f32)⟩, ⟨1, some [i64 r5, i64 r6, oref 1 1 0 r8.length]⟩, ⟨2, some (r33.map f32)⟩, ⟨1, some (r25.map f32)⟩, ⟨1, some [i64 r12, i64 r13, oref 4 1 0 r15.length]⟩, ⟨1, some [i64 r30, i64 r31, oref 3 2 0 r33.length]⟩]) rfl rfl rfl (TOp.eqb (TOp.callB (CallAs.func ent9 rfl rfl) (Bors.cons (Bor.agg (Bors.cons (Bor.pure rfl) (Bors.cons (Bor.pure rfl) (Bors.cons (Bor.own (f := f32) (fun _ => rfl) rfl rfl) Bors.nil)))) (Bors.cons (Bor.agg (Bors.cons (Bor.pure rfl) (Bors.cons (Bor.pure rfl) (Bors.cons (Bor.own (f := f32) (fun _ => rfl) rfl rfl) Bors.nil)))) Bors.nil)) rfl rfl (w_eqMatrix_ok r30 r31 r33 r5 r6 r8 r34 hf25)) hc26) rfl ?_
           refine zL (r := b false) rfl rfl rfl (LOp.eqb (LOp.not rfl rfl) rfl) ?_
           refine zM (r := b false) rfl rfl rfl rfl rfl ?_
           refine zM (r := b r32) rfl rfl rfl rfl rfl ?_
           refine zM (r := b r7) rfl rfl rfl rfl rfl ?_
           refine zL (r := b false) rfl rfl rfl (LOp.eqb (LOp.neqb pun4 rfl rfl rfl) hc27) ?_
           refine zL (r := b false) rfl rfl rfl (LOp.pick_false rfl rfl rfl) ?_
           refine zN ?_
           refine RunC.wl (τ' := [(11, optr 5 1 0), (14, i64 r24), (97, b false)]) (Γ' := [⟨3, none⟩, ⟨1, none⟩, ⟨1, none⟩, ⟨2, none⟩, ⟨1, some (r25.map f32)⟩, ⟨1, some [i64 r12, i64 r13, oref 4 1 0 r15.length]⟩, ⟨1, none⟩]) ⟨aR, aR, aR, trivial⟩ ⟨⟨rfl, .inl rfl⟩, ⟨rfl, .inl rfl⟩, ⟨rfl, .inl rfl⟩, ⟨rfl, .inl rfl⟩, ⟨rfl, .inr rfl⟩, ⟨rfl, .inr rfl⟩, ⟨rfl, .inl rfl⟩, trivial⟩ ?_
           refine RunC.cond_false rfl rfl ?_
           refine RunC.skip ?_
           refine zQ ?_
           refine zA (r := i64 1) rfl rfl rfl rfl rfl ?_
           refine zN ?_
           refine RunC.seq ?_
           obtain ⟨r35, hf28, h⟩ := obind_some h
           refine RunC.regionW ?_
           refine ROps.d (r := agg [i64 r12, i64 r13, oref 4 1 0 r15.length]) (fs := []) (Γ' := [⟨3, none⟩, ⟨1, none⟩, ⟨1, none⟩, ⟨2, none⟩, ⟨1, some (r25.map f32)⟩, ⟨1, some [i64 r12, i64 r13, oref 4 1 0 r15.length]⟩, ⟨1, none⟩]) rfl rfl rfl (TOp.loadAgg_o rfl agg26 siz26 rfl rfl rfl rfl) rfl ?_
           refine zM (r := i64 1) rfl rfl rfl rfl rfl ?_
           refine ROps.d (r := i64 r35) (fs := []) (Γ' := [⟨3, none⟩, ⟨1, none⟩, ⟨1, none⟩, ⟨2, none⟩, ⟨1, some (r25.map f32)⟩, ⟨1, some [i64 r12, i64 r13, oref 4 1 0 r15.length]⟩, ⟨1, none⟩]) rfl rfl rfl (TOp.callB (CallAs.func ent11 rfl rfl) (Bors.cons (Bor.agg (Bors.cons (Bor.pure rfl) (Bors.cons (Bor.pure rfl) (Bors.cons (Bor.own (f := f32) (fun _ => rfl) rfl (of_decide_eq_true hn19)) Bors.nil)))) (Bors.cons (Bor.pure rfl) Bors.nil)) rfl rfl (w_heldMatrix_ok r12 r13 r25 1 r35 hf28)) rfl ?_
           refine zA (r := i64 r35) rfl rfl rfl rfl rfl ?_
           refine zN ?_
           refine RunC.wl (τ' := [(14, i64 r24), (15, i64 r35)]) (Γ' := [⟨3, none⟩, ⟨1, none⟩, ⟨1, none⟩, ⟨2, none⟩, ⟨1, none⟩, ⟨1, none⟩, ⟨1, none⟩]) ⟨aR, aR, trivial⟩ ⟨⟨rfl, .inl rfl⟩, ⟨rfl, .inl rfl⟩, ⟨rfl, .inl rfl⟩, ⟨rfl, .inl rfl⟩, ⟨rfl, .inl rfl⟩, ⟨rfl, .inl rfl⟩, ⟨rfl, .inl rfl⟩, trivial⟩ ?_
           refine RunC.seq ?_
           refine RunC.seq ?_
           rcases bsel_some h with ⟨hc29, h⟩ | ⟨hc29, h⟩
           ·refine RunC.regionW ?_
            refine zM (r := i64 r35) rfl rfl rfl rfl rfl ?_
            refine zL (r := b true) rfl rfl rfl (LOp.eqb (LOp.lss rfl rfl rfl) hc29) ?_
            refine zN ?_
            refine RunC.cond_true rfl rfl ?_
            refine zQ ?_
            refine zA (r := b false) rfl rfl rfl rfl rfl ?_
            refine zN ?_
            refine RunC.ret ?_
            have hq := Option.some.inj h
            subst q0
            exact bodyQ.pure (.inr rfl) rfl (Res.one rfl (RV.tmp rfl))
           ·refine RunC.regionW ?_
            refine zM (r := i64 r35) rfl rfl rfl rfl rfl ?_
            refine zL (r := b false) rfl rfl rfl (LOp.eqb (LOp.lss rfl rfl rfl) hc29) ?_
            refine zN ?_
            refine RunC.cond_false rfl rfl ?_
            refine RunC.skip ?_
            refine RunC.seq ?_
            refine RunC.seq ?_
            rcases bsel_some h with ⟨hc30, h⟩ | ⟨hc30, h⟩
            ·refine RunC.regionW ?_
             refine zM (r := i64 r35) rfl rfl rfl rfl rfl ?_
             refine zM (r := i64 r24) rfl rfl rfl rfl rfl ?_
             refine zL (r := b true) rfl rfl rfl (LOp.eqb (LOp.neq rfl rfl rfl) hc30) ?_
             refine zN ?_
             refine RunC.cond_true rfl rfl ?_
             refine zQ ?_
             refine zA (r := b false) rfl rfl rfl rfl rfl ?_
             refine zN ?_
             refine RunC.ret ?_
             have hq := Option.some.inj h
             subst q0
             exact bodyQ.pure (.inr rfl) rfl (Res.one rfl (RV.tmp rfl))
            ·refine RunC.regionW ?_
             refine zM (r := i64 r35) rfl rfl rfl rfl rfl ?_
             refine zM (r := i64 r24) rfl rfl rfl rfl rfl ?_
             refine zL (r := b false) rfl rfl rfl (LOp.eqb (LOp.neq rfl rfl rfl) hc30) ?_
             refine zN ?_
             refine RunC.cond_false rfl rfl ?_
             refine RunC.skip ?_
             refine zQ ?_
             refine zA (r := b true) rfl rfl rfl rfl rfl ?_
             refine zN ?_
             refine RunC.ret ?_
             have hq := Option.some.inj h
             subst q0
             exact bodyQ.pure (.inr rfl) rfl (Res.one rfl (RV.tmp rfl))
         ·refine RunC.regionW ?_
          refine ROps.d (r := agg [i64 r30, i64 r31, oref 3 2 0 r33.length]) (fs := []) (Γ' := [⟨3, none⟩, ⟨1, some (r8.map f32)⟩, ⟨1, some [i64 r5, i64 r6, oref 1 1 0 r8.length]⟩, ⟨2, some (r33.map f32)⟩, ⟨1, some (r25.map f32)⟩, ⟨1, some [i64 r12, i64 r13, oref 4 1 0 r15.length]⟩, ⟨1, some [i64 r30, i64 r31, oref 3 2 0 r33.length]⟩]) rfl rfl rfl (TOp.loadAgg_o rfl agg26 siz26 rfl rfl rfl rfl) rfl ?_
          refine ROps.d (r := agg [i64 r5, i64 r6, oref 1 1 0 r8.length]) (fs := []) (Γ' := [⟨3, none⟩, ⟨1, some (r8.map f32)⟩, ⟨1, some [i64 r5, i64 r6, oref 1 1 0 r8.length]⟩, ⟨2, some (r33.map f32)⟩, ⟨1, some (r25.map f32)⟩, ⟨1, some [i64 r12, i64 r13, oref 4 1 0 r15.length]⟩, ⟨1, some [i64 r30, i64 r31, oref 3 2 0 r33.length]⟩]) rfl rfl rfl (TOp.loadAgg_o rfl agg26 siz26 rfl rfl rfl rfl) rfl ?_
          refine ROps.d (r := b false) (fs := []) (Γ' := [⟨3, none⟩, ⟨1, some (r8.map f32)⟩, ⟨1, some [i64 r5, i64 r6, oref 1 1 0 r8.length]⟩, ⟨2, some (r33.map f32)⟩, ⟨1, some (r25.map f32)⟩, ⟨1, some [i64 r12, i64 r13, oref 4 1 0 r15.length]⟩, ⟨1, some [i64 r30, i64 r31, oref 3 2 0 r33.length]⟩]) rfl rfl rfl (TOp.eqb (TOp.callB (CallAs.func ent9 rfl rfl) (Bors.cons (Bor.agg (Bors.cons (Bor.pure rfl) (Bors.cons (Bor.pure rfl) (Bors.cons (Bor.own (f := f32) (fun _ => rfl) rfl rfl) Bors.nil)))) (Bors.cons (Bor.agg (Bors.cons (Bor.pure rfl) (Bors.cons (Bor.pure rfl) (Bors.cons (Bor.own (f := f32) (fun _ => rfl) rfl rfl) Bors.nil)))) Bors.nil)) rfl rfl (w_eqMatrix_ok r30 r31 r33 r5 r6 r8 r34 hf25)) hc26) rfl ?_
          refine zL (r := b true) rfl rfl rfl (LOp.eqb (LOp.not rfl rfl) rfl) ?_
          refine zM (r := b true) rfl rfl rfl rfl rfl ?_
          refine ROps.s rfl rfl rfl ?_
          refine ROps.s rfl rfl rfl ?_
          refine ROps.s rfl rfl rfl ?_
          refine zL (r := b true) rfl rfl rfl (LOp.pick_true rfl rfl rfl) ?_
          refine zN ?_
          refine RunC.wl (τ' := [(11, optr 5 1 0), (14, i64 r24), (97, b true)]) (Γ' := [⟨3, none⟩, ⟨1, none⟩, ⟨1, none⟩, ⟨2, none⟩, ⟨1, some (r25.map f32)⟩, ⟨1, some [i64 r12, i64 r13, oref 4 1 0 r15.length]⟩, ⟨1, none⟩]) ⟨aR, aR, aR, trivial⟩ ⟨⟨rfl, .inl rfl⟩, ⟨rfl, .inl rfl⟩, ⟨rfl, .inl rfl⟩, ⟨rfl, .inl rfl⟩, ⟨rfl, .inr rfl⟩, ⟨rfl, .inr rfl⟩, ⟨rfl, .inl rfl⟩, trivial⟩ ?_
          refine RunC.cond_true rfl rfl ?_
          refine zQ ?_
          refine zA (r := b false) rfl rfl rfl rfl rfl ?_
          refine zN ?_
          refine RunC.ret ?_
          have hq := Option.some.inj h
          subst q0
          exact bodyQ.pure (.inr rfl) rfl (Res.one rfl (RV.tmp rfl))
      ·refine RunC.regionW ?_
       refine zM (r := i64 r21) rfl rfl rfl rfl rfl ?_
       refine zL (r := b false) rfl rfl rfl (LOp.eqb (LOp.lss rfl rfl rfl) hc15) ?_
       refine zM (r := b false) rfl rfl rfl rfl rfl ?_
       refine ROps.d (r := agg [i64 r12, i64 r13, oref 4 1 0 r15.length]) (fs := []) (Γ' := [⟨2, none⟩, ⟨1, some (r8.map f32)⟩, ⟨1, some [i64 r5, i64 r6, oref 1 1 0 r8.length]⟩, ⟨1, none⟩, ⟨1, some (r15.map f32)⟩, ⟨1, some [i64 r12, i64 r13, oref 4 1 0 r15.length]⟩, ⟨0, none⟩]) rfl rfl rfl (TOp.loadAgg_o rfl agg26 siz26 rfl rfl rfl rfl) rfl ?_
       refine ROps.d (r := agg [i64 r5, i64 r6, oref 1 1 0 r8.length]) (fs := []) (Γ' := [⟨2, none⟩, ⟨1, some (r8.map f32)⟩, ⟨1, some [i64 r5, i64 r6, oref 1 1 0 r8.length]⟩, ⟨1, none⟩, ⟨1, some (r15.map f32)⟩, ⟨1, some [i64 r12, i64 r13, oref 4 1 0 r15.length]⟩, ⟨0, none⟩]) rfl rfl rfl (TOp.loadAgg_o rfl agg26 siz26 rfl rfl rfl rfl) rfl ?_
       refine ROps.d (r := b false) (fs := []) (Γ' := [⟨2, none⟩, ⟨1, some (r8.map f32)⟩, ⟨1, some [i64 r5, i64 r6, oref 1 1 0 r8.length]⟩, ⟨1, none⟩, ⟨1, some (r15.map f32)⟩, ⟨1, some [i64 r12, i64 r13, oref 4 1 0 r15.length]⟩, ⟨0, none⟩]) rfl rfl rfl (TOp.eqb (TOp.callB (CallAs.func ent9 rfl rfl) (Bors.cons (Bor.agg (Bors.cons (Bor.pure rfl) (Bors.cons (Bor.pure rfl) (Bors.cons (Bor.own (f := f32) (fun _ => rfl) rfl rfl) Bors.nil)))) (Bors.cons (Bor.agg (Bors.cons (Bor.pure rfl) (Bors.cons (Bor.pure rfl) (Bors.cons (Bor.own (f := f32) (fun _ => rfl) rfl rfl) Bors.nil)))) Bors.nil)) rfl rfl (w_eqMatrix_ok r12 r13 r15 r5 r6 r8 r23 hf16)) hc17) rfl ?_
       refine zL (r := b true) rfl rfl rfl (LOp.eqb (LOp.not rfl rfl) rfl) ?_
       refine zL (r := b true) rfl rfl rfl (LOp.pick_false rfl rfl rfl) ?_
       refine zM (r := b true) rfl rfl rfl rfl rfl ?_
       refine ROps.s rfl rfl rfl ?_
       refine ROps.s rfl rfl rfl ?_
       refine ROps.s rfl rfl rfl ?_
       refine zL (r := b true) rfl rfl rfl (LOp.pick_true rfl rfl rfl) ?_
       refine zN ?_
       refine RunC.cond_true rfl rfl ?_
       refine zQ ?_
       refine zA (r := b false) rfl rfl rfl rfl rfl ?_
       refine zN ?_
       refine RunC.ret ?_
       have hq := Option.some.inj h
       subst q0
       exact bodyQ.pure (.inr rfl) rfl (Res.one rfl (RV.tmp rfl))
    ·refine RunC.region_draw (Γ' := [⟨2, some (r11.map f32)⟩, ⟨1, some (r8.map f32)⟩, ⟨1, some [i64 r5, i64 r6, oref 1 1 0 r8.length]⟩, ⟨1, some [i64 r9, i64 r10, oref 0 2 0 r11.length]⟩, ⟨1, some (r15.map f32)⟩, ⟨1, some [i64 r12, i64 r13, oref 4 1 0 r15.length]⟩, ⟨0, none⟩]) 5 mixed 
      (TR.d (r := agg [i64 r9, i64 r10, oref 0 2 0 r11.length]) (fs := []) rfl rfl (TOp.loadAgg_o rfl agg26 siz26 rfl rfl rfl rfl) <|
      (TR.l (r := agg [i64 a0, i64 a1, sl a2.length (a2.map f32)]) rfl rfl (LOp.loadAgg agg24 siz24 rfl rfl rfl rfl) <|
      (TR.d (r := agg [i64 r17, i64 r18, sl r19.length (r19.map f32)]) (fs := []) rfl rfl (TOp.callS (CallAs.func ent7 rfl rfl) (ALes.cons aR ALes.nil) (lts_cons (lt_agg (lts_cons rfl (lts_cons rfl (lts_cons (lt_sl (fun _ => rfl)) lts_nil)))) lts_nil) (lt_agg (lts_cons rfl (lts_cons rfl (lts_cons (lt_sl (fun _ => rfl)) lts_nil)))) (w_toMatrix_ok a0 a1 a2 r17 r18 r19 hf10) (Bor.agg (Bors.cons (Bor.pure rfl) (Bors.cons (Bor.pure rfl) (Bors.cons (Bor.own (f := f32) (fun _ => rfl) rfl rfl) Bors.nil))))) <|
      (TR.d (r := b false) (fs := []) rfl rfl (TOp.eqb (TOp.callB (CallAs.func ent9 rfl rfl) (Bors.cons (Bor.agg (Bors.cons (Bor.pure rfl) (Bors.cons (Bor.pure rfl) (Bors.cons (Bor.own (f := f32) (fun _ => rfl) rfl rfl) Bors.nil)))) (Bors.cons (Bor.agg (Bors.cons (Bor.pure rfl) (Bors.cons (Bor.pure rfl) (Bors.cons (Bor.sl (fun _ => rfl)) Bors.nil)))) Bors.nil)) rfl rfl (w_eqMatrix_ok r9 r10 r11 r17 r18 r19 r20 hf11)) hc12) <|
      (TR.l (r := b true) rfl rfl (LOp.eqb (LOp.not rfl rfl) rfl) <|
      TR.nil))))) rfl (by kernel_rfl) rfl fills_nil rfl ?_
     iterate 5 refine ROps.dropS ?_
     refine ROps.drop0 ?_
     refine zN ?_
     refine RunC.cond_true rfl rfl ?_
     refine zQ ?_
     refine zA (r := b false) rfl rfl rfl rfl rfl ?_
     refine zN ?_
     refine RunC.ret ?_
     have hq := Option.some.inj h
     subst q0
     exact bodyQ.pure (.inr rfl) rfl (Res.one rfl (RV.tmp rfl))
  ·refine RunC.regionW ?_
   refine ROps.d (r := agg [i64 r12, i64 r13, oref 4 1 0 r15.length]) (fs := []) (Γ' := [⟨2, some (r11.map f32)⟩, ⟨1, some (r8.map f32)⟩, ⟨1, some [i64 r5, i64 r6, oref 1 1 0 r8.length]⟩, ⟨1, some [i64 r9, i64 r10, oref 0 2 0 r11.length]⟩, ⟨1, some (r15.map f32)⟩, ⟨1, some [i64 r12, i64 r13, oref 4 1 0 r15.length]⟩, ⟨0, none⟩]) rfl rfl rfl (TOp.loadAgg_o rfl agg26 siz26 rfl rfl rfl rfl) rfl ?_
   refine ROps.d (r := agg [i64 r5, i64 r6, oref 1 1 0 r8.length]) (fs := []) (Γ' := [⟨2, some (r11.map f32)⟩, ⟨1, some (r8.map f32)⟩, ⟨1, some [i64 r5, i64 r6, oref 1 1 0 r8.length]⟩, ⟨1, some [i64 r9, i64 r10, oref 0 2 0 r11.length]⟩, ⟨1, some (r15.map f32)⟩, ⟨1, some [i64 r12, i64 r13, oref 4 1 0 r15.length]⟩, ⟨0, none⟩]) rfl rfl rfl (TOp.loadAgg_o rfl agg26 siz26 rfl rfl rfl rfl) rfl ?_
   refine ROps.d (r := b false) (fs := []) (Γ' := [⟨2, some (r11.map f32)⟩, ⟨1, some (r8.map f32)⟩, ⟨1, some [i64 r5, i64 r6, oref 1 1 0 r8.length]⟩, ⟨1, some [i64 r9, i64 r10, oref 0 2 0 r11.length]⟩, ⟨1, some (r15.map f32)⟩, ⟨1, some [i64 r12, i64 r13, oref 4 1 0 r15.length]⟩, ⟨0, none⟩]) rfl rfl rfl (TOp.eqb (TOp.callB (CallAs.func ent9 rfl rfl) (Bors.cons (Bor.agg (Bors.cons (Bor.pure rfl) (Bors.cons (Bor.pure rfl) (Bors.cons (Bor.own (f := f32) (fun _ => rfl) rfl rfl) Bors.nil)))) (Bors.cons (Bor.agg (Bors.cons (Bor.pure rfl) (Bors.cons (Bor.pure rfl) (Bors.cons (Bor.own (f := f32) (fun _ => rfl) rfl rfl) Bors.nil)))) Bors.nil)) rfl rfl (w_eqMatrix_ok r12 r13 r15 r5 r6 r8 r16 hf7)) hc8) rfl ?_
   refine zL (r := b true) rfl rfl rfl (LOp.eqb (LOp.not rfl rfl) rfl) ?_
   refine zM (r := b true) rfl rfl rfl rfl rfl ?_
   refine ROps.s rfl rfl rfl ?_
   refine ROps.s rfl rfl rfl ?_
   refine ROps.s rfl rfl rfl ?_
   refine zL (r := b true) rfl rfl rfl (LOp.pick_true rfl rfl rfl) ?_
   refine zN ?_
   refine RunC.cond_true rfl rfl ?_
   refine zQ ?_
   refine zA (r := b false) rfl rfl rfl rfl rfl ?_
   refine zN ?_
   refine RunC.ret ?_
   have hq := Option.some.inj h
   subst q0
   exact bodyQ.pure (.inr rfl) rfl (Res.one rfl (RV.tmp rfl))
end Go.Proofs.YtcoookgeialmnaaGreat
