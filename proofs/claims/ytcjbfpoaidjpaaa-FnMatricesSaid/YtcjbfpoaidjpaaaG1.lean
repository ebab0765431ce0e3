/- Generated. -/
import Derived.Test.YtcjbfpoaidjpaaaG0
namespace Go.Proofs.Ytcjbfpoaidjpaaa
open Go Go.AM Go.AM.AV
set_option maxRecDepth 20000
set_option maxHeartbeats 4000000
set_option linter.unusedVariables false
set_option linter.unusedSimpArgs false
noncomputable def i_Matrix_valid_02o (a0 : Int) (a1 : Int) (a2 : List F) : Option ((Int × Int × Bool × (List F)) ⊕ (Int × Int × Bool × (List F) × (List F))) :=
 obind (i_ValidMatrix a0 a1 a2) fun (r1 : Bool) =>
 bsel r1 (
  some (Sum.inl (a0, a1, true, a2))) (
  some (Sum.inr (0, 0, false, a2, ([] : List F))))
theorem i_Matrix_valid_02o_ok0 (a0 : Int) (a1 : Int) (a2 : List F) (q0 : Int) (q1 : Int) (q2 : Bool) (q3 : List F) (h : i_Matrix_valid_02o a0 a1 a2 = some (Sum.inl (q0, q1, q2, q3))) : Ev Try.prog 58 [agg [i64 a0, i64 a1, oref 0 0 0 a2.length]] [⟨0, some (a2.map f32)⟩] (tup [agg [i64 q0, i64 q1, oref 0 0 0 q3.length], b q2]) [⟨0, some (q3.map f32)⟩] := by
 refine Ev.start Try.func58 rfl rfl 2 (τ := [(0, agg [i64 a0, i64 a1, oref 0 0 0 a2.length])]) rfl (Γ' := [⟨0, some (a2.map f32)⟩, ⟨0, none⟩, ⟨0, none⟩]) rfl (n := 18) rfl (g := 1) rfl (by decide) ?_
 unfold i_Matrix_valid_02o at h
 refine zQ ?_
 refine ROps.d (r := ptr [i64 a0, i64 a1, oref 0 0 0 a2.length]) (fs := []) (Γ' := [⟨0, some (a2.map f32)⟩, ⟨0, none⟩, ⟨0, none⟩]) rfl rfl rfl (TOp.box_s rfl rfl rfl) rfl ?_
 refine ROps.d (r := optr 1 1 0) (fs := [(1, [i64 0, i64 0, nilsl])]) (Γ' := [⟨0, some (a2.map f32)⟩, ⟨1, some [i64 0, i64 0, nilsl]⟩, ⟨0, none⟩]) rfl rfl rfl (TOp.alloc_o (g := ⟨0, none⟩) 1 rfl zer26 zok26 rfl) rfl ?_
 refine zA (r := b false) rfl rfl rfl rfl rfl ?_
 refine zN ?_
 iterate 2 (refine RunC.seq ?_)
 obtain ⟨r1, hf1, h⟩ := obind_some h
 rcases bsel_some h with ⟨hc2, h⟩ | ⟨hc2, h⟩
 ·refine RunC.regionW ?_
  refine zL (r := agg [i64 a0, i64 a1, oref 0 0 0 a2.length]) rfl rfl rfl (LOp.loadAgg agg26 siz26 rfl rfl rfl rfl) ?_
  refine ROps.d (r := b true) (fs := []) (Γ' := [⟨0, some (a2.map f32)⟩, ⟨1, some [i64 0, i64 0, nilsl]⟩, ⟨0, none⟩]) rfl rfl rfl (TOp.eqb (TOp.callB (CallAs.func ent66 rfl rfl) (Bors.cons (Bor.agg (Bors.cons (Bor.pure rfl) (Bors.cons (Bor.pure rfl) (Bors.cons (Bor.own (f := f32) (fun _ => rfl) rfl rfl) Bors.nil)))) Bors.nil) rfl rfl (i_ValidMatrix_ok a0 a1 a2 r1 hf1)) hc2) rfl ?_
  refine zL (r := b false) rfl rfl rfl (LOp.eqb (LOp.not rfl rfl) rfl) ?_
  refine zN ?_
  refine RunC.cond_false rfl rfl ?_
  refine RunC.skip ?_
  refine zQ ?_
  refine zL (r := agg [i64 a0, i64 a1, oref 0 0 0 a2.length]) rfl rfl rfl (LOp.loadAgg agg26 siz26 rfl rfl rfl rfl) ?_
  refine ROps.store_le (r := agg [i64 a0, i64 a1, oref 0 0 0 a2.length]) (l' := [i64 a0, i64 a1, oref 0 0 0 a2.length]) (Γ' := [⟨0, some (a2.map f32)⟩, ⟨1, some [i64 a0, i64 a1, oref 0 0 0 a2.length]⟩, ⟨0, none⟩]) rfl siz26 rfl rfl rfl aR rfl rfl rfl rfl (Nat.le_of_ble_eq_true rfl) rfl rfl ?_
  refine zA (r := b true) rfl rfl rfl rfl rfl ?_
  refine zN ?_
  refine RunC.ret ?_
  have hq := Option.some.inj h
  have hq := Sum.inl.inj hq
  obtain ⟨hq0, hq⟩ := Prod.mk.inj hq
  obtain ⟨hq1, hq⟩ := Prod.mk.inj hq
  obtain ⟨hq2, hq⟩ := Prod.mk.inj hq
  subst q0
  subst q1
  subst q2
  subst q3
  exact bodyQ.mk (r' := tup [agg [i64 a0, i64 a1, oref 0 0 0 a2.length], b true]) [(0, 0)] (.inr rfl) rfl (show List.Nodup [0] from by decide) rfl rfl (Res.two rfl (RV.cell agg26 siz26 rfl rfl rfl rfl) (RV.tmp rfl)) (SelL.arr (f := f32) (fun _ => rfl) rfl trivial)
 ·refine RunC.regionW ?_
  refine zL (r := agg [i64 a0, i64 a1, oref 0 0 0 a2.length]) rfl rfl rfl (LOp.loadAgg agg26 siz26 rfl rfl rfl rfl) ?_
  refine ROps.d (r := b false) (fs := []) (Γ' := [⟨0, some (a2.map f32)⟩, ⟨1, some [i64 0, i64 0, nilsl]⟩, ⟨0, none⟩]) rfl rfl rfl (TOp.eqb (TOp.callB (CallAs.func ent66 rfl rfl) (Bors.cons (Bor.agg (Bors.cons (Bor.pure rfl) (Bors.cons (Bor.pure rfl) (Bors.cons (Bor.own (f := f32) (fun _ => rfl) rfl rfl) Bors.nil)))) Bors.nil) rfl rfl (i_ValidMatrix_ok a0 a1 a2 r1 hf1)) hc2) rfl ?_
  refine zL (r := b true) rfl rfl rfl (LOp.eqb (LOp.not rfl rfl) rfl) ?_
  refine zN ?_
  refine RunC.cond_true rfl rfl ?_
  refine zQ ?_
  refine zL (r := agg [i64 0, i64 0, nilsl]) rfl rfl rfl (LOp.build (qs := []) zer26 zok26 und26 plc26 rfl trivial rfl) ?_
  refine ROps.store_le (r := agg [i64 0, i64 0, nilsl]) (l' := [i64 0, i64 0, nilsl]) (Γ' := [⟨0, some (a2.map f32)⟩, ⟨1, some [i64 0, i64 0, nilsl]⟩, ⟨0, none⟩]) rfl siz26 rfl rfl rfl aR rfl rfl rfl rfl (Nat.le_of_ble_eq_true rfl) rfl rfl ?_
  refine zA (r := b false) rfl rfl rfl rfl rfl ?_
  refine zN ?_
  cases Option.some.inj h
theorem i_Matrix_valid_02o_ok1 (a0 : Int) (a1 : Int) (a2 : List F) (q0 : Int) (q1 : Int) (q2 : Bool) (q3 : List F) (q4 : List F) (h : i_Matrix_valid_02o a0 a1 a2 = some (Sum.inr (q0, q1, q2, q3, q4))) : Ev Try.prog 58 [agg [i64 a0, i64 a1, oref 0 0 0 a2.length]] [⟨0, some (a2.map f32)⟩] (tup [agg [i64 q0, i64 q1, oref 1 0 0 q4.length], b q2]) [⟨0, some (q3.map f32)⟩, ⟨0, some (q4.map f32)⟩] := by
 refine Ev.start Try.func58 rfl rfl 2 (τ := [(0, agg [i64 a0, i64 a1, oref 0 0 0 a2.length])]) rfl (Γ' := [⟨0, some (a2.map f32)⟩, ⟨0, none⟩, ⟨0, none⟩]) rfl (n := 18) rfl (g := 1) rfl (by decide) ?_
 unfold i_Matrix_valid_02o at h
 refine zQ ?_
 refine ROps.d (r := ptr [i64 a0, i64 a1, oref 0 0 0 a2.length]) (fs := []) (Γ' := [⟨0, some (a2.map f32)⟩, ⟨0, none⟩, ⟨0, none⟩]) rfl rfl rfl (TOp.box_s rfl rfl rfl) rfl ?_
 refine ROps.d (r := optr 1 1 0) (fs := [(1, [i64 0, i64 0, nilsl])]) (Γ' := [⟨0, some (a2.map f32)⟩, ⟨1, some [i64 0, i64 0, nilsl]⟩, ⟨0, none⟩]) rfl rfl rfl (TOp.alloc_o (g := ⟨0, none⟩) 1 rfl zer26 zok26 rfl) rfl ?_
 refine zA (r := b false) rfl rfl rfl rfl rfl ?_
 refine zN ?_
 iterate 2 (refine RunC.seq ?_)
 obtain ⟨r1, hf1, h⟩ := obind_some h
 rcases bsel_some h with ⟨hc2, h⟩ | ⟨hc2, h⟩
 ·refine RunC.regionW ?_
  refine zL (r := agg [i64 a0, i64 a1, oref 0 0 0 a2.length]) rfl rfl rfl (LOp.loadAgg agg26 siz26 rfl rfl rfl rfl) ?_
  refine ROps.d (r := b true) (fs := []) (Γ' := [⟨0, some (a2.map f32)⟩, ⟨1, some [i64 0, i64 0, nilsl]⟩, ⟨0, none⟩]) rfl rfl rfl (TOp.eqb (TOp.callB (CallAs.func ent66 rfl rfl) (Bors.cons (Bor.agg (Bors.cons (Bor.pure rfl) (Bors.cons (Bor.pure rfl) (Bors.cons (Bor.own (f := f32) (fun _ => rfl) rfl rfl) Bors.nil)))) Bors.nil) rfl rfl (i_ValidMatrix_ok a0 a1 a2 r1 hf1)) hc2) rfl ?_
  refine zL (r := b false) rfl rfl rfl (LOp.eqb (LOp.not rfl rfl) rfl) ?_
  refine zN ?_
  refine RunC.cond_false rfl rfl ?_
  refine RunC.skip ?_
  refine zQ ?_
  refine zL (r := agg [i64 a0, i64 a1, oref 0 0 0 a2.length]) rfl rfl rfl (LOp.loadAgg agg26 siz26 rfl rfl rfl rfl) ?_
  refine ROps.store_le (r := agg [i64 a0, i64 a1, oref 0 0 0 a2.length]) (l' := [i64 a0, i64 a1, oref 0 0 0 a2.length]) (Γ' := [⟨0, some (a2.map f32)⟩, ⟨1, some [i64 a0, i64 a1, oref 0 0 0 a2.length]⟩, ⟨0, none⟩]) rfl siz26 rfl rfl rfl aR rfl rfl rfl rfl (Nat.le_of_ble_eq_true rfl) rfl rfl ?_
  refine zA (r := b true) rfl rfl rfl rfl rfl ?_
  refine zN ?_
  cases Option.some.inj h
 ·refine RunC.regionW ?_
  refine zL (r := agg [i64 a0, i64 a1, oref 0 0 0 a2.length]) rfl rfl rfl (LOp.loadAgg agg26 siz26 rfl rfl rfl rfl) ?_
  refine ROps.d (r := b false) (fs := []) (Γ' := [⟨0, some (a2.map f32)⟩, ⟨1, some [i64 0, i64 0, nilsl]⟩, ⟨0, none⟩]) rfl rfl rfl (TOp.eqb (TOp.callB (CallAs.func ent66 rfl rfl) (Bors.cons (Bor.agg (Bors.cons (Bor.pure rfl) (Bors.cons (Bor.pure rfl) (Bors.cons (Bor.own (f := f32) (fun _ => rfl) rfl rfl) Bors.nil)))) Bors.nil) rfl rfl (i_ValidMatrix_ok a0 a1 a2 r1 hf1)) hc2) rfl ?_
  refine zL (r := b true) rfl rfl rfl (LOp.eqb (LOp.not rfl rfl) rfl) ?_
  refine zN ?_
  refine RunC.cond_true rfl rfl ?_
  refine zQ ?_
  refine zL (r := agg [i64 0, i64 0, nilsl]) rfl rfl rfl (LOp.build (qs := []) zer26 zok26 und26 plc26 rfl trivial rfl) ?_
  refine ROps.store_le (r := agg [i64 0, i64 0, nilsl]) (l' := [i64 0, i64 0, nilsl]) (Γ' := [⟨0, some (a2.map f32)⟩, ⟨1, some [i64 0, i64 0, nilsl]⟩, ⟨0, none⟩]) rfl siz26 rfl rfl rfl aR rfl rfl rfl rfl (Nat.le_of_ble_eq_true rfl) rfl rfl ?_
  refine zA (r := b false) rfl rfl rfl rfl rfl ?_
  refine zN ?_
  refine RunC.nil_cell (l' := [i64 0, i64 0, oref 2 1 0 0]) (Γ' := [⟨0, some (a2.map f32)⟩, ⟨1, some [i64 0, i64 0, oref 2 1 0 0]⟩, ⟨1, some (([] : List F).map f32)⟩]) 1 2 2 rfl rfl rfl rfl rfl ?_
  refine RunC.ret ?_
  have hq := Option.some.inj h
  have hq := Sum.inr.inj hq
  obtain ⟨hq0, hq⟩ := Prod.mk.inj hq
  obtain ⟨hq1, hq⟩ := Prod.mk.inj hq
  obtain ⟨hq2, hq⟩ := Prod.mk.inj hq
  obtain ⟨hq3, hq⟩ := Prod.mk.inj hq
  subst q0
  subst q1
  subst q2
  subst q3
  subst q4
  exact bodyQ.mk (r' := tup [agg [i64 0, i64 0, oref 2 1 0 (([] : List F).length)], b false]) [(0, 0), (2, 1)] (.inr rfl) rfl (show List.Nodup [0, 2] from by decide) rfl rfl (Res.eq (Res.two rfl (RV.cell agg26 siz26 rfl rfl rfl rfl) (RV.tmp rfl)) (by rw [(show ([] : List F).length = 0 from rfl)] <;> rfl)) (SelL.arr (f := f32) (fun _ => rfl) rfl (SelL.arr0 (f := f32) (fun _ => rfl) rfl trivial))
noncomputable def i_MulMatrices (a0 : Int) (a1 : Int) (a2 : List F) (a3 : Int) (a4 : Int) (a5 : List F) : Option (Int × Int × Bool × (List F)) :=
 obind (i_areFactors a0 a1 a2 a3 a4 a5) fun (r1 : Bool) =>
 bsel r1 (
  obind3 (i_product a0 a1 a2 a3 a4 a5) fun (r2 : Int) (r3 : Int) (r4 : List F) =>
  obind (i_Matrix_valid_02o r2 r3 r4) (fun z => osum z (fun y => obind4 (some y) fun (r5 : Int) (r6 : Int) (r7 : Bool) (r8 : List F) =>
   need (decide (r8.length = r4.length)) <|
   some (r5, r6, r7, r8)) (fun y => obind5 (some y) fun (r9 : Int) (r10 : Int) (r11 : Bool) (r12 : List F) (r13 : List F) =>
   need (decide (r12.length = r4.length)) <|
   some (r9, r10, r11, r13)))) (
  some (0, 0, false, ([] : List F)))
theorem i_MulMatrices_ok (a0 : Int) (a1 : Int) (a2 : List F) (a3 : Int) (a4 : Int) (a5 : List F) (q0 : Int) (q1 : Int) (q2 : Bool) (q3 : List F) (h : i_MulMatrices a0 a1 a2 a3 a4 a5 = some (q0, q1, q2, q3)) : Ev Try.prog 11 [agg [i64 a0, i64 a1, sl a2.length (a2.map f32)], agg [i64 a3, i64 a4, sl a5.length (a5.map f32)]] [] (tup [agg [i64 q0, i64 q1, oref 0 0 0 q3.length], b q2]) [⟨0, some (q3.map f32)⟩] := by
 refine Ev.start Try.func11 rfl rfl 3 (τ := [(0, agg [i64 a0, i64 a1, sl a2.length (a2.map f32)]), (1, agg [i64 a3, i64 a4, sl a5.length (a5.map f32)])]) rfl (Γ' := [⟨0, none⟩, ⟨0, none⟩, ⟨0, none⟩]) rfl (n := 35) rfl (g := 0) rfl (fun _ => rfl) ?_
 unfold i_MulMatrices at h
 refine zQ ?_
 refine ROps.d (r := ptr [i64 a0, i64 a1, sl a2.length (a2.map f32)]) (fs := []) (Γ' := [⟨0, none⟩, ⟨0, none⟩, ⟨0, none⟩]) rfl rfl rfl (TOp.box_s rfl rfl rfl) rfl ?_
 refine ROps.d (r := ptr [i64 a3, i64 a4, sl a5.length (a5.map f32)]) (fs := []) (Γ' := [⟨0, none⟩, ⟨0, none⟩, ⟨0, none⟩]) rfl rfl rfl (TOp.box_s rfl rfl rfl) rfl ?_
 refine ROps.d (r := optr 0 1 0) (fs := [(0, [i64 0, i64 0, nilsl])]) (Γ' := [⟨1, some [i64 0, i64 0, nilsl]⟩, ⟨0, none⟩, ⟨0, none⟩]) rfl rfl rfl (TOp.alloc_o (g := ⟨0, none⟩) 0 rfl zer26 zok26 rfl) rfl ?_
 refine zA (r := b false) rfl rfl rfl rfl rfl ?_
 refine zN ?_
 iterate 2 (refine RunC.seq ?_)
 obtain ⟨r1, hf1, h⟩ := obind_some h
 rcases bsel_some h with ⟨hc2, h⟩ | ⟨hc2, h⟩
 ·refine RunC.regionW ?_
  refine zL (r := agg [i64 a0, i64 a1, sl a2.length (a2.map f32)]) rfl rfl rfl (LOp.loadAgg agg26 siz26 rfl rfl rfl rfl) ?_
  refine zL (r := agg [i64 a3, i64 a4, sl a5.length (a5.map f32)]) rfl rfl rfl (LOp.loadAgg agg26 siz26 rfl rfl rfl rfl) ?_
  refine ROps.d (r := b true) (fs := []) (Γ' := [⟨1, some [i64 0, i64 0, nilsl]⟩, ⟨0, none⟩, ⟨0, none⟩]) rfl rfl rfl (TOp.eqb (TOp.callB (CallAs.func ent56 rfl rfl) (Bors.cons (Bor.agg (Bors.cons (Bor.pure rfl) (Bors.cons (Bor.pure rfl) (Bors.cons (Bor.sl (fun _ => rfl)) Bors.nil)))) (Bors.cons (Bor.agg (Bors.cons (Bor.pure rfl) (Bors.cons (Bor.pure rfl) (Bors.cons (Bor.sl (fun _ => rfl)) Bors.nil)))) Bors.nil)) rfl rfl (i_areFactors_ok a0 a1 a2 a3 a4 a5 r1 hf1)) hc2) rfl ?_
  refine zL (r := b false) rfl rfl rfl (LOp.eqb (LOp.not rfl rfl) rfl) ?_
  refine zN ?_
  refine RunC.cond_false rfl rfl ?_
  refine RunC.skip ?_
  refine RunC.seq ?_
  obtain ⟨r2, r3, r4, hf3, h⟩ := obind3_some h
  obtain ⟨z1, hf4, h⟩ := obind_some h
  rcases z1 with z1 | z1
  ·replace h := (osum_inl _ _ _).symm.trans h
   obtain ⟨r5, r6, r7, r8, hz2, h⟩ := obind4_some h
   cases hz2
   obtain ⟨hn5, h⟩ := need_some h
   refine RunC.regionW ?_
   refine zL (r := agg [i64 a0, i64 a1, sl a2.length (a2.map f32)]) rfl rfl rfl (LOp.loadAgg agg26 siz26 rfl rfl rfl rfl) ?_
   refine zL (r := agg [i64 a3, i64 a4, sl a5.length (a5.map f32)]) rfl rfl rfl (LOp.loadAgg agg26 siz26 rfl rfl rfl rfl) ?_
   refine ROps.d (r := agg [i64 r2, i64 r3, oref 1 1 0 r4.length]) (fs := [(1, (r4.map f32))]) (Γ' := [⟨1, some [i64 0, i64 0, nilsl]⟩, ⟨1, some (r4.map f32)⟩, ⟨0, none⟩]) rfl rfl rfl (TOp.callBN (ls := [(r4.map f32)]) [1] (CallAs.func ent57 rfl rfl) (Bors.cons (Bor.agg (Bors.cons (Bor.pure rfl) (Bors.cons (Bor.pure rfl) (Bors.cons (Bor.sl (fun _ => rfl)) Bors.nil)))) (Bors.cons (Bor.agg (Bors.cons (Bor.pure rfl) (Bors.cons (Bor.pure rfl) (Bors.cons (Bor.sl (fun _ => rfl)) Bors.nil)))) Bors.nil)) rfl (i_product_ok a0 a1 a2 a3 a4 a5 r2 r3 r4 hf3) (and_all (lts0_map (f := f32) (fun _ => rfl) _) rfl) (and_all (noss_map (f := f32) (fun _ => rfl) _) rfl) rfl (by decide) (ns_of ⟨⟨_, rfl⟩, trivial⟩)) rfl ?_
   refine ROps.callO (A := [agg [i64 r2, i64 r3, oref 1 1 0 r4.length]]) (args := [agg [i64 r2, i64 r3, oref 0 0 0 r4.length]]) (Γc := [⟨0, some (r4.map f32)⟩]) (Γc' := [⟨0, some (r8.map f32)⟩]) (r' := tup [agg [i64 r5, i64 r6, oref 1 1 0 r4.length], b r7]) (Γ' := [⟨1, some [i64 0, i64 0, nilsl]⟩, ⟨1, some (r8.map f32)⟩, ⟨0, none⟩]) [(1, 1)] [] rfl (CallAs.func ent58 rfl rfl) rfl rfl (SelOk.of (show List.Nodup [1] from by decide) (SelL.arr0 (f := f32) (fun _ => rfl) rfl trivial)) (live_of ⟨⟨_, _, rfl⟩, trivial⟩) (by simp [ren, rens, sigma, rens_f32, rens_f64, rens_i64, rens_ik, rens_str, rens_cp]) rfl (i_Matrix_valid_02o_ok0 r2 r3 r4 r5 r6 r7 r8 hf4) rfl (news_of trivial) (show List.Nodup [1] from by decide) (by simp [ren, rens, sigma, of_decide_eq_true hn5]) (by simp [backOb, sigma, ren, rens, rens_f32, rens_f64, rens_i64, rens_ik, rens_str, rens_cp]) ?_
   refine zL (r := agg [i64 r5, i64 r6, oref 1 1 0 r4.length]) rfl rfl rfl (LOp.extract rfl rfl rfl) ?_
   refine zL (r := b r7) rfl rfl rfl (LOp.extract rfl rfl rfl) ?_
   refine ROps.store_le (r := agg [i64 r5, i64 r6, oref 1 1 0 r4.length]) (l' := [i64 r5, i64 r6, oref 1 1 0 r4.length]) (Γ' := [⟨1, some [i64 r5, i64 r6, oref 1 1 0 r4.length]⟩, ⟨1, some (r8.map f32)⟩, ⟨0, none⟩]) rfl siz26 rfl rfl rfl aR rfl rfl rfl rfl (Nat.le_of_ble_eq_true rfl) rfl rfl ?_
   refine zA (r := b r7) rfl rfl rfl rfl rfl ?_
   refine zN ?_
   refine RunC.ret ?_
   have hq := Option.some.inj h
   obtain ⟨hq0, hq⟩ := Prod.mk.inj hq
   obtain ⟨hq1, hq⟩ := Prod.mk.inj hq
   obtain ⟨hq2, hq⟩ := Prod.mk.inj hq
   subst q0
   subst q1
   subst q2
   subst q3
   exact bodyQ.mk (r' := tup [agg [i64 r5, i64 r6, oref 1 1 0 r8.length], b r7]) [(1, 1)] (.inr rfl) rfl (show List.Nodup [1] from by decide) rfl rfl (Res.eq (Res.two rfl (RV.cell agg26 siz26 rfl rfl rfl rfl) (RV.tmp rfl)) (by rw [(show r8.length = r4.length from (of_decide_eq_true hn5))] <;> rfl)) (SelL.arr0 (f := f32) (fun _ => rfl) rfl trivial)
  ·replace h := (osum_inr _ _ _).symm.trans h
   obtain ⟨r9, r10, r11, r12, r13, hz3, h⟩ := obind5_some h
   cases hz3
   obtain ⟨hn6, h⟩ := need_some h
   refine RunC.regionW ?_
   refine zL (r := agg [i64 a0, i64 a1, sl a2.length (a2.map f32)]) rfl rfl rfl (LOp.loadAgg agg26 siz26 rfl rfl rfl rfl) ?_
   refine zL (r := agg [i64 a3, i64 a4, sl a5.length (a5.map f32)]) rfl rfl rfl (LOp.loadAgg agg26 siz26 rfl rfl rfl rfl) ?_
   refine ROps.d (r := agg [i64 r2, i64 r3, oref 1 1 0 r4.length]) (fs := [(1, (r4.map f32))]) (Γ' := [⟨1, some [i64 0, i64 0, nilsl]⟩, ⟨1, some (r4.map f32)⟩, ⟨0, none⟩]) rfl rfl rfl (TOp.callBN (ls := [(r4.map f32)]) [1] (CallAs.func ent57 rfl rfl) (Bors.cons (Bor.agg (Bors.cons (Bor.pure rfl) (Bors.cons (Bor.pure rfl) (Bors.cons (Bor.sl (fun _ => rfl)) Bors.nil)))) (Bors.cons (Bor.agg (Bors.cons (Bor.pure rfl) (Bors.cons (Bor.pure rfl) (Bors.cons (Bor.sl (fun _ => rfl)) Bors.nil)))) Bors.nil)) rfl (i_product_ok a0 a1 a2 a3 a4 a5 r2 r3 r4 hf3) (and_all (lts0_map (f := f32) (fun _ => rfl) _) rfl) (and_all (noss_map (f := f32) (fun _ => rfl) _) rfl) rfl (by decide) (ns_of ⟨⟨_, rfl⟩, trivial⟩)) rfl ?_
   refine ROps.callO (A := [agg [i64 r2, i64 r3, oref 1 1 0 r4.length]]) (args := [agg [i64 r2, i64 r3, oref 0 0 0 r4.length]]) (Γc := [⟨0, some (r4.map f32)⟩]) (Γc' := [⟨0, some (r12.map f32)⟩, ⟨0, some (r13.map f32)⟩]) (r' := tup [agg [i64 r9, i64 r10, oref 2 1 0 r13.length], b r11]) (Γ' := [⟨1, some [i64 0, i64 0, nilsl]⟩, ⟨1, some (r12.map f32)⟩, ⟨1, some (r13.map f32)⟩]) [(1, 1)] [(2, 1)] rfl (CallAs.func ent58 rfl rfl) rfl rfl (SelOk.of (show List.Nodup [1] from by decide) (SelL.arr0 (f := f32) (fun _ => rfl) rfl trivial)) (live_of ⟨⟨_, _, rfl⟩, trivial⟩) (by simp [ren, rens, sigma, rens_f32, rens_f64, rens_i64, rens_ik, rens_str, rens_cp]) rfl (i_Matrix_valid_02o_ok1 r2 r3 r4 r9 r10 r11 r12 r13 hf4) rfl (news_of ⟨⟨_, rfl, rfl⟩, trivial⟩) (show List.Nodup [1, 2] from by decide) (by simp [ren, rens, sigma, of_decide_eq_true hn6]) (by simp [backOb, sigma, ren, rens, rens_f32, rens_f64, rens_i64, rens_ik, rens_str, rens_cp]) ?_
   refine zL (r := agg [i64 r9, i64 r10, oref 2 1 0 r13.length]) rfl rfl rfl (LOp.extract rfl rfl rfl) ?_
   refine zL (r := b r11) rfl rfl rfl (LOp.extract rfl rfl rfl) ?_
   refine ROps.store_le (r := agg [i64 r9, i64 r10, oref 2 1 0 r13.length]) (l' := [i64 r9, i64 r10, oref 2 1 0 r13.length]) (Γ' := [⟨1, some [i64 r9, i64 r10, oref 2 1 0 r13.length]⟩, ⟨1, some (r12.map f32)⟩, ⟨1, some (r13.map f32)⟩]) rfl siz26 rfl rfl rfl aR rfl rfl rfl rfl (Nat.le_of_ble_eq_true rfl) rfl rfl ?_
   refine zA (r := b r11) rfl rfl rfl rfl rfl ?_
   refine zN ?_
   refine RunC.ret ?_
   have hq := Option.some.inj h
   obtain ⟨hq0, hq⟩ := Prod.mk.inj hq
   obtain ⟨hq1, hq⟩ := Prod.mk.inj hq
   obtain ⟨hq2, hq⟩ := Prod.mk.inj hq
   subst q0
   subst q1
   subst q2
   subst q3
   exact bodyQ.mk (r' := tup [agg [i64 r9, i64 r10, oref 2 1 0 r13.length], b r11]) [(2, 1)] (.inr rfl) rfl (show List.Nodup [2] from by decide) rfl rfl (Res.two rfl (RV.cell agg26 siz26 rfl rfl rfl rfl) (RV.tmp rfl)) (SelL.arr0 (f := f32) (fun _ => rfl) rfl trivial)
 ·refine RunC.regionW ?_
  refine zL (r := agg [i64 a0, i64 a1, sl a2.length (a2.map f32)]) rfl rfl rfl (LOp.loadAgg agg26 siz26 rfl rfl rfl rfl) ?_
  refine zL (r := agg [i64 a3, i64 a4, sl a5.length (a5.map f32)]) rfl rfl rfl (LOp.loadAgg agg26 siz26 rfl rfl rfl rfl) ?_
  refine ROps.d (r := b false) (fs := []) (Γ' := [⟨1, some [i64 0, i64 0, nilsl]⟩, ⟨0, none⟩, ⟨0, none⟩]) rfl rfl rfl (TOp.eqb (TOp.callB (CallAs.func ent56 rfl rfl) (Bors.cons (Bor.agg (Bors.cons (Bor.pure rfl) (Bors.cons (Bor.pure rfl) (Bors.cons (Bor.sl (fun _ => rfl)) Bors.nil)))) (Bors.cons (Bor.agg (Bors.cons (Bor.pure rfl) (Bors.cons (Bor.pure rfl) (Bors.cons (Bor.sl (fun _ => rfl)) Bors.nil)))) Bors.nil)) rfl rfl (i_areFactors_ok a0 a1 a2 a3 a4 a5 r1 hf1)) hc2) rfl ?_
  refine zL (r := b true) rfl rfl rfl (LOp.eqb (LOp.not rfl rfl) rfl) ?_
  refine zN ?_
  refine RunC.cond_true rfl rfl ?_
  refine zQ ?_
  refine zL (r := agg [i64 0, i64 0, nilsl]) rfl rfl rfl (LOp.build (qs := []) zer26 zok26 und26 plc26 rfl trivial rfl) ?_
  refine ROps.store_le (r := agg [i64 0, i64 0, nilsl]) (l' := [i64 0, i64 0, nilsl]) (Γ' := [⟨1, some [i64 0, i64 0, nilsl]⟩, ⟨0, none⟩, ⟨0, none⟩]) rfl siz26 rfl rfl rfl aR rfl rfl rfl rfl (Nat.le_of_ble_eq_true rfl) rfl rfl ?_
  refine zA (r := b false) rfl rfl rfl rfl rfl ?_
  refine zN ?_
  refine RunC.nil_cell (l' := [i64 0, i64 0, oref 1 1 0 0]) (Γ' := [⟨1, some [i64 0, i64 0, oref 1 1 0 0]⟩, ⟨1, some (([] : List F).map f32)⟩, ⟨0, none⟩]) 0 2 1 rfl rfl rfl rfl rfl ?_
  refine RunC.ret ?_
  have hq := Option.some.inj h
  obtain ⟨hq0, hq⟩ := Prod.mk.inj hq
  obtain ⟨hq1, hq⟩ := Prod.mk.inj hq
  obtain ⟨hq2, hq⟩ := Prod.mk.inj hq
  subst q0
  subst q1
  subst q2
  subst q3
  exact bodyQ.mk (r' := tup [agg [i64 0, i64 0, oref 1 1 0 (([] : List F).length)], b false]) [(1, 1)] (.inr rfl) rfl (show List.Nodup [1] from by decide) rfl rfl (Res.eq (Res.two rfl (RV.cell agg26 siz26 rfl rfl rfl rfl) (RV.tmp rfl)) (by rw [(show ([] : List F).length = 0 from rfl)] <;> rfl)) (SelL.arr0 (f := f32) (fun _ => rfl) rfl trivial)
noncomputable def i_MulBlocks_1_b1 (a3 : Int) (a8 : Int) (r1 : List F) (r2 : List F) (y3 : F) (v4 : Int) : Option (LR (F × Int) (F) (F)) :=
 bsel (decide (v4 < a3)) (
  olet (IntKind.i64.wrap (v4 + a8)) fun (x5 : Int) =>
  obind (sub? r1 v4 (imin a3 x5)) fun (l6 : List F) =>
  obind (sub? r2 v4 (imin a3 x5)) fun (l7 : List F) =>
  obind (i_dot l6 l7) fun (r8 : F) =>
  olet (fop .add .f32 y3 r8) fun (x9 : F) =>
  olet (IntKind.i64.wrap (v4 + a8)) fun (x10 : Int) =>
  some (LR.next (x9, x10))) (
  some (LR.out y3))
noncomputable def i_MulBlocks_1_s1 (a3 : Int) (a8 : Int) (r1 : List F) (r2 : List F) : (F × Int) → Option (LR (F × Int) (F) (F)) := fun s => i_MulBlocks_1_b1 a3 a8 r1 r2 s.1 s.2
noncomputable def i_MulBlocks_1_k1 (y11 : F) : Option (F) :=
 some y11
noncomputable def i_MulBlocks_1 (a0 : Int) (a1 : Int) (a2 : Int) (a3 : Int) (a4 : List F) (a5 : Int) (a6 : Int) (a7 : List F) (a8 : Int) : Option (F) :=
 obind (i_Matrix_row a2 a3 a4 a0) fun (r1 : List F) =>
 obind (i_Matrix_column a5 a6 a7 a1) fun (r2 : List F) =>
 obind (loopM (i_MulBlocks_1_s1 a3 a8 r1 r2) (some 0, 0)) fun z => osum z (fun e => i_MulBlocks_1_k1 e) (fun r => some r)
theorem i_MulBlocks_1_ok (a0 : Int) (a1 : Int) (a2 : Int) (a3 : Int) (a4 : List F) (a5 : Int) (a6 : Int) (a7 : List F) (a8 : Int) (q0 : F) (h : i_MulBlocks_1 a0 a1 a2 a3 a4 a5 a6 a7 a8 = some q0) : Ev Try.prog 61 [i64 a0, i64 a1, ptr [i64 a2, i64 a3, sl a4.length (a4.map f32)], ptr [i64 a5, i64 a6, sl a7.length (a7.map f32)], ptr [i64 a8]] [] (f32 q0) [] := by
 refine Ev.start Try.func61 rfl rfl 0 (τ := [(0, i64 a0), (1, i64 a1), (2, ptr [i64 a2, i64 a3, sl a4.length (a4.map f32)]), (3, ptr [i64 a5, i64 a6, sl a7.length (a7.map f32)]), (4, ptr [i64 a8])]) rfl (Γ' := []) rfl (n := 89) rfl (g := 0) rfl (fun _ => rfl) ?_
 unfold i_MulBlocks_1 at h
 refine zQ ?_
 refine zL (r := f32 (some 0)) rfl rfl rfl (LOp.le (LOp.assign rfl rfl) (ALe.fl (by kernel_rfl) (by kernel_rfl))) ?_
 refine zN ?_
 refine RunC.seq ?_
 obtain ⟨r1, hf1, h⟩ := obind_some h
 obtain ⟨r2, hf2, h⟩ := obind_some h
 refine RunC.region_draw (Γ' := []) 9 mixed 
  (TR.l (r := agg [i64 a2, i64 a3, sl a4.length (a4.map f32)]) rfl rfl (LOp.loadAgg agg26 siz26 rfl rfl rfl rfl) <|
  (TR.l (r := i64 a0) rfl rfl (LOp.move rfl rfl) <|
  (TR.d (r := sl r1.length (r1.map f32)) (fs := []) rfl rfl (TOp.callS (CallAs.func ent62 rfl rfl) (ALes.cons aR (ALes.cons aR ALes.nil)) (lts_cons (lt_agg (lts_cons rfl (lts_cons rfl (lts_cons (lt_sl (fun _ => rfl)) lts_nil)))) (lts_cons rfl lts_nil)) (lt_sl (fun _ => rfl)) (i_Matrix_row_ok a2 a3 a4 a0 r1 hf1) (Bor.own (f := f32) (fun _ => rfl) rfl rfl)) <|
  (TR.l (r := agg [i64 a5, i64 a6, sl a7.length (a7.map f32)]) rfl rfl (LOp.loadAgg agg26 siz26 rfl rfl rfl rfl) <|
  (TR.l (r := i64 a1) rfl rfl (LOp.move rfl rfl) <|
  (TR.d (r := sl r2.length (r2.map f32)) (fs := []) rfl rfl (TOp.callS (CallAs.func ent63 rfl rfl) (ALes.cons aR (ALes.cons aR ALes.nil)) (lts_cons (lt_agg (lts_cons rfl (lts_cons rfl (lts_cons (lt_sl (fun _ => rfl)) lts_nil)))) (lts_cons rfl lts_nil)) (lt_sl (fun _ => rfl)) (i_Matrix_column_ok a5 a6 a7 a1 r2 hf2) (Bor.own (f := f32) (fun _ => rfl) rfl rfl)) <|
  (TR.l (r := sl r1.length (r1.map f32)) rfl rfl (LOp.assign rfl rfl) <|
  (TR.l (r := sl r2.length (r2.map f32)) rfl rfl (LOp.assign rfl rfl) <|
  (TR.l (r := f32 (some 0)) rfl rfl (LOp.le (LOp.assign rfl rfl) (ALe.fl (by kernel_rfl) (by kernel_rfl))) <|
  TR.nil))))))))) rfl (by kernel_rfl) rfl fills_nil rfl ?_
 iterate 9 refine ROps.dropS ?_
 refine ROps.drop0 ?_
 refine zN ?_
 refine RunC.seq ?_
 refine zQ ?_
 refine zA (r := i64 0) rfl rfl rfl rfl rfl ?_
 refine zN ?_
 obtain ⟨z2, hz_2, h⟩ := obind_some h
 refine RunC.cutN (fun τ Γ => ∃ (y11 : F), WeakLe τ [(10, f32 y11)] ∧ DeadLe Γ [] ∧ z2 = .inl y11) ?_ ?_
 ·refine RunC.block (RunC.loop (RunL.loopM (x := z2) (i_MulBlocks_1_s1 a3 a8 r1 r2) (fun (s : F × Int) τ Γ => WeakLe τ [(2, ptr [i64 a2, i64 a3, sl a4.length (a4.map f32)]), (4, ptr [i64 a8]), (8, sl r1.length (r1.map f32)), (9, sl r2.length (r2.map f32)), (10, f32 s.1), (11, i64 s.2)] ∧ DeadLe Γ []) ?_ _ _ _ hz_2 ⟨⟨aR, aR, aR, aR, aR, aR, trivial⟩, trivial⟩))
  rintro ⟨y3, v4⟩ τ2 Γ2 y2_ ⟨hw2, hd2⟩ h2_ ho2 hr2
  refine RunC.wl (τ' := [(2, ptr [i64 a2, i64 a3, sl a4.length (a4.map f32)]), (4, ptr [i64 a8]), (8, sl r1.length (r1.map f32)), (9, sl r2.length (r2.map f32)), (10, f32 y3), (11, i64 v4)]) (Γ' := []) hw2 hd2 ?_
  replace h2_ : i_MulBlocks_1_b1 a3 a8 r1 r2 y3 v4 = some y2_ := h2_
  unfold i_MulBlocks_1_b1 at h2_
  iterate 2 (refine RunC.seq ?_)
  rcases bsel_some h2_ with ⟨hc3, h2_⟩ | ⟨hc3, h2_⟩
  ·refine RunC.regionW ?_
   refine zM (r := i64 v4) rfl rfl rfl rfl rfl ?_
   refine zL (r := ptr [i64 a3, sl a4.length (a4.map f32)]) rfl rfl rfl (LOp.fap und26 rfl siz2 rfl rfl rfl) ?_
   refine zL (r := i64 a3) rfl rfl rfl (LOp.load1 agg2 rfl rfl) ?_
   refine zL (r := b true) rfl rfl rfl (LOp.eqb (LOp.lss rfl rfl rfl) hc3) ?_
   refine zN ?_
   refine RunC.cond_true rfl rfl ?_
   refine RunC.skip ?_
   refine RunC.seq ?_
   refine RunC.block ?_
   refine RunC.seq ?_
   obtain ⟨x5, hx4, h2_⟩ := olet_some h2_
   refine RunC.regionW ?_
   refine zL (r := ptr [i64 a3, sl a4.length (a4.map f32)]) rfl rfl rfl (LOp.fap und26 rfl siz2 rfl rfl rfl) ?_
   refine zL (r := i64 a3) rfl rfl rfl (LOp.load1 agg2 rfl rfl) ?_
   refine zM (r := i64 v4) rfl rfl rfl rfl rfl ?_
   refine zL (r := i64 a8) rfl rfl rfl (LOp.load1 agg2 rfl rfl) ?_
   refine zL (r := i64 x5) rfl rfl rfl (LOp.eqr (LOp.add rfl rfl rfl) (congrArg (ik .i64) hx4)) ?_
   refine zL (r := i64 (imin a3 x5)) rfl rfl rfl (LOp.min2 rfl rfl rfl) ?_
   refine zA (r := i64 (imin a3 x5)) rfl rfl rfl rfl rfl ?_
   refine zN ?_
   obtain ⟨l6, hs5, h2_⟩ := obind_some h2_
   obtain ⟨l7, hs6, h2_⟩ := obind_some h2_
   obtain ⟨r8, hf7, h2_⟩ := obind_some h2_
   obtain ⟨x9, hx8, h2_⟩ := olet_some h2_
   refine RunC.region_draw (Γ' := []) 12 mixed 
    (TR.l (r := f32 y3) rfl rfl (LOp.move rfl rfl) <|
    (TR.l (r := sl r1.length (r1.map f32)) rfl rfl (LOp.move rfl rfl) <|
    (TR.l (r := i64 v4) rfl rfl (LOp.move rfl rfl) <|
    (TR.l (r := i64 (imin a3 x5)) rfl rfl (LOp.move rfl rfl) <|
    (TR.l (r := sl l6.length (l6.map f32)) rfl rfl (LOp.slice_sl (f := f32) und24 siz36 rfl rfl rfl rfl rfl hs5) <|
    (TR.l (r := sl r2.length (r2.map f32)) rfl rfl (LOp.move rfl rfl) <|
    (TR.l (r := i64 v4) rfl rfl (LOp.move rfl rfl) <|
    (TR.l (r := i64 (imin a3 x5)) rfl rfl (LOp.move rfl rfl) <|
    (TR.l (r := sl l7.length (l7.map f32)) rfl rfl (LOp.slice_sl (f := f32) und24 siz36 rfl rfl rfl rfl rfl hs6) <|
    (TR.d (r := f32 r8) (fs := []) rfl rfl (TOp.callB (CallAs.func ent64 rfl rfl) (Bors.cons (Bor.sl (fun _ => rfl)) (Bors.cons (Bor.sl (fun _ => rfl)) Bors.nil)) rfl rfl (i_dot_ok l6 l7 r8 hf7)) <|
    (TR.d (r := f32 x9) (fs := []) rfl rfl (TOp.eqr (TOp.fop (.inl rfl) rfl (OpF.tmp rfl) (OpF.tmp rfl)) (congrArg (f .f32) hx8)) <|
    (TR.l (r := f32 x9) rfl rfl (LOp.assign rfl rfl) <|
    TR.nil)))))))))))) rfl (by kernel_rfl) rfl fills_nil rfl ?_
   iterate 12 refine ROps.dropS ?_
   refine ROps.drop0 ?_
   refine zN ?_
   refine RunC.wl (τ' := [(2, ptr [i64 a2, i64 a3, sl a4.length (a4.map f32)]), (4, ptr [i64 a8]), (8, sl r1.length (r1.map f32)), (9, sl r2.length (r2.map f32)), (10, f32 x9), (11, i64 v4)]) (Γ' := []) ⟨aR, aR, aR, aR, aR, aR, trivial⟩ trivial ?_
   obtain ⟨x10, hx9, h2_⟩ := olet_some h2_
   refine RunC.regionW ?_
   refine zM (r := i64 v4) rfl rfl rfl rfl rfl ?_
   refine zL (r := i64 a8) rfl rfl rfl (LOp.load1 agg2 rfl rfl) ?_
   refine zL (r := i64 x10) rfl rfl rfl (LOp.eqr (LOp.add rfl rfl rfl) (congrArg (ik .i64) hx9)) ?_
   refine zA (r := i64 x10) rfl rfl rfl rfl rfl ?_
   refine zN ?_
   cases Option.some.inj h2_
   exact ⟨_, rfl, ⟨aR, aR, aR, aR, aR, aR, trivial⟩, trivial⟩
  ·refine RunC.regionW ?_
   refine zM (r := i64 v4) rfl rfl rfl rfl rfl ?_
   refine zL (r := ptr [i64 a3, sl a4.length (a4.map f32)]) rfl rfl rfl (LOp.fap und26 rfl siz2 rfl rfl rfl) ?_
   refine zL (r := i64 a3) rfl rfl rfl (LOp.load1 agg2 rfl rfl) ?_
   refine zL (r := b false) rfl rfl rfl (LOp.eqb (LOp.lss rfl rfl rfl) hc3) ?_
   refine zN ?_
   refine RunC.cond_false rfl rfl ?_
   refine RunC.exit ?_
   cases Option.some.inj h2_
   have hx := ho2 _ rfl
   exact ⟨y3, ⟨aR, trivial⟩, trivial, hx⟩
 ·rintro τ3 Γ3 ⟨y11, hw3, hd3, rfl⟩
  refine RunC.wl hw3 hd3 ?_
  replace h : i_MulBlocks_1_k1 y11 = some q0 := h
  unfold i_MulBlocks_1_k1 at h
  refine zQ ?_
  refine zM (r := f32 y11) rfl rfl rfl rfl rfl ?_
  refine zA (r := f32 y11) rfl rfl rfl rfl rfl ?_
  refine zN ?_
  refine RunC.ret ?_
  have hq := Option.some.inj h
  subst q0
  exact bodyQ.pure (.inr rfl) rfl (Res.one rfl (RV.tmp rfl))
noncomputable def i_made_2Fi_MulBlocks_1_b2 (a1 : Int) (a2 : Int) (a3 : Int) (a4 : List F) (a5 : Int) (a6 : Int) (a7 : List F) (a8 : Int) (r1 : Int) (r2 : Int) (r3 : List F) (v6 : Int) (L7 : List F) (v9 : Int) : Option (LR ((List F) × Int) ((List F)) (Int × Int × (List F))) :=
 bsel (decide (v9 < a1)) (
  obind (i_MulBlocks_1 v6 v9 a2 a3 a4 a5 a6 a7 a8) fun (r11 : F) =>
  obind (i_Matrix_set_02o r1 r2 v6 v9 r11 L7) fun (r12 : List F) =>
  need (decide (r12.length = r3.length)) <|
  olet (IntKind.i64.wrap (v9 + 1)) fun (x13 : Int) =>
  some (LR.next (r12, x13))) (
  some (LR.out L7))
noncomputable def i_made_2Fi_MulBlocks_1_s2 (a1 : Int) (a2 : Int) (a3 : Int) (a4 : List F) (a5 : Int) (a6 : Int) (a7 : List F) (a8 : Int) (r1 : Int) (r2 : Int) (r3 : List F) (v6 : Int) : ((List F) × Int) → Option (LR ((List F) × Int) ((List F)) (Int × Int × (List F))) := fun s => i_made_2Fi_MulBlocks_1_b2 a1 a2 a3 a4 a5 a6 a7 a8 r1 r2 r3 v6 s.1 s.2
noncomputable def i_made_2Fi_MulBlocks_1_k2 (v6 : Int) (L14 : List F) : Option (LR ((List F) × Int) ((List F)) (Int × Int × (List F))) :=
 olet (IntKind.i64.wrap (v6 + 1)) fun (x16 : Int) =>
 some (LR.next (L14, x16))
noncomputable def i_made_2Fi_MulBlocks_1_b3 (a0 : Int) (a1 : Int) (a2 : Int) (a3 : Int) (a4 : List F) (a5 : Int) (a6 : Int) (a7 : List F) (a8 : Int) (r1 : Int) (r2 : Int) (r3 : List F) (L4 : List F) (v6 : Int) : Option (LR ((List F) × Int) ((List F)) (Int × Int × (List F))) :=
 bsel (decide (v6 < a0)) (
  obind (loopM (i_made_2Fi_MulBlocks_1_s2 a1 a2 a3 a4 a5 a6 a7 a8 r1 r2 r3 v6) (L4, 0)) fun z => osum z (fun e => i_made_2Fi_MulBlocks_1_k2 v6 e) (fun r => some (LR.ret r))) (
  some (LR.out L4))
noncomputable def i_made_2Fi_MulBlocks_1_s3 (a0 : Int) (a1 : Int) (a2 : Int) (a3 : Int) (a4 : List F) (a5 : Int) (a6 : Int) (a7 : List F) (a8 : Int) (r1 : Int) (r2 : Int) (r3 : List F) : ((List F) × Int) → Option (LR ((List F) × Int) ((List F)) (Int × Int × (List F))) := fun s => i_made_2Fi_MulBlocks_1_b3 a0 a1 a2 a3 a4 a5 a6 a7 a8 r1 r2 r3 s.1 s.2
noncomputable def i_made_2Fi_MulBlocks_1_k3 (r1 : Int) (r2 : Int) (L17 : List F) : Option (Int × Int × (List F)) :=
 some (r1, r2, L17)
noncomputable def i_made_2Fi_MulBlocks_1 (a0 : Int) (a1 : Int) (a2 : Int) (a3 : Int) (a4 : List F) (a5 : Int) (a6 : Int) (a7 : List F) (a8 : Int) : Option (Int × Int × (List F)) :=
 obind3 (i_newMatrix a0 a1) fun (r1 : Int) (r2 : Int) (r3 : List F) =>
 obind (loopM (i_made_2Fi_MulBlocks_1_s3 a0 a1 a2 a3 a4 a5 a6 a7 a8 r1 r2 r3) (r3, 0)) fun z => osum z (fun e => i_made_2Fi_MulBlocks_1_k3 r1 r2 e) (fun r => some r)
theorem i_made_2Fi_MulBlocks_1_ok (a0 : Int) (a1 : Int) (a2 : Int) (a3 : Int) (a4 : List F) (a5 : Int) (a6 : Int) (a7 : List F) (a8 : Int) (q0 : Int) (q1 : Int) (q2 : List F) (h : i_made_2Fi_MulBlocks_1 a0 a1 a2 a3 a4 a5 a6 a7 a8 = some (q0, q1, q2)) : Ev Try.prog 60 [i64 a0, i64 a1, fn (.func 61) [] [ptr [i64 a2, i64 a3, sl a4.length (a4.map f32)], ptr [i64 a5, i64 a6, sl a7.length (a7.map f32)], ptr [i64 a8]]] [] (agg [i64 q0, i64 q1, oref 0 0 0 q2.length]) [⟨0, some (q2.map f32)⟩] := by
 refine Ev.start Try.func60 rfl rfl 3 (τ := [(0, i64 a0), (1, i64 a1), (2, fn (.func 61) [] [ptr [i64 a2, i64 a3, sl a4.length (a4.map f32)], ptr [i64 a5, i64 a6, sl a7.length (a7.map f32)], ptr [i64 a8]])]) rfl (Γ' := [⟨0, none⟩, ⟨0, none⟩, ⟨0, none⟩]) rfl (n := 65) rfl (g := 0) rfl (fun _ => rfl) ?_
 unfold i_made_2Fi_MulBlocks_1 at h
 refine zQ ?_
 refine ROps.d (r := optr 0 1 0) (fs := [(0, [i64 0, i64 0, nilsl])]) (Γ' := [⟨1, some [i64 0, i64 0, nilsl]⟩, ⟨0, none⟩, ⟨0, none⟩]) rfl rfl rfl (TOp.alloc_o (g := ⟨0, none⟩) 0 rfl zer26 zok26 rfl) rfl ?_
 refine zN ?_
 refine RunC.seq ?_
 obtain ⟨r1, r2, r3, hf1, h⟩ := obind3_some h
 refine RunC.regionW ?_
 refine zM (r := i64 a0) rfl rfl rfl rfl rfl ?_
 refine zM (r := i64 a1) rfl rfl rfl rfl rfl ?_
 refine ROps.d (r := agg [i64 r1, i64 r2, oref 1 1 0 r3.length]) (fs := [(1, (r3.map f32))]) (Γ' := [⟨1, some [i64 0, i64 0, nilsl]⟩, ⟨1, some (r3.map f32)⟩, ⟨0, none⟩]) rfl rfl rfl (TOp.callBN (ls := [(r3.map f32)]) [1] (CallAs.func ent126 rfl rfl) (Bors.cons (Bor.pure rfl) (Bors.cons (Bor.pure rfl) Bors.nil)) rfl (i_newMatrix_ok a0 a1 r1 r2 r3 hf1) (and_all (lts0_map (f := f32) (fun _ => rfl) _) rfl) (and_all (noss_map (f := f32) (fun _ => rfl) _) rfl) rfl (by decide) (ns_of ⟨⟨_, rfl⟩, trivial⟩)) rfl ?_
 refine ROps.d (r := optr 2 1 0) (fs := [(2, [i64 0, i64 0, nilsl])]) (Γ' := [⟨1, some [i64 0, i64 0, nilsl]⟩, ⟨1, some (r3.map f32)⟩, ⟨1, some [i64 0, i64 0, nilsl]⟩]) rfl rfl rfl (TOp.alloc_o (g := ⟨0, none⟩) 2 rfl zer26 zok26 rfl) rfl ?_
 refine ROps.store_le (r := agg [i64 r1, i64 r2, oref 1 1 0 r3.length]) (l' := [i64 r1, i64 r2, oref 1 1 0 r3.length]) (Γ' := [⟨1, some [i64 0, i64 0, nilsl]⟩, ⟨1, some (r3.map f32)⟩, ⟨1, some [i64 r1, i64 r2, oref 1 1 0 r3.length]⟩]) rfl siz26 rfl rfl rfl aR rfl rfl rfl rfl (Nat.le_of_ble_eq_true rfl) rfl rfl ?_
 refine zN ?_
 refine RunC.seq ?_
 refine zQ ?_
 refine zM (r := i64 a0) rfl rfl rfl rfl rfl ?_
 refine zM (r := i64 0) rfl rfl rfl rfl rfl ?_
 refine zN ?_
 obtain ⟨z4, hz_4, h⟩ := obind_some h
 refine RunC.cutN (fun τ Γ => ∃ (L17 : List F), L17.length = r3.length ∧ WeakLe τ [(6, optr 0 1 0), (7, optr 2 1 0)] ∧ DeadLe Γ [⟨1, some [i64 0, i64 0, nilsl]⟩, ⟨1, some (L17.map f32)⟩, ⟨1, some [i64 r1, i64 r2, oref 1 1 0 r3.length]⟩] ∧ z4 = .inl L17) ?_ ?_
 ·refine RunC.block (RunC.loop (RunL.loopM (x := z4) (i_made_2Fi_MulBlocks_1_s3 a0 a1 a2 a3 a4 a5 a6 a7 a8 r1 r2 r3) (fun (s : (List F) × Int) τ Γ => s.1.length = r3.length ∧ WeakLe τ [(1, i64 a1), (2, fn (.func 61) [] [ptr [i64 a2, i64 a3, sl a4.length (a4.map f32)], ptr [i64 a5, i64 a6, sl a7.length (a7.map f32)], ptr [i64 a8]]), (6, optr 0 1 0), (7, optr 2 1 0), (13, i64 a0), (14, i64 s.2)] ∧ DeadLe Γ [⟨1, some [i64 0, i64 0, nilsl]⟩, ⟨1, some (s.1.map f32)⟩, ⟨1, some [i64 r1, i64 r2, oref 1 1 0 r3.length]⟩]) ?_ _ _ _ hz_4 ⟨rfl, ⟨aR, aR, aR, aR, aR, aR, trivial⟩, ⟨⟨rfl, .inr rfl⟩, ⟨rfl, .inr rfl⟩, ⟨rfl, .inr rfl⟩, trivial⟩⟩))
  rintro ⟨L4, v6⟩ τ4 Γ4 y4_ ⟨hl5, hw4, hd4⟩ h4_ ho4 hr4
  refine RunC.wl (τ' := [(1, i64 a1), (2, fn (.func 61) [] [ptr [i64 a2, i64 a3, sl a4.length (a4.map f32)], ptr [i64 a5, i64 a6, sl a7.length (a7.map f32)], ptr [i64 a8]]), (6, optr 0 1 0), (7, optr 2 1 0), (13, i64 a0), (14, i64 v6)]) (Γ' := [⟨1, some [i64 0, i64 0, nilsl]⟩, ⟨1, some (L4.map f32)⟩, ⟨1, some [i64 r1, i64 r2, oref 1 1 0 r3.length]⟩]) hw4 hd4 ?_
  replace hl5 : L4.length = r3.length := hl5
  replace h4_ : i_made_2Fi_MulBlocks_1_b3 a0 a1 a2 a3 a4 a5 a6 a7 a8 r1 r2 r3 L4 v6 = some y4_ := h4_
  unfold i_made_2Fi_MulBlocks_1_b3 at h4_
  refine RunC.seq ?_
  rcases bsel_some h4_ with ⟨hc2, h4_⟩ | ⟨hc2, h4_⟩
  ·refine RunC.regionW ?_
   refine zL (r := b true) rfl rfl rfl (LOp.eqb (LOp.lss rfl rfl rfl) hc2) ?_
   refine zN ?_
   refine RunC.seq ?_
   refine RunC.cond_true rfl rfl ?_
   refine RunC.skip ?_
   refine RunC.seq ?_
   refine RunC.block ?_
   refine zQ ?_
   refine zM (r := i64 v6) rfl rfl rfl rfl rfl ?_
   refine zA (r := i64 v6) rfl rfl rfl rfl rfl ?_
   refine zN ?_
   refine zQ ?_
   refine zM (r := i64 a1) rfl rfl rfl rfl rfl ?_
   refine zM (r := i64 0) rfl rfl rfl rfl rfl ?_
   refine zN ?_
   obtain ⟨z5, hz_5, h4_⟩ := obind_some h4_
   refine RunC.cutN (fun τ Γ => ∃ (L14 : List F), L14.length = r3.length ∧ WeakLe τ [(1, i64 a1), (2, fn (.func 61) [] [ptr [i64 a2, i64 a3, sl a4.length (a4.map f32)], ptr [i64 a5, i64 a6, sl a7.length (a7.map f32)], ptr [i64 a8]]), (6, optr 0 1 0), (7, optr 2 1 0), (13, i64 a0), (14, i64 v6)] ∧ DeadLe Γ [⟨1, some [i64 0, i64 0, nilsl]⟩, ⟨1, some (L14.map f32)⟩, ⟨1, some [i64 r1, i64 r2, oref 1 1 0 r3.length]⟩] ∧ z5 = .inl L14) ?_ ?_
   ·refine RunC.block (RunC.loop (RunL.loopM (x := z5) (i_made_2Fi_MulBlocks_1_s2 a1 a2 a3 a4 a5 a6 a7 a8 r1 r2 r3 v6) (fun (s : (List F) × Int) τ Γ => s.1.length = r3.length ∧ WeakLe τ [(1, i64 a1), (2, fn (.func 61) [] [ptr [i64 a2, i64 a3, sl a4.length (a4.map f32)], ptr [i64 a5, i64 a6, sl a7.length (a7.map f32)], ptr [i64 a8]]), (6, optr 0 1 0), (7, optr 2 1 0), (8, i64 v6), (13, i64 a0), (14, i64 v6), (17, i64 a1), (18, i64 s.2)] ∧ DeadLe Γ [⟨1, some [i64 0, i64 0, nilsl]⟩, ⟨1, some (s.1.map f32)⟩, ⟨1, some [i64 r1, i64 r2, oref 1 1 0 r3.length]⟩]) ?_ _ _ _ hz_5 ⟨hl5, ⟨aR, aR, aR, aR, aR, aR, aR, aR, aR, trivial⟩, ⟨⟨rfl, .inr rfl⟩, ⟨rfl, .inr rfl⟩, ⟨rfl, .inr rfl⟩, trivial⟩⟩))
    rintro ⟨L7, v9⟩ τ5 Γ5 y5_ ⟨hl8, hw5, hd5⟩ h5_ ho5 hr5
    refine RunC.wl (τ' := [(1, i64 a1), (2, fn (.func 61) [] [ptr [i64 a2, i64 a3, sl a4.length (a4.map f32)], ptr [i64 a5, i64 a6, sl a7.length (a7.map f32)], ptr [i64 a8]]), (6, optr 0 1 0), (7, optr 2 1 0), (8, i64 v6), (13, i64 a0), (14, i64 v6), (17, i64 a1), (18, i64 v9)]) (Γ' := [⟨1, some [i64 0, i64 0, nilsl]⟩, ⟨1, some (L7.map f32)⟩, ⟨1, some [i64 r1, i64 r2, oref 1 1 0 r3.length]⟩]) hw5 hd5 ?_
    replace hl8 : L7.length = r3.length := hl8
    replace h5_ : i_made_2Fi_MulBlocks_1_b2 a1 a2 a3 a4 a5 a6 a7 a8 r1 r2 r3 v6 L7 v9 = some y5_ := h5_
    unfold i_made_2Fi_MulBlocks_1_b2 at h5_
    refine RunC.seq ?_
    rcases bsel_some h5_ with ⟨hc3, h5_⟩ | ⟨hc3, h5_⟩
    ·refine RunC.regionW ?_
     refine zL (r := b true) rfl rfl rfl (LOp.eqb (LOp.lss rfl rfl rfl) hc3) ?_
     refine zN ?_
     refine RunC.seq ?_
     refine RunC.cond_true rfl rfl ?_
     refine RunC.skip ?_
     refine RunC.seq ?_
     refine RunC.block ?_
     refine zQ ?_
     refine zM (r := i64 v9) rfl rfl rfl rfl rfl ?_
     refine zA (r := i64 v9) rfl rfl rfl rfl rfl ?_
     refine zN ?_
     obtain ⟨r11, hf5, h5_⟩ := obind_some h5_
     obtain ⟨r12, hf6, h5_⟩ := obind_some h5_
     obtain ⟨hn7, h5_⟩ := need_some h5_
     refine RunC.region_draw (Γ' := [⟨1, some [i64 0, i64 0, nilsl]⟩, ⟨1, some (L7.map f32)⟩, ⟨1, some [i64 r1, i64 r2, oref 1 1 0 r3.length]⟩]) 7 mixed 
      (TR.d (r := agg [i64 r1, i64 r2, oref 1 1 0 r3.length]) (fs := []) rfl rfl (TOp.loadAgg_o rfl agg26 siz26 rfl rfl rfl rfl) <|
      (TR.l (r := i64 v6) rfl rfl (LOp.move rfl rfl) <|
      (TR.l (r := i64 v9) rfl rfl (LOp.move rfl rfl) <|
      (TR.l (r := fn (.func 61) [] [ptr [i64 a2, i64 a3, sl a4.length (a4.map f32)], ptr [i64 a5, i64 a6, sl a7.length (a7.map f32)], ptr [i64 a8]]) rfl rfl (LOp.move rfl rfl) <|
      (TR.l (r := i64 v6) rfl rfl (LOp.move rfl rfl) <|
      (TR.l (r := i64 v9) rfl rfl (LOp.move rfl rfl) <|
      (TR.d (r := f32 r11) (fs := []) rfl rfl (TOp.callB (CallAs.fn ent61 rfl rfl rfl rfl) (Bors.cons (Bor.pure rfl) (Bors.cons (Bor.pure rfl) (Bors.cons (Bor.ptr (Bors.cons (Bor.pure rfl) (Bors.cons (Bor.pure rfl) (Bors.cons (Bor.sl (fun _ => rfl)) Bors.nil)))) (Bors.cons (Bor.ptr (Bors.cons (Bor.pure rfl) (Bors.cons (Bor.pure rfl) (Bors.cons (Bor.sl (fun _ => rfl)) Bors.nil)))) (Bors.cons (Bor.ptr (Bors.cons (Bor.pure rfl) Bors.nil)) Bors.nil))))) rfl rfl (i_MulBlocks_1_ok v6 v9 a2 a3 a4 a5 a6 a7 a8 r11 hf5)) <|
      TR.nil))))))) rfl (by kernel_rfl) rfl fills_nil rfl ?_
     iterate 7 refine ROps.dropS ?_
     refine ROps.drop0 ?_
     refine ROps.callO (A := [agg [i64 r1, i64 r2, oref 1 1 0 r3.length], i64 v6, i64 v9, f32 r11]) (args := [agg [i64 r1, i64 r2, oref 0 0 0 L7.length], i64 v6, i64 v9, f32 r11]) (Γc := [⟨0, some (L7.map f32)⟩]) (Γc' := [⟨0, some (r12.map f32)⟩]) (r' := tup []) (Γ' := [⟨1, some [i64 0, i64 0, nilsl]⟩, ⟨1, some (r12.map f32)⟩, ⟨1, some [i64 r1, i64 r2, oref 1 1 0 r3.length]⟩]) [(1, 1)] [] rfl (CallAs.func ent78 rfl rfl) rfl rfl (SelOk.of (show List.Nodup [1] from by decide) (SelL.arr0 (f := f32) (fun _ => rfl) rfl trivial)) (live_of ⟨⟨_, _, rfl⟩, trivial⟩) (by simp [ren, rens, sigma, rens_f32, rens_f64, rens_i64, rens_ik, rens_str, rens_cp, hl8]) rfl (i_Matrix_set_02o_ok r1 r2 v6 v9 r11 L7 r12 hf6) rfl (news_of trivial) (show List.Nodup [1] from by decide) (by simp [ren, rens, sigma, of_decide_eq_true hn7]) (by simp [backOb, sigma, ren, rens, rens_f32, rens_f64, rens_i64, rens_ik, rens_str, rens_cp]) ?_
     refine zN ?_
     obtain ⟨x13, hx8, h5_⟩ := olet_some h5_
     refine RunC.regionW ?_
     refine zL (r := i64 x13) rfl rfl rfl (LOp.eqr (LOp.add rfl rfl rfl) (congrArg (ik .i64) hx8)) ?_
     refine zM (r := i64 x13) rfl rfl rfl rfl rfl ?_
     refine zN ?_
     cases Option.some.inj h5_
     exact ⟨_, rfl, (of_decide_eq_true hn7), ⟨aR, aR, aR, aR, aR, aR, aR, aR, aR, trivial⟩, ⟨⟨rfl, .inr rfl⟩, ⟨rfl, .inr rfl⟩, ⟨rfl, .inr rfl⟩, trivial⟩⟩
    ·refine RunC.regionW ?_
     refine zL (r := b false) rfl rfl rfl (LOp.eqb (LOp.lss rfl rfl rfl) hc3) ?_
     refine zN ?_
     refine RunC.seq ?_
     refine RunC.cond_false rfl rfl ?_
     refine RunC.exit ?_
     cases Option.some.inj h5_
     have hx := ho5 _ rfl
     exact ⟨L7, hl8, ⟨aR, aR, aR, aR, aR, aR, trivial⟩, ⟨⟨rfl, .inr rfl⟩, ⟨rfl, .inr rfl⟩, ⟨rfl, .inr rfl⟩, trivial⟩, hx⟩
   ·rintro τ6 Γ6 ⟨L14, hl15, hw6, hd6, rfl⟩
    refine RunC.wl hw6 hd6 ?_
    replace h4_ : i_made_2Fi_MulBlocks_1_k2 v6 L14 = some y4_ := h4_
    unfold i_made_2Fi_MulBlocks_1_k2 at h4_
    obtain ⟨x16, hx9, h4_⟩ := olet_some h4_
    refine RunC.regionW ?_
    refine zL (r := i64 x16) rfl rfl rfl (LOp.eqr (LOp.add rfl rfl rfl) (congrArg (ik .i64) hx9)) ?_
    refine zM (r := i64 x16) rfl rfl rfl rfl rfl ?_
    refine zN ?_
    cases Option.some.inj h4_
    exact ⟨_, rfl, hl15, ⟨aR, aR, aR, aR, aR, aR, trivial⟩, ⟨⟨rfl, .inr rfl⟩, ⟨rfl, .inr rfl⟩, ⟨rfl, .inr rfl⟩, trivial⟩⟩
  ·refine RunC.regionW ?_
   refine zL (r := b false) rfl rfl rfl (LOp.eqb (LOp.lss rfl rfl rfl) hc2) ?_
   refine zN ?_
   refine RunC.seq ?_
   refine RunC.cond_false rfl rfl ?_
   refine RunC.exit ?_
   cases Option.some.inj h4_
   have hx := ho4 _ rfl
   exact ⟨L4, hl5, ⟨aR, aR, trivial⟩, ⟨⟨rfl, .inr rfl⟩, ⟨rfl, .inr rfl⟩, ⟨rfl, .inr rfl⟩, trivial⟩, hx⟩
 ·rintro τ7 Γ7 ⟨L17, hl18, hw7, hd7, rfl⟩
  refine RunC.wl hw7 hd7 ?_
  replace h : i_made_2Fi_MulBlocks_1_k3 r1 r2 L17 = some (q0, q1, q2) := h
  unfold i_made_2Fi_MulBlocks_1_k3 at h
  refine zQ ?_
  refine ROps.d (r := agg [i64 r1, i64 r2, oref 1 1 0 r3.length]) (fs := []) (Γ' := [⟨1, some [i64 0, i64 0, nilsl]⟩, ⟨1, some (L17.map f32)⟩, ⟨1, some [i64 r1, i64 r2, oref 1 1 0 r3.length]⟩]) rfl rfl rfl (TOp.loadAgg_o rfl agg26 siz26 rfl rfl rfl rfl) rfl ?_
  refine ROps.store_le (r := agg [i64 r1, i64 r2, oref 1 1 0 r3.length]) (l' := [i64 r1, i64 r2, oref 1 1 0 r3.length]) (Γ' := [⟨1, some [i64 r1, i64 r2, oref 1 1 0 r3.length]⟩, ⟨1, some (L17.map f32)⟩, ⟨1, some [i64 r1, i64 r2, oref 1 1 0 r3.length]⟩]) rfl siz26 rfl rfl rfl aR rfl rfl rfl rfl (Nat.le_of_ble_eq_true rfl) rfl rfl ?_
  refine zN ?_
  refine RunC.ret ?_
  have hq := Option.some.inj h
  obtain ⟨hq0, hq⟩ := Prod.mk.inj hq
  obtain ⟨hq1, hq⟩ := Prod.mk.inj hq
  subst q0
  subst q1
  subst q2
  exact bodyQ.mk (r' := agg [i64 r1, i64 r2, oref 1 1 0 L17.length]) [(1, 1)] (.inr rfl) rfl (show List.Nodup [1] from by decide) rfl rfl (Res.eq (Res.one rfl (RV.cell agg26 siz26 rfl rfl rfl rfl)) (by rw [(show L17.length = r3.length from hl18)] <;> rfl)) (SelL.arr0 (f := f32) (fun _ => rfl) rfl trivial)
noncomputable def i_MulBlocks (a0 : Int) (a1 : Int) (a2 : List F) (a3 : Int) (a4 : Int) (a5 : List F) (a6 : Int) : Option (Int × Int × Bool × (List F)) :=
 obind (i_areFactors a0 a1 a2 a3 a4 a5) fun (r1 : Bool) =>
 bsel r1 (
  obind (i_isSide a6) fun (r2 : Bool) =>
  bsel r2 (
   obind3 (i_made_2Fi_MulBlocks_1 a0 a4 a0 a1 a2 a3 a4 a5 a6) fun (r3 : Int) (r4 : Int) (r5 : List F) =>
   obind (i_Matrix_valid_02o r3 r4 r5) (fun z => osum z (fun y => obind4 (some y) fun (r6 : Int) (r7 : Int) (r8 : Bool) (r9 : List F) =>
    need (decide (r9.length = r5.length)) <|
    some (r6, r7, r8, r9)) (fun y => obind5 (some y) fun (r10 : Int) (r11 : Int) (r12 : Bool) (r13 : List F) (r14 : List F) =>
    need (decide (r13.length = r5.length)) <|
    some (r10, r11, r12, r14)))) (
   some (0, 0, false, ([] : List F)))) (
  some (0, 0, false, ([] : List F)))
theorem i_MulBlocks_ok (a0 : Int) (a1 : Int) (a2 : List F) (a3 : Int) (a4 : Int) (a5 : List F) (a6 : Int) (q0 : Int) (q1 : Int) (q2 : Bool) (q3 : List F) (h : i_MulBlocks a0 a1 a2 a3 a4 a5 a6 = some (q0, q1, q2, q3)) : Ev Try.prog 12 [agg [i64 a0, i64 a1, sl a2.length (a2.map f32)], agg [i64 a3, i64 a4, sl a5.length (a5.map f32)], i64 a6] [] (tup [agg [i64 q0, i64 q1, oref 0 0 0 q3.length], b q2]) [⟨0, some (q3.map f32)⟩] := by
 refine Ev.start Try.func12 rfl rfl 4 (τ := [(0, agg [i64 a0, i64 a1, sl a2.length (a2.map f32)]), (1, agg [i64 a3, i64 a4, sl a5.length (a5.map f32)]), (2, i64 a6)]) rfl (Γ' := [⟨0, none⟩, ⟨0, none⟩, ⟨0, none⟩, ⟨0, none⟩]) rfl (n := 59) rfl (g := 0) rfl (fun _ => rfl) ?_
 unfold i_MulBlocks at h
 refine zQ ?_
 refine ROps.d (r := ptr [i64 a0, i64 a1, sl a2.length (a2.map f32)]) (fs := []) (Γ' := [⟨0, none⟩, ⟨0, none⟩, ⟨0, none⟩, ⟨0, none⟩]) rfl rfl rfl (TOp.box_s rfl rfl rfl) rfl ?_
 refine ROps.d (r := ptr [i64 a3, i64 a4, sl a5.length (a5.map f32)]) (fs := []) (Γ' := [⟨0, none⟩, ⟨0, none⟩, ⟨0, none⟩, ⟨0, none⟩]) rfl rfl rfl (TOp.box_s rfl rfl rfl) rfl ?_
 refine ROps.d (r := ptr [i64 a6]) (fs := []) (Γ' := [⟨0, none⟩, ⟨0, none⟩, ⟨0, none⟩, ⟨0, none⟩]) rfl rfl rfl (TOp.box_s rfl rfl rfl) rfl ?_
 refine ROps.d (r := optr 0 1 0) (fs := [(0, [i64 0, i64 0, nilsl])]) (Γ' := [⟨1, some [i64 0, i64 0, nilsl]⟩, ⟨0, none⟩, ⟨0, none⟩, ⟨0, none⟩]) rfl rfl rfl (TOp.alloc_o (g := ⟨0, none⟩) 0 rfl zer26 zok26 rfl) rfl ?_
 refine zA (r := b false) rfl rfl rfl rfl rfl ?_
 refine zN ?_
 iterate 2 (refine RunC.seq ?_)
 obtain ⟨r1, hf1, h⟩ := obind_some h
 rcases bsel_some h with ⟨hc2, h⟩ | ⟨hc2, h⟩
 ·obtain ⟨r2, hf3, h⟩ := obind_some h
  rcases bsel_some h with ⟨hc4, h⟩ | ⟨hc4, h⟩
  ·refine RunC.regionW ?_
   refine zL (r := agg [i64 a0, i64 a1, sl a2.length (a2.map f32)]) rfl rfl rfl (LOp.loadAgg agg26 siz26 rfl rfl rfl rfl) ?_
   refine zL (r := agg [i64 a3, i64 a4, sl a5.length (a5.map f32)]) rfl rfl rfl (LOp.loadAgg agg26 siz26 rfl rfl rfl rfl) ?_
   refine ROps.d (r := b true) (fs := []) (Γ' := [⟨1, some [i64 0, i64 0, nilsl]⟩, ⟨0, none⟩, ⟨0, none⟩, ⟨0, none⟩]) rfl rfl rfl (TOp.eqb (TOp.callB (CallAs.func ent56 rfl rfl) (Bors.cons (Bor.agg (Bors.cons (Bor.pure rfl) (Bors.cons (Bor.pure rfl) (Bors.cons (Bor.sl (fun _ => rfl)) Bors.nil)))) (Bors.cons (Bor.agg (Bors.cons (Bor.pure rfl) (Bors.cons (Bor.pure rfl) (Bors.cons (Bor.sl (fun _ => rfl)) Bors.nil)))) Bors.nil)) rfl rfl (i_areFactors_ok a0 a1 a2 a3 a4 a5 r1 hf1)) hc2) rfl ?_
   refine zL (r := b false) rfl rfl rfl (LOp.eqb (LOp.not rfl rfl) rfl) ?_
   refine zM (r := b false) rfl rfl rfl rfl rfl ?_
   refine zL (r := i64 a6) rfl rfl rfl (LOp.load1 agg2 rfl rfl) ?_
   refine ROps.d (r := b true) (fs := []) (Γ' := [⟨1, some [i64 0, i64 0, nilsl]⟩, ⟨0, none⟩, ⟨0, none⟩, ⟨0, none⟩]) rfl rfl rfl (TOp.eqb (TOp.callB (CallAs.func ent59 rfl rfl) (Bors.cons (Bor.pure rfl) Bors.nil) rfl rfl (i_isSide_ok a6 r2 hf3)) hc4) rfl ?_
   refine zL (r := b false) rfl rfl rfl (LOp.eqb (LOp.not rfl rfl) rfl) ?_
   refine zL (r := b false) rfl rfl rfl (LOp.pick_false rfl rfl rfl) ?_
   refine zN ?_
   refine RunC.cond_false rfl rfl ?_
   refine RunC.skip ?_
   refine RunC.wl (τ' := [(3, ptr [i64 a0, i64 a1, sl a2.length (a2.map f32)]), (4, ptr [i64 a3, i64 a4, sl a5.length (a5.map f32)]), (5, ptr [i64 a6]), (6, optr 0 1 0)]) (Γ' := [⟨1, some [i64 0, i64 0, nilsl]⟩, ⟨0, none⟩, ⟨0, none⟩, ⟨0, none⟩]) ⟨aR, aR, aR, aR, trivial⟩ ⟨⟨rfl, .inr rfl⟩, ⟨rfl, .inr rfl⟩, ⟨rfl, .inr rfl⟩, ⟨rfl, .inr rfl⟩, trivial⟩ ?_
   refine RunC.seq ?_
   obtain ⟨r3, r4, r5, hf5, h⟩ := obind3_some h
   refine RunC.regionW ?_
   refine zL (r := ptr [i64 a0, i64 a1, sl a2.length (a2.map f32)]) rfl rfl rfl (LOp.fap und26 rfl siz2 rfl rfl rfl) ?_
   refine zL (r := i64 a0) rfl rfl rfl (LOp.load1 agg2 rfl rfl) ?_
   refine zL (r := ptr [i64 a4, sl a5.length (a5.map f32)]) rfl rfl rfl (LOp.fap und26 rfl siz2 rfl rfl rfl) ?_
   refine zL (r := i64 a4) rfl rfl rfl (LOp.load1 agg2 rfl rfl) ?_
   refine zL (r := fn (.func 61) [] [ptr [i64 a0, i64 a1, sl a2.length (a2.map f32)], ptr [i64 a3, i64 a4, sl a5.length (a5.map f32)], ptr [i64 a6]]) rfl rfl rfl (LOp.makeFunc rfl rfl) ?_
   refine ROps.d (r := agg [i64 r3, i64 r4, oref 1 1 0 r5.length]) (fs := [(1, (r5.map f32))]) (Γ' := [⟨1, some [i64 0, i64 0, nilsl]⟩, ⟨1, some (r5.map f32)⟩, ⟨0, none⟩, ⟨0, none⟩]) rfl rfl rfl (TOp.callBN (ls := [(r5.map f32)]) [1] (CallAs.func ent60 rfl rfl) (Bors.cons (Bor.pure rfl) (Bors.cons (Bor.pure rfl) (Bors.cons (Bor.fn Bors.nil (Bors.cons (Bor.ptr (Bors.cons (Bor.pure rfl) (Bors.cons (Bor.pure rfl) (Bors.cons (Bor.sl (fun _ => rfl)) Bors.nil)))) (Bors.cons (Bor.ptr (Bors.cons (Bor.pure rfl) (Bors.cons (Bor.pure rfl) (Bors.cons (Bor.sl (fun _ => rfl)) Bors.nil)))) (Bors.cons (Bor.ptr (Bors.cons (Bor.pure rfl) Bors.nil)) Bors.nil)))) Bors.nil))) rfl (i_made_2Fi_MulBlocks_1_ok a0 a4 a0 a1 a2 a3 a4 a5 a6 r3 r4 r5 hf5) (and_all (lts0_map (f := f32) (fun _ => rfl) _) rfl) (and_all (noss_map (f := f32) (fun _ => rfl) _) rfl) rfl (by decide) (ns_of ⟨⟨_, rfl⟩, trivial⟩)) rfl ?_
   refine ROps.d (r := optr 2 1 0) (fs := [(2, [i64 0, i64 0, nilsl])]) (Γ' := [⟨1, some [i64 0, i64 0, nilsl]⟩, ⟨1, some (r5.map f32)⟩, ⟨1, some [i64 0, i64 0, nilsl]⟩, ⟨0, none⟩]) rfl rfl rfl (TOp.alloc_o (g := ⟨0, none⟩) 2 rfl zer26 zok26 rfl) rfl ?_
   refine ROps.store_le (r := agg [i64 r3, i64 r4, oref 1 1 0 r5.length]) (l' := [i64 r3, i64 r4, oref 1 1 0 r5.length]) (Γ' := [⟨1, some [i64 0, i64 0, nilsl]⟩, ⟨1, some (r5.map f32)⟩, ⟨1, some [i64 r3, i64 r4, oref 1 1 0 r5.length]⟩, ⟨0, none⟩]) rfl siz26 rfl rfl rfl aR rfl rfl rfl rfl (Nat.le_of_ble_eq_true rfl) rfl rfl ?_
   refine zN ?_
   refine RunC.seq ?_
   obtain ⟨z1, hf6, h⟩ := obind_some h
   rcases z1 with z1 | z1
   ·replace h := (osum_inl _ _ _).symm.trans h
    obtain ⟨r6, r7, r8, r9, hz2, h⟩ := obind4_some h
    cases hz2
    obtain ⟨hn7, h⟩ := need_some h
    refine RunC.regionW ?_
    refine ROps.d (r := agg [i64 r3, i64 r4, oref 1 1 0 r5.length]) (fs := []) (Γ' := [⟨1, some [i64 0, i64 0, nilsl]⟩, ⟨1, some (r5.map f32)⟩, ⟨1, some [i64 r3, i64 r4, oref 1 1 0 r5.length]⟩, ⟨0, none⟩]) rfl rfl rfl (TOp.loadAgg_o rfl agg26 siz26 rfl rfl rfl rfl) rfl ?_
    refine ROps.callO (A := [agg [i64 r3, i64 r4, oref 1 1 0 r5.length]]) (args := [agg [i64 r3, i64 r4, oref 0 0 0 r5.length]]) (Γc := [⟨0, some (r5.map f32)⟩]) (Γc' := [⟨0, some (r9.map f32)⟩]) (r' := tup [agg [i64 r6, i64 r7, oref 1 1 0 r5.length], b r8]) (Γ' := [⟨1, some [i64 0, i64 0, nilsl]⟩, ⟨1, some (r9.map f32)⟩, ⟨1, some [i64 r3, i64 r4, oref 1 1 0 r5.length]⟩, ⟨0, none⟩]) [(1, 1)] [] rfl (CallAs.func ent58 rfl rfl) rfl rfl (SelOk.of (show List.Nodup [1] from by decide) (SelL.arr0 (f := f32) (fun _ => rfl) rfl trivial)) (live_of ⟨⟨_, _, rfl⟩, trivial⟩) (by simp [ren, rens, sigma, rens_f32, rens_f64, rens_i64, rens_ik, rens_str, rens_cp]) rfl (i_Matrix_valid_02o_ok0 r3 r4 r5 r6 r7 r8 r9 hf6) rfl (news_of trivial) (show List.Nodup [1] from by decide) (by simp [ren, rens, sigma, of_decide_eq_true hn7]) (by simp [backOb, sigma, ren, rens, rens_f32, rens_f64, rens_i64, rens_ik, rens_str, rens_cp]) ?_
    refine zL (r := agg [i64 r6, i64 r7, oref 1 1 0 r5.length]) rfl rfl rfl (LOp.extract rfl rfl rfl) ?_
    refine zL (r := b r8) rfl rfl rfl (LOp.extract rfl rfl rfl) ?_
    refine ROps.store_le (r := agg [i64 r6, i64 r7, oref 1 1 0 r5.length]) (l' := [i64 r6, i64 r7, oref 1 1 0 r5.length]) (Γ' := [⟨1, some [i64 r6, i64 r7, oref 1 1 0 r5.length]⟩, ⟨1, some (r9.map f32)⟩, ⟨1, some [i64 r3, i64 r4, oref 1 1 0 r5.length]⟩, ⟨0, none⟩]) rfl siz26 rfl rfl rfl aR rfl rfl rfl rfl (Nat.le_of_ble_eq_true rfl) rfl rfl ?_
    refine zA (r := b r8) rfl rfl rfl rfl rfl ?_
    refine zN ?_
    refine RunC.ret ?_
    have hq := Option.some.inj h
    obtain ⟨hq0, hq⟩ := Prod.mk.inj hq
    obtain ⟨hq1, hq⟩ := Prod.mk.inj hq
    obtain ⟨hq2, hq⟩ := Prod.mk.inj hq
    subst q0
    subst q1
    subst q2
    subst q3
    exact bodyQ.mk (r' := tup [agg [i64 r6, i64 r7, oref 1 1 0 r9.length], b r8]) [(1, 1)] (.inr rfl) rfl (show List.Nodup [1] from by decide) rfl rfl (Res.eq (Res.two rfl (RV.cell agg26 siz26 rfl rfl rfl rfl) (RV.tmp rfl)) (by rw [(show r9.length = r5.length from (of_decide_eq_true hn7))] <;> rfl)) (SelL.arr0 (f := f32) (fun _ => rfl) rfl trivial)
   ·replace h := (osum_inr _ _ _).symm.trans h
    obtain ⟨r10, r11, r12, r13, r14, hz3, h⟩ := obind5_some h
    cases hz3
    obtain ⟨hn8, h⟩ := need_some h
    refine RunC.regionW ?_
    refine ROps.d (r := agg [i64 r3, i64 r4, oref 1 1 0 r5.length]) (fs := []) (Γ' := [⟨1, some [i64 0, i64 0, nilsl]⟩, ⟨1, some (r5.map f32)⟩, ⟨1, some [i64 r3, i64 r4, oref 1 1 0 r5.length]⟩, ⟨0, none⟩]) rfl rfl rfl (TOp.loadAgg_o rfl agg26 siz26 rfl rfl rfl rfl) rfl ?_
    refine ROps.callO (A := [agg [i64 r3, i64 r4, oref 1 1 0 r5.length]]) (args := [agg [i64 r3, i64 r4, oref 0 0 0 r5.length]]) (Γc := [⟨0, some (r5.map f32)⟩]) (Γc' := [⟨0, some (r13.map f32)⟩, ⟨0, some (r14.map f32)⟩]) (r' := tup [agg [i64 r10, i64 r11, oref 3 1 0 r14.length], b r12]) (Γ' := [⟨1, some [i64 0, i64 0, nilsl]⟩, ⟨1, some (r13.map f32)⟩, ⟨1, some [i64 r3, i64 r4, oref 1 1 0 r5.length]⟩, ⟨1, some (r14.map f32)⟩]) [(1, 1)] [(3, 1)] rfl (CallAs.func ent58 rfl rfl) rfl rfl (SelOk.of (show List.Nodup [1] from by decide) (SelL.arr0 (f := f32) (fun _ => rfl) rfl trivial)) (live_of ⟨⟨_, _, rfl⟩, trivial⟩) (by simp [ren, rens, sigma, rens_f32, rens_f64, rens_i64, rens_ik, rens_str, rens_cp]) rfl (i_Matrix_valid_02o_ok1 r3 r4 r5 r10 r11 r12 r13 r14 hf6) rfl (news_of ⟨⟨_, rfl, rfl⟩, trivial⟩) (show List.Nodup [1, 3] from by decide) (by simp [ren, rens, sigma, of_decide_eq_true hn8]) (by simp [backOb, sigma, ren, rens, rens_f32, rens_f64, rens_i64, rens_ik, rens_str, rens_cp]) ?_
    refine zL (r := agg [i64 r10, i64 r11, oref 3 1 0 r14.length]) rfl rfl rfl (LOp.extract rfl rfl rfl) ?_
    refine zL (r := b r12) rfl rfl rfl (LOp.extract rfl rfl rfl) ?_
    refine ROps.store_le (r := agg [i64 r10, i64 r11, oref 3 1 0 r14.length]) (l' := [i64 r10, i64 r11, oref 3 1 0 r14.length]) (Γ' := [⟨1, some [i64 r10, i64 r11, oref 3 1 0 r14.length]⟩, ⟨1, some (r13.map f32)⟩, ⟨1, some [i64 r3, i64 r4, oref 1 1 0 r5.length]⟩, ⟨1, some (r14.map f32)⟩]) rfl siz26 rfl rfl rfl aR rfl rfl rfl rfl (Nat.le_of_ble_eq_true rfl) rfl rfl ?_
    refine zA (r := b r12) rfl rfl rfl rfl rfl ?_
    refine zN ?_
    refine RunC.ret ?_
    have hq := Option.some.inj h
    obtain ⟨hq0, hq⟩ := Prod.mk.inj hq
    obtain ⟨hq1, hq⟩ := Prod.mk.inj hq
    obtain ⟨hq2, hq⟩ := Prod.mk.inj hq
    subst q0
    subst q1
    subst q2
    subst q3
    exact bodyQ.mk (r' := tup [agg [i64 r10, i64 r11, oref 3 1 0 r14.length], b r12]) [(3, 1)] (.inr rfl) rfl (show List.Nodup [3] from by decide) rfl rfl (Res.two rfl (RV.cell agg26 siz26 rfl rfl rfl rfl) (RV.tmp rfl)) (SelL.arr0 (f := f32) (fun _ => rfl) rfl trivial)
  ·refine RunC.regionW ?_
   refine zL (r := agg [i64 a0, i64 a1, sl a2.length (a2.map f32)]) rfl rfl rfl (LOp.loadAgg agg26 siz26 rfl rfl rfl rfl) ?_
   refine zL (r := agg [i64 a3, i64 a4, sl a5.length (a5.map f32)]) rfl rfl rfl (LOp.loadAgg agg26 siz26 rfl rfl rfl rfl) ?_
   refine ROps.d (r := b true) (fs := []) (Γ' := [⟨1, some [i64 0, i64 0, nilsl]⟩, ⟨0, none⟩, ⟨0, none⟩, ⟨0, none⟩]) rfl rfl rfl (TOp.eqb (TOp.callB (CallAs.func ent56 rfl rfl) (Bors.cons (Bor.agg (Bors.cons (Bor.pure rfl) (Bors.cons (Bor.pure rfl) (Bors.cons (Bor.sl (fun _ => rfl)) Bors.nil)))) (Bors.cons (Bor.agg (Bors.cons (Bor.pure rfl) (Bors.cons (Bor.pure rfl) (Bors.cons (Bor.sl (fun _ => rfl)) Bors.nil)))) Bors.nil)) rfl rfl (i_areFactors_ok a0 a1 a2 a3 a4 a5 r1 hf1)) hc2) rfl ?_
   refine zL (r := b false) rfl rfl rfl (LOp.eqb (LOp.not rfl rfl) rfl) ?_
   refine zM (r := b false) rfl rfl rfl rfl rfl ?_
   refine zL (r := i64 a6) rfl rfl rfl (LOp.load1 agg2 rfl rfl) ?_
   refine ROps.d (r := b false) (fs := []) (Γ' := [⟨1, some [i64 0, i64 0, nilsl]⟩, ⟨0, none⟩, ⟨0, none⟩, ⟨0, none⟩]) rfl rfl rfl (TOp.eqb (TOp.callB (CallAs.func ent59 rfl rfl) (Bors.cons (Bor.pure rfl) Bors.nil) rfl rfl (i_isSide_ok a6 r2 hf3)) hc4) rfl ?_
   refine zL (r := b true) rfl rfl rfl (LOp.eqb (LOp.not rfl rfl) rfl) ?_
   refine zL (r := b true) rfl rfl rfl (LOp.pick_false rfl rfl rfl) ?_
   refine zN ?_
   refine RunC.cond_true rfl rfl ?_
   refine zQ ?_
   refine zL (r := agg [i64 0, i64 0, nilsl]) rfl rfl rfl (LOp.build (qs := []) zer26 zok26 und26 plc26 rfl trivial rfl) ?_
   refine ROps.store_le (r := agg [i64 0, i64 0, nilsl]) (l' := [i64 0, i64 0, nilsl]) (Γ' := [⟨1, some [i64 0, i64 0, nilsl]⟩, ⟨0, none⟩, ⟨0, none⟩, ⟨0, none⟩]) rfl siz26 rfl rfl rfl aR rfl rfl rfl rfl (Nat.le_of_ble_eq_true rfl) rfl rfl ?_
   refine zA (r := b false) rfl rfl rfl rfl rfl ?_
   refine zN ?_
   refine RunC.nil_cell (l' := [i64 0, i64 0, oref 1 1 0 0]) (Γ' := [⟨1, some [i64 0, i64 0, oref 1 1 0 0]⟩, ⟨1, some (([] : List F).map f32)⟩, ⟨0, none⟩, ⟨0, none⟩]) 0 2 1 rfl rfl rfl rfl rfl ?_
   refine RunC.ret ?_
   have hq := Option.some.inj h
   obtain ⟨hq0, hq⟩ := Prod.mk.inj hq
   obtain ⟨hq1, hq⟩ := Prod.mk.inj hq
   obtain ⟨hq2, hq⟩ := Prod.mk.inj hq
   subst q0
   subst q1
   subst q2
   subst q3
   exact bodyQ.mk (r' := tup [agg [i64 0, i64 0, oref 1 1 0 (([] : List F).length)], b false]) [(1, 1)] (.inr rfl) rfl (show List.Nodup [1] from by decide) rfl rfl (Res.eq (Res.two rfl (RV.cell agg26 siz26 rfl rfl rfl rfl) (RV.tmp rfl)) (by rw [(show ([] : List F).length = 0 from rfl)] <;> rfl)) (SelL.arr0 (f := f32) (fun _ => rfl) rfl trivial)
 ·refine RunC.regionW ?_
  refine zL (r := agg [i64 a0, i64 a1, sl a2.length (a2.map f32)]) rfl rfl rfl (LOp.loadAgg agg26 siz26 rfl rfl rfl rfl) ?_
  refine zL (r := agg [i64 a3, i64 a4, sl a5.length (a5.map f32)]) rfl rfl rfl (LOp.loadAgg agg26 siz26 rfl rfl rfl rfl) ?_
  refine ROps.d (r := b false) (fs := []) (Γ' := [⟨1, some [i64 0, i64 0, nilsl]⟩, ⟨0, none⟩, ⟨0, none⟩, ⟨0, none⟩]) rfl rfl rfl (TOp.eqb (TOp.callB (CallAs.func ent56 rfl rfl) (Bors.cons (Bor.agg (Bors.cons (Bor.pure rfl) (Bors.cons (Bor.pure rfl) (Bors.cons (Bor.sl (fun _ => rfl)) Bors.nil)))) (Bors.cons (Bor.agg (Bors.cons (Bor.pure rfl) (Bors.cons (Bor.pure rfl) (Bors.cons (Bor.sl (fun _ => rfl)) Bors.nil)))) Bors.nil)) rfl rfl (i_areFactors_ok a0 a1 a2 a3 a4 a5 r1 hf1)) hc2) rfl ?_
  refine zL (r := b true) rfl rfl rfl (LOp.eqb (LOp.not rfl rfl) rfl) ?_
  refine zM (r := b true) rfl rfl rfl rfl rfl ?_
  iterate 3 (refine ROps.s rfl rfl rfl ?_)
  refine zL (r := b true) rfl rfl rfl (LOp.pick_true rfl rfl rfl) ?_
  refine zN ?_
  refine RunC.cond_true rfl rfl ?_
  refine zQ ?_
  refine zL (r := agg [i64 0, i64 0, nilsl]) rfl rfl rfl (LOp.build (qs := []) zer26 zok26 und26 plc26 rfl trivial rfl) ?_
  refine ROps.store_le (r := agg [i64 0, i64 0, nilsl]) (l' := [i64 0, i64 0, nilsl]) (Γ' := [⟨1, some [i64 0, i64 0, nilsl]⟩, ⟨0, none⟩, ⟨0, none⟩, ⟨0, none⟩]) rfl siz26 rfl rfl rfl aR rfl rfl rfl rfl (Nat.le_of_ble_eq_true rfl) rfl rfl ?_
  refine zA (r := b false) rfl rfl rfl rfl rfl ?_
  refine zN ?_
  refine RunC.nil_cell (l' := [i64 0, i64 0, oref 1 1 0 0]) (Γ' := [⟨1, some [i64 0, i64 0, oref 1 1 0 0]⟩, ⟨1, some (([] : List F).map f32)⟩, ⟨0, none⟩, ⟨0, none⟩]) 0 2 1 rfl rfl rfl rfl rfl ?_
  refine RunC.ret ?_
  have hq := Option.some.inj h
  obtain ⟨hq0, hq⟩ := Prod.mk.inj hq
  obtain ⟨hq1, hq⟩ := Prod.mk.inj hq
  obtain ⟨hq2, hq⟩ := Prod.mk.inj hq
  subst q0
  subst q1
  subst q2
  subst q3
  exact bodyQ.mk (r' := tup [agg [i64 0, i64 0, oref 1 1 0 (([] : List F).length)], b false]) [(1, 1)] (.inr rfl) rfl (show List.Nodup [1] from by decide) rfl rfl (Res.eq (Res.two rfl (RV.cell agg26 siz26 rfl rfl rfl rfl) (RV.tmp rfl)) (by rw [(show ([] : List F).length = 0 from rfl)] <;> rfl)) (SelL.arr0 (f := f32) (fun _ => rfl) rfl trivial)
noncomputable def i_MulShared (a0 : Int) (a1 : Int) (a2 : List F) (a3 : Int) (a4 : Int) (a5 : List F) (a6 : Int) : Option (Int × Int × Bool × (List F)) :=
 obind (i_inRange a6 1 8) fun (r1 : Bool) =>
 bsel r1 (
  obind4 (i_MulMatrices a0 a1 a2 a3 a4 a5) fun (r2 : Int) (r3 : Int) (r4 : Bool) (r5 : List F) =>
  some (r2, r3, r4, r5)) (
  some (0, 0, false, ([] : List F)))
theorem i_MulShared_ok (a0 : Int) (a1 : Int) (a2 : List F) (a3 : Int) (a4 : Int) (a5 : List F) (a6 : Int) (q0 : Int) (q1 : Int) (q2 : Bool) (q3 : List F) (h : i_MulShared a0 a1 a2 a3 a4 a5 a6 = some (q0, q1, q2, q3)) : Ev Try.prog 13 [agg [i64 a0, i64 a1, sl a2.length (a2.map f32)], agg [i64 a3, i64 a4, sl a5.length (a5.map f32)], i64 a6] [] (tup [agg [i64 q0, i64 q1, oref 0 0 0 q3.length], b q2]) [⟨0, some (q3.map f32)⟩] := by
 refine Ev.start Try.func13 rfl rfl 2 (τ := [(0, agg [i64 a0, i64 a1, sl a2.length (a2.map f32)]), (1, agg [i64 a3, i64 a4, sl a5.length (a5.map f32)]), (2, i64 a6)]) rfl (Γ' := [⟨0, none⟩, ⟨0, none⟩]) rfl (n := 35) rfl (g := 0) rfl (fun _ => rfl) ?_
 unfold i_MulShared at h
 refine zQ ?_
 refine ROps.d (r := ptr [i64 a0, i64 a1, sl a2.length (a2.map f32)]) (fs := []) (Γ' := [⟨0, none⟩, ⟨0, none⟩]) rfl rfl rfl (TOp.box_s rfl rfl rfl) rfl ?_
 refine ROps.d (r := ptr [i64 a3, i64 a4, sl a5.length (a5.map f32)]) (fs := []) (Γ' := [⟨0, none⟩, ⟨0, none⟩]) rfl rfl rfl (TOp.box_s rfl rfl rfl) rfl ?_
 refine ROps.d (r := optr 0 1 0) (fs := [(0, [i64 0, i64 0, nilsl])]) (Γ' := [⟨1, some [i64 0, i64 0, nilsl]⟩, ⟨0, none⟩]) rfl rfl rfl (TOp.alloc_o (g := ⟨0, none⟩) 0 rfl zer26 zok26 rfl) rfl ?_
 refine zA (r := b false) rfl rfl rfl rfl rfl ?_
 refine zN ?_
 iterate 2 (refine RunC.seq ?_)
 obtain ⟨r1, hf1, h⟩ := obind_some h
 rcases bsel_some h with ⟨hc2, h⟩ | ⟨hc2, h⟩
 ·refine RunC.regionW ?_
  refine zM (r := i64 a6) rfl rfl rfl rfl rfl ?_
  refine ROps.d (r := b true) (fs := []) (Γ' := [⟨1, some [i64 0, i64 0, nilsl]⟩, ⟨0, none⟩]) rfl rfl rfl (TOp.eqb (TOp.callB (CallAs.func ent65 rfl rfl) (Bors.cons (Bor.pure rfl) (Bors.cons (Bor.pure rfl) (Bors.cons (Bor.pure rfl) Bors.nil))) rfl rfl (i_inRange_ok a6 1 8 r1 hf1)) hc2) rfl ?_
  refine zL (r := b false) rfl rfl rfl (LOp.eqb (LOp.not rfl rfl) rfl) ?_
  refine zN ?_
  refine RunC.cond_false rfl rfl ?_
  refine RunC.skip ?_
  refine RunC.seq ?_
  obtain ⟨r2, r3, r4, r5, hf3, h⟩ := obind4_some h
  refine RunC.regionW ?_
  refine zL (r := agg [i64 a0, i64 a1, sl a2.length (a2.map f32)]) rfl rfl rfl (LOp.loadAgg agg26 siz26 rfl rfl rfl rfl) ?_
  refine zL (r := agg [i64 a3, i64 a4, sl a5.length (a5.map f32)]) rfl rfl rfl (LOp.loadAgg agg26 siz26 rfl rfl rfl rfl) ?_
  refine ROps.d (r := tup [agg [i64 r2, i64 r3, oref 1 1 0 r5.length], b r4]) (fs := [(1, (r5.map f32))]) (Γ' := [⟨1, some [i64 0, i64 0, nilsl]⟩, ⟨1, some (r5.map f32)⟩]) rfl rfl rfl (TOp.callBN (ls := [(r5.map f32)]) [1] (CallAs.func ent11 rfl rfl) (Bors.cons (Bor.agg (Bors.cons (Bor.pure rfl) (Bors.cons (Bor.pure rfl) (Bors.cons (Bor.sl (fun _ => rfl)) Bors.nil)))) (Bors.cons (Bor.agg (Bors.cons (Bor.pure rfl) (Bors.cons (Bor.pure rfl) (Bors.cons (Bor.sl (fun _ => rfl)) Bors.nil)))) Bors.nil)) rfl (i_MulMatrices_ok a0 a1 a2 a3 a4 a5 r2 r3 r4 r5 hf3) (and_all (lts0_map (f := f32) (fun _ => rfl) _) rfl) (and_all (noss_map (f := f32) (fun _ => rfl) _) rfl) rfl (by decide) (ns_of ⟨⟨_, rfl⟩, trivial⟩)) rfl ?_
  refine zL (r := agg [i64 r2, i64 r3, oref 1 1 0 r5.length]) rfl rfl rfl (LOp.extract rfl rfl rfl) ?_
  refine zL (r := b r4) rfl rfl rfl (LOp.extract rfl rfl rfl) ?_
  refine ROps.store_le (r := agg [i64 r2, i64 r3, oref 1 1 0 r5.length]) (l' := [i64 r2, i64 r3, oref 1 1 0 r5.length]) (Γ' := [⟨1, some [i64 r2, i64 r3, oref 1 1 0 r5.length]⟩, ⟨1, some (r5.map f32)⟩]) rfl siz26 rfl rfl rfl aR rfl rfl rfl rfl (Nat.le_of_ble_eq_true rfl) rfl rfl ?_
  refine zA (r := b r4) rfl rfl rfl rfl rfl ?_
  refine zN ?_
  refine RunC.ret ?_
  have hq := Option.some.inj h
  obtain ⟨hq0, hq⟩ := Prod.mk.inj hq
  obtain ⟨hq1, hq⟩ := Prod.mk.inj hq
  obtain ⟨hq2, hq⟩ := Prod.mk.inj hq
  subst q0
  subst q1
  subst q2
  subst q3
  exact bodyQ.mk (r' := tup [agg [i64 r2, i64 r3, oref 1 1 0 r5.length], b r4]) [(1, 1)] (.inr rfl) rfl (show List.Nodup [1] from by decide) rfl rfl (Res.two rfl (RV.cell agg26 siz26 rfl rfl rfl rfl) (RV.tmp rfl)) (SelL.arr0 (f := f32) (fun _ => rfl) rfl trivial)
 ·refine RunC.regionW ?_
  refine zM (r := i64 a6) rfl rfl rfl rfl rfl ?_
  refine ROps.d (r := b false) (fs := []) (Γ' := [⟨1, some [i64 0, i64 0, nilsl]⟩, ⟨0, none⟩]) rfl rfl rfl (TOp.eqb (TOp.callB (CallAs.func ent65 rfl rfl) (Bors.cons (Bor.pure rfl) (Bors.cons (Bor.pure rfl) (Bors.cons (Bor.pure rfl) Bors.nil))) rfl rfl (i_inRange_ok a6 1 8 r1 hf1)) hc2) rfl ?_
  refine zL (r := b true) rfl rfl rfl (LOp.eqb (LOp.not rfl rfl) rfl) ?_
  refine zN ?_
  refine RunC.cond_true rfl rfl ?_
  refine zQ ?_
  refine zL (r := agg [i64 0, i64 0, nilsl]) rfl rfl rfl (LOp.build (qs := []) zer26 zok26 und26 plc26 rfl trivial rfl) ?_
  refine ROps.store_le (r := agg [i64 0, i64 0, nilsl]) (l' := [i64 0, i64 0, nilsl]) (Γ' := [⟨1, some [i64 0, i64 0, nilsl]⟩, ⟨0, none⟩]) rfl siz26 rfl rfl rfl aR rfl rfl rfl rfl (Nat.le_of_ble_eq_true rfl) rfl rfl ?_
  refine zA (r := b false) rfl rfl rfl rfl rfl ?_
  refine zN ?_
  refine RunC.nil_cell (l' := [i64 0, i64 0, oref 1 1 0 0]) (Γ' := [⟨1, some [i64 0, i64 0, oref 1 1 0 0]⟩, ⟨1, some (([] : List F).map f32)⟩]) 0 2 1 rfl rfl rfl rfl rfl ?_
  refine RunC.ret ?_
  have hq := Option.some.inj h
  obtain ⟨hq0, hq⟩ := Prod.mk.inj hq
  obtain ⟨hq1, hq⟩ := Prod.mk.inj hq
  obtain ⟨hq2, hq⟩ := Prod.mk.inj hq
  subst q0
  subst q1
  subst q2
  subst q3
  exact bodyQ.mk (r' := tup [agg [i64 0, i64 0, oref 1 1 0 (([] : List F).length)], b false]) [(1, 1)] (.inr rfl) rfl (show List.Nodup [1] from by decide) rfl rfl (Res.eq (Res.two rfl (RV.cell agg26 siz26 rfl rfl rfl rfl) (RV.tmp rfl)) (by rw [(show ([] : List F).length = 0 from rfl)] <;> rfl)) (SelL.arr0 (f := f32) (fun _ => rfl) rfl trivial)
noncomputable def i_Matrix_flip_1 (a0 : Int) (a1 : Int) (a2 : Int) (a3 : Int) (a4 : List F) : Option (F) :=
 obind (i_Matrix_at a2 a3 a4 a1 a0) fun (r1 : F) =>
 some r1
theorem i_Matrix_flip_1_ok (a0 : Int) (a1 : Int) (a2 : Int) (a3 : Int) (a4 : List F) (q0 : F) (h : i_Matrix_flip_1 a0 a1 a2 a3 a4 = some q0) : Ev Try.prog 128 [i64 a0, i64 a1, ptr [i64 a2, i64 a3, sl a4.length (a4.map f32)]] [] (f32 q0) [] := by
 refine Ev.start Try.func128 rfl rfl 0 (τ := [(0, i64 a0), (1, i64 a1), (2, ptr [i64 a2, i64 a3, sl a4.length (a4.map f32)])]) rfl (Γ' := []) rfl (n := 21) rfl (g := 0) rfl (fun _ => rfl) ?_
 unfold i_Matrix_flip_1 at h
 refine zQ ?_
 refine zL (r := f32 (some 0)) rfl rfl rfl (LOp.le (LOp.assign rfl rfl) (ALe.fl (by kernel_rfl) (by kernel_rfl))) ?_
 refine zN ?_
 refine RunC.seq ?_
 obtain ⟨r1, hf1, h⟩ := obind_some h
 refine RunC.regionW ?_
 refine zL (r := agg [i64 a2, i64 a3, sl a4.length (a4.map f32)]) rfl rfl rfl (LOp.loadAgg agg26 siz26 rfl rfl rfl rfl) ?_
 refine zM (r := i64 a1) rfl rfl rfl rfl rfl ?_
 refine zM (r := i64 a0) rfl rfl rfl rfl rfl ?_
 refine ROps.d (r := f32 r1) (fs := []) (Γ' := []) rfl rfl rfl (TOp.callB (CallAs.func ent76 rfl rfl) (Bors.cons (Bor.agg (Bors.cons (Bor.pure rfl) (Bors.cons (Bor.pure rfl) (Bors.cons (Bor.sl (fun _ => rfl)) Bors.nil)))) (Bors.cons (Bor.pure rfl) (Bors.cons (Bor.pure rfl) Bors.nil))) rfl rfl (i_Matrix_at_ok a2 a3 a4 a1 a0 r1 hf1)) rfl ?_
 refine zA (r := f32 r1) rfl rfl rfl rfl rfl ?_
 refine zN ?_
 refine RunC.ret ?_
 have hq := Option.some.inj h
 subst q0
 exact bodyQ.pure (.inr rfl) rfl (Res.one rfl (RV.tmp rfl))
noncomputable def i_made_2Fi_Matrix_flip_1_b2 (a1 : Int) (a2 : Int) (a3 : Int) (a4 : List F) (r1 : Int) (r2 : Int) (r3 : List F) (v6 : Int) (L7 : List F) (v9 : Int) : Option (LR ((List F) × Int) ((List F)) (Int × Int × (List F))) :=
 bsel (decide (v9 < a1)) (
  obind (i_Matrix_flip_1 v6 v9 a2 a3 a4) fun (r11 : F) =>
  obind (i_Matrix_set_02o r1 r2 v6 v9 r11 L7) fun (r12 : List F) =>
  need (decide (r12.length = r3.length)) <|
  olet (IntKind.i64.wrap (v9 + 1)) fun (x13 : Int) =>
  some (LR.next (r12, x13))) (
  some (LR.out L7))
noncomputable def i_made_2Fi_Matrix_flip_1_s2 (a1 : Int) (a2 : Int) (a3 : Int) (a4 : List F) (r1 : Int) (r2 : Int) (r3 : List F) (v6 : Int) : ((List F) × Int) → Option (LR ((List F) × Int) ((List F)) (Int × Int × (List F))) := fun s => i_made_2Fi_Matrix_flip_1_b2 a1 a2 a3 a4 r1 r2 r3 v6 s.1 s.2
noncomputable def i_made_2Fi_Matrix_flip_1_k2 (v6 : Int) (L14 : List F) : Option (LR ((List F) × Int) ((List F)) (Int × Int × (List F))) :=
 olet (IntKind.i64.wrap (v6 + 1)) fun (x16 : Int) =>
 some (LR.next (L14, x16))
noncomputable def i_made_2Fi_Matrix_flip_1_b3 (a0 : Int) (a1 : Int) (a2 : Int) (a3 : Int) (a4 : List F) (r1 : Int) (r2 : Int) (r3 : List F) (L4 : List F) (v6 : Int) : Option (LR ((List F) × Int) ((List F)) (Int × Int × (List F))) :=
 bsel (decide (v6 < a0)) (
  obind (loopM (i_made_2Fi_Matrix_flip_1_s2 a1 a2 a3 a4 r1 r2 r3 v6) (L4, 0)) fun z => osum z (fun e => i_made_2Fi_Matrix_flip_1_k2 v6 e) (fun r => some (LR.ret r))) (
  some (LR.out L4))
noncomputable def i_made_2Fi_Matrix_flip_1_s3 (a0 : Int) (a1 : Int) (a2 : Int) (a3 : Int) (a4 : List F) (r1 : Int) (r2 : Int) (r3 : List F) : ((List F) × Int) → Option (LR ((List F) × Int) ((List F)) (Int × Int × (List F))) := fun s => i_made_2Fi_Matrix_flip_1_b3 a0 a1 a2 a3 a4 r1 r2 r3 s.1 s.2
noncomputable def i_made_2Fi_Matrix_flip_1_k3 (r1 : Int) (r2 : Int) (L17 : List F) : Option (Int × Int × (List F)) :=
 some (r1, r2, L17)
noncomputable def i_made_2Fi_Matrix_flip_1 (a0 : Int) (a1 : Int) (a2 : Int) (a3 : Int) (a4 : List F) : Option (Int × Int × (List F)) :=
 obind3 (i_newMatrix a0 a1) fun (r1 : Int) (r2 : Int) (r3 : List F) =>
 obind (loopM (i_made_2Fi_Matrix_flip_1_s3 a0 a1 a2 a3 a4 r1 r2 r3) (r3, 0)) fun z => osum z (fun e => i_made_2Fi_Matrix_flip_1_k3 r1 r2 e) (fun r => some r)
theorem i_made_2Fi_Matrix_flip_1_ok (a0 : Int) (a1 : Int) (a2 : Int) (a3 : Int) (a4 : List F) (q0 : Int) (q1 : Int) (q2 : List F) (h : i_made_2Fi_Matrix_flip_1 a0 a1 a2 a3 a4 = some (q0, q1, q2)) : Ev Try.prog 60 [i64 a0, i64 a1, fn (.func 128) [] [ptr [i64 a2, i64 a3, sl a4.length (a4.map f32)]]] [] (agg [i64 q0, i64 q1, oref 0 0 0 q2.length]) [⟨0, some (q2.map f32)⟩] := by
 refine Ev.start Try.func60 rfl rfl 3 (τ := [(0, i64 a0), (1, i64 a1), (2, fn (.func 128) [] [ptr [i64 a2, i64 a3, sl a4.length (a4.map f32)]])]) rfl (Γ' := [⟨0, none⟩, ⟨0, none⟩, ⟨0, none⟩]) rfl (n := 65) rfl (g := 0) rfl (fun _ => rfl) ?_
 unfold i_made_2Fi_Matrix_flip_1 at h
 refine zQ ?_
 refine ROps.d (r := optr 0 1 0) (fs := [(0, [i64 0, i64 0, nilsl])]) (Γ' := [⟨1, some [i64 0, i64 0, nilsl]⟩, ⟨0, none⟩, ⟨0, none⟩]) rfl rfl rfl (TOp.alloc_o (g := ⟨0, none⟩) 0 rfl zer26 zok26 rfl) rfl ?_
 refine zN ?_
 refine RunC.seq ?_
 obtain ⟨r1, r2, r3, hf1, h⟩ := obind3_some h
 refine RunC.regionW ?_
 refine zM (r := i64 a0) rfl rfl rfl rfl rfl ?_
 refine zM (r := i64 a1) rfl rfl rfl rfl rfl ?_
 refine ROps.d (r := agg [i64 r1, i64 r2, oref 1 1 0 r3.length]) (fs := [(1, (r3.map f32))]) (Γ' := [⟨1, some [i64 0, i64 0, nilsl]⟩, ⟨1, some (r3.map f32)⟩, ⟨0, none⟩]) rfl rfl rfl (TOp.callBN (ls := [(r3.map f32)]) [1] (CallAs.func ent126 rfl rfl) (Bors.cons (Bor.pure rfl) (Bors.cons (Bor.pure rfl) Bors.nil)) rfl (i_newMatrix_ok a0 a1 r1 r2 r3 hf1) (and_all (lts0_map (f := f32) (fun _ => rfl) _) rfl) (and_all (noss_map (f := f32) (fun _ => rfl) _) rfl) rfl (by decide) (ns_of ⟨⟨_, rfl⟩, trivial⟩)) rfl ?_
 refine ROps.d (r := optr 2 1 0) (fs := [(2, [i64 0, i64 0, nilsl])]) (Γ' := [⟨1, some [i64 0, i64 0, nilsl]⟩, ⟨1, some (r3.map f32)⟩, ⟨1, some [i64 0, i64 0, nilsl]⟩]) rfl rfl rfl (TOp.alloc_o (g := ⟨0, none⟩) 2 rfl zer26 zok26 rfl) rfl ?_
 refine ROps.store_le (r := agg [i64 r1, i64 r2, oref 1 1 0 r3.length]) (l' := [i64 r1, i64 r2, oref 1 1 0 r3.length]) (Γ' := [⟨1, some [i64 0, i64 0, nilsl]⟩, ⟨1, some (r3.map f32)⟩, ⟨1, some [i64 r1, i64 r2, oref 1 1 0 r3.length]⟩]) rfl siz26 rfl rfl rfl aR rfl rfl rfl rfl (Nat.le_of_ble_eq_true rfl) rfl rfl ?_
 refine zN ?_
 refine RunC.seq ?_
 refine zQ ?_
 refine zM (r := i64 a0) rfl rfl rfl rfl rfl ?_
 refine zM (r := i64 0) rfl rfl rfl rfl rfl ?_
 refine zN ?_
 obtain ⟨z4, hz_4, h⟩ := obind_some h
 refine RunC.cutN (fun τ Γ => ∃ (L17 : List F), L17.length = r3.length ∧ WeakLe τ [(6, optr 0 1 0), (7, optr 2 1 0)] ∧ DeadLe Γ [⟨1, some [i64 0, i64 0, nilsl]⟩, ⟨1, some (L17.map f32)⟩, ⟨1, some [i64 r1, i64 r2, oref 1 1 0 r3.length]⟩] ∧ z4 = .inl L17) ?_ ?_
 ·refine RunC.block (RunC.loop (RunL.loopM (x := z4) (i_made_2Fi_Matrix_flip_1_s3 a0 a1 a2 a3 a4 r1 r2 r3) (fun (s : (List F) × Int) τ Γ => s.1.length = r3.length ∧ WeakLe τ [(1, i64 a1), (2, fn (.func 128) [] [ptr [i64 a2, i64 a3, sl a4.length (a4.map f32)]]), (6, optr 0 1 0), (7, optr 2 1 0), (13, i64 a0), (14, i64 s.2)] ∧ DeadLe Γ [⟨1, some [i64 0, i64 0, nilsl]⟩, ⟨1, some (s.1.map f32)⟩, ⟨1, some [i64 r1, i64 r2, oref 1 1 0 r3.length]⟩]) ?_ _ _ _ hz_4 ⟨rfl, ⟨aR, aR, aR, aR, aR, aR, trivial⟩, ⟨⟨rfl, .inr rfl⟩, ⟨rfl, .inr rfl⟩, ⟨rfl, .inr rfl⟩, trivial⟩⟩))
  rintro ⟨L4, v6⟩ τ4 Γ4 y4_ ⟨hl5, hw4, hd4⟩ h4_ ho4 hr4
  refine RunC.wl (τ' := [(1, i64 a1), (2, fn (.func 128) [] [ptr [i64 a2, i64 a3, sl a4.length (a4.map f32)]]), (6, optr 0 1 0), (7, optr 2 1 0), (13, i64 a0), (14, i64 v6)]) (Γ' := [⟨1, some [i64 0, i64 0, nilsl]⟩, ⟨1, some (L4.map f32)⟩, ⟨1, some [i64 r1, i64 r2, oref 1 1 0 r3.length]⟩]) hw4 hd4 ?_
  replace hl5 : L4.length = r3.length := hl5
  replace h4_ : i_made_2Fi_Matrix_flip_1_b3 a0 a1 a2 a3 a4 r1 r2 r3 L4 v6 = some y4_ := h4_
  unfold i_made_2Fi_Matrix_flip_1_b3 at h4_
  refine RunC.seq ?_
  rcases bsel_some h4_ with ⟨hc2, h4_⟩ | ⟨hc2, h4_⟩
  ·refine RunC.regionW ?_
   refine zL (r := b true) rfl rfl rfl (LOp.eqb (LOp.lss rfl rfl rfl) hc2) ?_
   refine zN ?_
   refine RunC.seq ?_
   refine RunC.cond_true rfl rfl ?_
   refine RunC.skip ?_
   refine RunC.seq ?_
   refine RunC.block ?_
   refine zQ ?_
   refine zM (r := i64 v6) rfl rfl rfl rfl rfl ?_
   refine zA (r := i64 v6) rfl rfl rfl rfl rfl ?_
   refine zN ?_
   refine zQ ?_
   refine zM (r := i64 a1) rfl rfl rfl rfl rfl ?_
   refine zM (r := i64 0) rfl rfl rfl rfl rfl ?_
   refine zN ?_
   obtain ⟨z5, hz_5, h4_⟩ := obind_some h4_
   refine RunC.cutN (fun τ Γ => ∃ (L14 : List F), L14.length = r3.length ∧ WeakLe τ [(1, i64 a1), (2, fn (.func 128) [] [ptr [i64 a2, i64 a3, sl a4.length (a4.map f32)]]), (6, optr 0 1 0), (7, optr 2 1 0), (13, i64 a0), (14, i64 v6)] ∧ DeadLe Γ [⟨1, some [i64 0, i64 0, nilsl]⟩, ⟨1, some (L14.map f32)⟩, ⟨1, some [i64 r1, i64 r2, oref 1 1 0 r3.length]⟩] ∧ z5 = .inl L14) ?_ ?_
   ·refine RunC.block (RunC.loop (RunL.loopM (x := z5) (i_made_2Fi_Matrix_flip_1_s2 a1 a2 a3 a4 r1 r2 r3 v6) (fun (s : (List F) × Int) τ Γ => s.1.length = r3.length ∧ WeakLe τ [(1, i64 a1), (2, fn (.func 128) [] [ptr [i64 a2, i64 a3, sl a4.length (a4.map f32)]]), (6, optr 0 1 0), (7, optr 2 1 0), (8, i64 v6), (13, i64 a0), (14, i64 v6), (17, i64 a1), (18, i64 s.2)] ∧ DeadLe Γ [⟨1, some [i64 0, i64 0, nilsl]⟩, ⟨1, some (s.1.map f32)⟩, ⟨1, some [i64 r1, i64 r2, oref 1 1 0 r3.length]⟩]) ?_ _ _ _ hz_5 ⟨hl5, ⟨aR, aR, aR, aR, aR, aR, aR, aR, aR, trivial⟩, ⟨⟨rfl, .inr rfl⟩, ⟨rfl, .inr rfl⟩, ⟨rfl, .inr rfl⟩, trivial⟩⟩))
    rintro ⟨L7, v9⟩ τ5 Γ5 y5_ ⟨hl8, hw5, hd5⟩ h5_ ho5 hr5
    refine RunC.wl (τ' := [(1, i64 a1), (2, fn (.func 128) [] [ptr [i64 a2, i64 a3, sl a4.length (a4.map f32)]]), (6, optr 0 1 0), (7, optr 2 1 0), (8, i64 v6), (13, i64 a0), (14, i64 v6), (17, i64 a1), (18, i64 v9)]) (Γ' := [⟨1, some [i64 0, i64 0, nilsl]⟩, ⟨1, some (L7.map f32)⟩, ⟨1, some [i64 r1, i64 r2, oref 1 1 0 r3.length]⟩]) hw5 hd5 ?_
    replace hl8 : L7.length = r3.length := hl8
    replace h5_ : i_made_2Fi_Matrix_flip_1_b2 a1 a2 a3 a4 r1 r2 r3 v6 L7 v9 = some y5_ := h5_
    unfold i_made_2Fi_Matrix_flip_1_b2 at h5_
    refine RunC.seq ?_
    rcases bsel_some h5_ with ⟨hc3, h5_⟩ | ⟨hc3, h5_⟩
    ·refine RunC.regionW ?_
     refine zL (r := b true) rfl rfl rfl (LOp.eqb (LOp.lss rfl rfl rfl) hc3) ?_
     refine zN ?_
     refine RunC.seq ?_
     refine RunC.cond_true rfl rfl ?_
     refine RunC.skip ?_
     refine RunC.seq ?_
     refine RunC.block ?_
     refine zQ ?_
     refine zM (r := i64 v9) rfl rfl rfl rfl rfl ?_
     refine zA (r := i64 v9) rfl rfl rfl rfl rfl ?_
     refine zN ?_
     obtain ⟨r11, hf5, h5_⟩ := obind_some h5_
     obtain ⟨r12, hf6, h5_⟩ := obind_some h5_
     obtain ⟨hn7, h5_⟩ := need_some h5_
     refine RunC.region_draw (Γ' := [⟨1, some [i64 0, i64 0, nilsl]⟩, ⟨1, some (L7.map f32)⟩, ⟨1, some [i64 r1, i64 r2, oref 1 1 0 r3.length]⟩]) 7 mixed 
      (TR.d (r := agg [i64 r1, i64 r2, oref 1 1 0 r3.length]) (fs := []) rfl rfl (TOp.loadAgg_o rfl agg26 siz26 rfl rfl rfl rfl) <|
      (TR.l (r := i64 v6) rfl rfl (LOp.move rfl rfl) <|
      (TR.l (r := i64 v9) rfl rfl (LOp.move rfl rfl) <|
      (TR.l (r := fn (.func 128) [] [ptr [i64 a2, i64 a3, sl a4.length (a4.map f32)]]) rfl rfl (LOp.move rfl rfl) <|
      (TR.l (r := i64 v6) rfl rfl (LOp.move rfl rfl) <|
      (TR.l (r := i64 v9) rfl rfl (LOp.move rfl rfl) <|
      (TR.d (r := f32 r11) (fs := []) rfl rfl (TOp.callB (CallAs.fn ent128 rfl rfl rfl rfl) (Bors.cons (Bor.pure rfl) (Bors.cons (Bor.pure rfl) (Bors.cons (Bor.ptr (Bors.cons (Bor.pure rfl) (Bors.cons (Bor.pure rfl) (Bors.cons (Bor.sl (fun _ => rfl)) Bors.nil)))) Bors.nil))) rfl rfl (i_Matrix_flip_1_ok v6 v9 a2 a3 a4 r11 hf5)) <|
      TR.nil))))))) rfl (by kernel_rfl) rfl fills_nil rfl ?_
     iterate 7 refine ROps.dropS ?_
     refine ROps.drop0 ?_
     refine ROps.callO (A := [agg [i64 r1, i64 r2, oref 1 1 0 r3.length], i64 v6, i64 v9, f32 r11]) (args := [agg [i64 r1, i64 r2, oref 0 0 0 L7.length], i64 v6, i64 v9, f32 r11]) (Γc := [⟨0, some (L7.map f32)⟩]) (Γc' := [⟨0, some (r12.map f32)⟩]) (r' := tup []) (Γ' := [⟨1, some [i64 0, i64 0, nilsl]⟩, ⟨1, some (r12.map f32)⟩, ⟨1, some [i64 r1, i64 r2, oref 1 1 0 r3.length]⟩]) [(1, 1)] [] rfl (CallAs.func ent78 rfl rfl) rfl rfl (SelOk.of (show List.Nodup [1] from by decide) (SelL.arr0 (f := f32) (fun _ => rfl) rfl trivial)) (live_of ⟨⟨_, _, rfl⟩, trivial⟩) (by simp [ren, rens, sigma, rens_f32, rens_f64, rens_i64, rens_ik, rens_str, rens_cp, hl8]) rfl (i_Matrix_set_02o_ok r1 r2 v6 v9 r11 L7 r12 hf6) rfl (news_of trivial) (show List.Nodup [1] from by decide) (by simp [ren, rens, sigma, of_decide_eq_true hn7]) (by simp [backOb, sigma, ren, rens, rens_f32, rens_f64, rens_i64, rens_ik, rens_str, rens_cp]) ?_
     refine zN ?_
     obtain ⟨x13, hx8, h5_⟩ := olet_some h5_
     refine RunC.regionW ?_
     refine zL (r := i64 x13) rfl rfl rfl (LOp.eqr (LOp.add rfl rfl rfl) (congrArg (ik .i64) hx8)) ?_
     refine zM (r := i64 x13) rfl rfl rfl rfl rfl ?_
     refine zN ?_
     cases Option.some.inj h5_
     exact ⟨_, rfl, (of_decide_eq_true hn7), ⟨aR, aR, aR, aR, aR, aR, aR, aR, aR, trivial⟩, ⟨⟨rfl, .inr rfl⟩, ⟨rfl, .inr rfl⟩, ⟨rfl, .inr rfl⟩, trivial⟩⟩
    ·refine RunC.regionW ?_
     refine zL (r := b false) rfl rfl rfl (LOp.eqb (LOp.lss rfl rfl rfl) hc3) ?_
     refine zN ?_
     refine RunC.seq ?_
     refine RunC.cond_false rfl rfl ?_
     refine RunC.exit ?_
     cases Option.some.inj h5_
     have hx := ho5 _ rfl
     exact ⟨L7, hl8, ⟨aR, aR, aR, aR, aR, aR, trivial⟩, ⟨⟨rfl, .inr rfl⟩, ⟨rfl, .inr rfl⟩, ⟨rfl, .inr rfl⟩, trivial⟩, hx⟩
   ·rintro τ6 Γ6 ⟨L14, hl15, hw6, hd6, rfl⟩
    refine RunC.wl hw6 hd6 ?_
    replace h4_ : i_made_2Fi_Matrix_flip_1_k2 v6 L14 = some y4_ := h4_
    unfold i_made_2Fi_Matrix_flip_1_k2 at h4_
    obtain ⟨x16, hx9, h4_⟩ := olet_some h4_
    refine RunC.regionW ?_
    refine zL (r := i64 x16) rfl rfl rfl (LOp.eqr (LOp.add rfl rfl rfl) (congrArg (ik .i64) hx9)) ?_
    refine zM (r := i64 x16) rfl rfl rfl rfl rfl ?_
    refine zN ?_
    cases Option.some.inj h4_
    exact ⟨_, rfl, hl15, ⟨aR, aR, aR, aR, aR, aR, trivial⟩, ⟨⟨rfl, .inr rfl⟩, ⟨rfl, .inr rfl⟩, ⟨rfl, .inr rfl⟩, trivial⟩⟩
  ·refine RunC.regionW ?_
   refine zL (r := b false) rfl rfl rfl (LOp.eqb (LOp.lss rfl rfl rfl) hc2) ?_
   refine zN ?_
   refine RunC.seq ?_
   refine RunC.cond_false rfl rfl ?_
   refine RunC.exit ?_
   cases Option.some.inj h4_
   have hx := ho4 _ rfl
   exact ⟨L4, hl5, ⟨aR, aR, trivial⟩, ⟨⟨rfl, .inr rfl⟩, ⟨rfl, .inr rfl⟩, ⟨rfl, .inr rfl⟩, trivial⟩, hx⟩
 ·rintro τ7 Γ7 ⟨L17, hl18, hw7, hd7, rfl⟩
  refine RunC.wl hw7 hd7 ?_
  replace h : i_made_2Fi_Matrix_flip_1_k3 r1 r2 L17 = some (q0, q1, q2) := h
  unfold i_made_2Fi_Matrix_flip_1_k3 at h
  refine zQ ?_
  refine ROps.d (r := agg [i64 r1, i64 r2, oref 1 1 0 r3.length]) (fs := []) (Γ' := [⟨1, some [i64 0, i64 0, nilsl]⟩, ⟨1, some (L17.map f32)⟩, ⟨1, some [i64 r1, i64 r2, oref 1 1 0 r3.length]⟩]) rfl rfl rfl (TOp.loadAgg_o rfl agg26 siz26 rfl rfl rfl rfl) rfl ?_
  refine ROps.store_le (r := agg [i64 r1, i64 r2, oref 1 1 0 r3.length]) (l' := [i64 r1, i64 r2, oref 1 1 0 r3.length]) (Γ' := [⟨1, some [i64 r1, i64 r2, oref 1 1 0 r3.length]⟩, ⟨1, some (L17.map f32)⟩, ⟨1, some [i64 r1, i64 r2, oref 1 1 0 r3.length]⟩]) rfl siz26 rfl rfl rfl aR rfl rfl rfl rfl (Nat.le_of_ble_eq_true rfl) rfl rfl ?_
  refine zN ?_
  refine RunC.ret ?_
  have hq := Option.some.inj h
  obtain ⟨hq0, hq⟩ := Prod.mk.inj hq
  obtain ⟨hq1, hq⟩ := Prod.mk.inj hq
  subst q0
  subst q1
  subst q2
  exact bodyQ.mk (r' := agg [i64 r1, i64 r2, oref 1 1 0 L17.length]) [(1, 1)] (.inr rfl) rfl (show List.Nodup [1] from by decide) rfl rfl (Res.eq (Res.one rfl (RV.cell agg26 siz26 rfl rfl rfl rfl)) (by rw [(show L17.length = r3.length from hl18)] <;> rfl)) (SelL.arr0 (f := f32) (fun _ => rfl) rfl trivial)
noncomputable def i_Matrix_flip (a0 : Int) (a1 : Int) (a2 : List F) : Option (Int × Int × (List F)) :=
 obind3 (i_made_2Fi_Matrix_flip_1 a1 a0 a0 a1 a2) fun (r1 : Int) (r2 : Int) (r3 : List F) =>
 some (r1, r2, r3)
theorem i_Matrix_flip_ok (a0 : Int) (a1 : Int) (a2 : List F) (q0 : Int) (q1 : Int) (q2 : List F) (h : i_Matrix_flip a0 a1 a2 = some (q0, q1, q2)) : Ev Try.prog 67 [agg [i64 a0, i64 a1, sl a2.length (a2.map f32)]] [] (agg [i64 q0, i64 q1, oref 0 0 0 q2.length]) [⟨0, some (q2.map f32)⟩] := by
 refine Ev.start Try.func67 rfl rfl 2 (τ := [(0, agg [i64 a0, i64 a1, sl a2.length (a2.map f32)])]) rfl (Γ' := [⟨0, none⟩, ⟨0, none⟩]) rfl (n := 19) rfl (g := 0) rfl (fun _ => rfl) ?_
 unfold i_Matrix_flip at h
 refine zQ ?_
 refine ROps.d (r := ptr [i64 a0, i64 a1, sl a2.length (a2.map f32)]) (fs := []) (Γ' := [⟨0, none⟩, ⟨0, none⟩]) rfl rfl rfl (TOp.box_s rfl rfl rfl) rfl ?_
 refine ROps.d (r := optr 0 1 0) (fs := [(0, [i64 0, i64 0, nilsl])]) (Γ' := [⟨1, some [i64 0, i64 0, nilsl]⟩, ⟨0, none⟩]) rfl rfl rfl (TOp.alloc_o (g := ⟨0, none⟩) 0 rfl zer26 zok26 rfl) rfl ?_
 refine zN ?_
 refine RunC.seq ?_
 obtain ⟨r1, r2, r3, hf1, h⟩ := obind3_some h
 refine RunC.regionW ?_
 refine zL (r := ptr [i64 a1, sl a2.length (a2.map f32)]) rfl rfl rfl (LOp.fap und26 rfl siz2 rfl rfl rfl) ?_
 refine zL (r := i64 a1) rfl rfl rfl (LOp.load1 agg2 rfl rfl) ?_
 refine zL (r := ptr [i64 a0, i64 a1, sl a2.length (a2.map f32)]) rfl rfl rfl (LOp.fap und26 rfl siz2 rfl rfl rfl) ?_
 refine zL (r := i64 a0) rfl rfl rfl (LOp.load1 agg2 rfl rfl) ?_
 refine zL (r := fn (.func 128) [] [ptr [i64 a0, i64 a1, sl a2.length (a2.map f32)]]) rfl rfl rfl (LOp.makeFunc rfl rfl) ?_
 refine ROps.d (r := agg [i64 r1, i64 r2, oref 1 1 0 r3.length]) (fs := [(1, (r3.map f32))]) (Γ' := [⟨1, some [i64 0, i64 0, nilsl]⟩, ⟨1, some (r3.map f32)⟩]) rfl rfl rfl (TOp.callBN (ls := [(r3.map f32)]) [1] (CallAs.func ent60 rfl rfl) (Bors.cons (Bor.pure rfl) (Bors.cons (Bor.pure rfl) (Bors.cons (Bor.fn Bors.nil (Bors.cons (Bor.ptr (Bors.cons (Bor.pure rfl) (Bors.cons (Bor.pure rfl) (Bors.cons (Bor.sl (fun _ => rfl)) Bors.nil)))) Bors.nil)) Bors.nil))) rfl (i_made_2Fi_Matrix_flip_1_ok a1 a0 a0 a1 a2 r1 r2 r3 hf1) (and_all (lts0_map (f := f32) (fun _ => rfl) _) rfl) (and_all (noss_map (f := f32) (fun _ => rfl) _) rfl) rfl (by decide) (ns_of ⟨⟨_, rfl⟩, trivial⟩)) rfl ?_
 refine ROps.store_le (r := agg [i64 r1, i64 r2, oref 1 1 0 r3.length]) (l' := [i64 r1, i64 r2, oref 1 1 0 r3.length]) (Γ' := [⟨1, some [i64 r1, i64 r2, oref 1 1 0 r3.length]⟩, ⟨1, some (r3.map f32)⟩]) rfl siz26 rfl rfl rfl aR rfl rfl rfl rfl (Nat.le_of_ble_eq_true rfl) rfl rfl ?_
 refine zN ?_
 refine RunC.ret ?_
 have hq := Option.some.inj h
 obtain ⟨hq0, hq⟩ := Prod.mk.inj hq
 obtain ⟨hq1, hq⟩ := Prod.mk.inj hq
 subst q0
 subst q1
 subst q2
 exact bodyQ.mk (r' := agg [i64 r1, i64 r2, oref 1 1 0 r3.length]) [(1, 1)] (.inr rfl) rfl (show List.Nodup [1] from by decide) rfl rfl (Res.one rfl (RV.cell agg26 siz26 rfl rfl rfl rfl)) (SelL.arr0 (f := f32) (fun _ => rfl) rfl trivial)
noncomputable def i_FlipMatrix (a0 : Int) (a1 : Int) (a2 : List F) : Option (Int × Int × Bool × (List F)) :=
 obind (i_ValidMatrix a0 a1 a2) fun (r1 : Bool) =>
 bsel r1 (
  obind3 (i_Matrix_flip a0 a1 a2) fun (r2 : Int) (r3 : Int) (r4 : List F) =>
  some (r2, r3, true, r4)) (
  some (0, 0, false, ([] : List F)))
theorem i_FlipMatrix_ok (a0 : Int) (a1 : Int) (a2 : List F) (q0 : Int) (q1 : Int) (q2 : Bool) (q3 : List F) (h : i_FlipMatrix a0 a1 a2 = some (q0, q1, q2, q3)) : Ev Try.prog 14 [agg [i64 a0, i64 a1, sl a2.length (a2.map f32)]] [] (tup [agg [i64 q0, i64 q1, oref 0 0 0 q3.length], b q2]) [⟨0, some (q3.map f32)⟩] := by
 refine Ev.start Try.func14 rfl rfl 2 (τ := [(0, agg [i64 a0, i64 a1, sl a2.length (a2.map f32)])]) rfl (Γ' := [⟨0, none⟩, ⟨0, none⟩]) rfl (n := 21) rfl (g := 0) rfl (fun _ => rfl) ?_
 unfold i_FlipMatrix at h
 refine zQ ?_
 refine ROps.d (r := ptr [i64 a0, i64 a1, sl a2.length (a2.map f32)]) (fs := []) (Γ' := [⟨0, none⟩, ⟨0, none⟩]) rfl rfl rfl (TOp.box_s rfl rfl rfl) rfl ?_
 refine ROps.d (r := optr 0 1 0) (fs := [(0, [i64 0, i64 0, nilsl])]) (Γ' := [⟨1, some [i64 0, i64 0, nilsl]⟩, ⟨0, none⟩]) rfl rfl rfl (TOp.alloc_o (g := ⟨0, none⟩) 0 rfl zer26 zok26 rfl) rfl ?_
 refine zA (r := b false) rfl rfl rfl rfl rfl ?_
 refine zN ?_
 iterate 2 (refine RunC.seq ?_)
 obtain ⟨r1, hf1, h⟩ := obind_some h
 rcases bsel_some h with ⟨hc2, h⟩ | ⟨hc2, h⟩
 ·refine RunC.regionW ?_
  refine zL (r := agg [i64 a0, i64 a1, sl a2.length (a2.map f32)]) rfl rfl rfl (LOp.loadAgg agg26 siz26 rfl rfl rfl rfl) ?_
  refine ROps.d (r := b true) (fs := []) (Γ' := [⟨1, some [i64 0, i64 0, nilsl]⟩, ⟨0, none⟩]) rfl rfl rfl (TOp.eqb (TOp.callB (CallAs.func ent66 rfl rfl) (Bors.cons (Bor.agg (Bors.cons (Bor.pure rfl) (Bors.cons (Bor.pure rfl) (Bors.cons (Bor.sl (fun _ => rfl)) Bors.nil)))) Bors.nil) rfl rfl (i_ValidMatrix_ok a0 a1 a2 r1 hf1)) hc2) rfl ?_
  refine zL (r := b false) rfl rfl rfl (LOp.eqb (LOp.not rfl rfl) rfl) ?_
  refine zN ?_
  refine RunC.cond_false rfl rfl ?_
  refine RunC.skip ?_
  refine RunC.seq ?_
  obtain ⟨r2, r3, r4, hf3, h⟩ := obind3_some h
  refine RunC.regionW ?_
  refine zL (r := agg [i64 a0, i64 a1, sl a2.length (a2.map f32)]) rfl rfl rfl (LOp.loadAgg agg26 siz26 rfl rfl rfl rfl) ?_
  refine ROps.d (r := agg [i64 r2, i64 r3, oref 1 1 0 r4.length]) (fs := [(1, (r4.map f32))]) (Γ' := [⟨1, some [i64 0, i64 0, nilsl]⟩, ⟨1, some (r4.map f32)⟩]) rfl rfl rfl (TOp.callBN (ls := [(r4.map f32)]) [1] (CallAs.func ent67 rfl rfl) (Bors.cons (Bor.agg (Bors.cons (Bor.pure rfl) (Bors.cons (Bor.pure rfl) (Bors.cons (Bor.sl (fun _ => rfl)) Bors.nil)))) Bors.nil) rfl (i_Matrix_flip_ok a0 a1 a2 r2 r3 r4 hf3) (and_all (lts0_map (f := f32) (fun _ => rfl) _) rfl) (and_all (noss_map (f := f32) (fun _ => rfl) _) rfl) rfl (by decide) (ns_of ⟨⟨_, rfl⟩, trivial⟩)) rfl ?_
  refine ROps.store_le (r := agg [i64 r2, i64 r3, oref 1 1 0 r4.length]) (l' := [i64 r2, i64 r3, oref 1 1 0 r4.length]) (Γ' := [⟨1, some [i64 r2, i64 r3, oref 1 1 0 r4.length]⟩, ⟨1, some (r4.map f32)⟩]) rfl siz26 rfl rfl rfl aR rfl rfl rfl rfl (Nat.le_of_ble_eq_true rfl) rfl rfl ?_
  refine zA (r := b true) rfl rfl rfl rfl rfl ?_
  refine zN ?_
  refine RunC.ret ?_
  have hq := Option.some.inj h
  obtain ⟨hq0, hq⟩ := Prod.mk.inj hq
  obtain ⟨hq1, hq⟩ := Prod.mk.inj hq
  obtain ⟨hq2, hq⟩ := Prod.mk.inj hq
  subst q0
  subst q1
  subst q2
  subst q3
  exact bodyQ.mk (r' := tup [agg [i64 r2, i64 r3, oref 1 1 0 r4.length], b true]) [(1, 1)] (.inr rfl) rfl (show List.Nodup [1] from by decide) rfl rfl (Res.two rfl (RV.cell agg26 siz26 rfl rfl rfl rfl) (RV.tmp rfl)) (SelL.arr0 (f := f32) (fun _ => rfl) rfl trivial)
 ·refine RunC.regionW ?_
  refine zL (r := agg [i64 a0, i64 a1, sl a2.length (a2.map f32)]) rfl rfl rfl (LOp.loadAgg agg26 siz26 rfl rfl rfl rfl) ?_
  refine ROps.d (r := b false) (fs := []) (Γ' := [⟨1, some [i64 0, i64 0, nilsl]⟩, ⟨0, none⟩]) rfl rfl rfl (TOp.eqb (TOp.callB (CallAs.func ent66 rfl rfl) (Bors.cons (Bor.agg (Bors.cons (Bor.pure rfl) (Bors.cons (Bor.pure rfl) (Bors.cons (Bor.sl (fun _ => rfl)) Bors.nil)))) Bors.nil) rfl rfl (i_ValidMatrix_ok a0 a1 a2 r1 hf1)) hc2) rfl ?_
  refine zL (r := b true) rfl rfl rfl (LOp.eqb (LOp.not rfl rfl) rfl) ?_
  refine zN ?_
  refine RunC.cond_true rfl rfl ?_
  refine zQ ?_
  refine zL (r := agg [i64 0, i64 0, nilsl]) rfl rfl rfl (LOp.build (qs := []) zer26 zok26 und26 plc26 rfl trivial rfl) ?_
  refine ROps.store_le (r := agg [i64 0, i64 0, nilsl]) (l' := [i64 0, i64 0, nilsl]) (Γ' := [⟨1, some [i64 0, i64 0, nilsl]⟩, ⟨0, none⟩]) rfl siz26 rfl rfl rfl aR rfl rfl rfl rfl (Nat.le_of_ble_eq_true rfl) rfl rfl ?_
  refine zA (r := b false) rfl rfl rfl rfl rfl ?_
  refine zN ?_
  refine RunC.nil_cell (l' := [i64 0, i64 0, oref 1 1 0 0]) (Γ' := [⟨1, some [i64 0, i64 0, oref 1 1 0 0]⟩, ⟨1, some (([] : List F).map f32)⟩]) 0 2 1 rfl rfl rfl rfl rfl ?_
  refine RunC.ret ?_
  have hq := Option.some.inj h
  obtain ⟨hq0, hq⟩ := Prod.mk.inj hq
  obtain ⟨hq1, hq⟩ := Prod.mk.inj hq
  obtain ⟨hq2, hq⟩ := Prod.mk.inj hq
  subst q0
  subst q1
  subst q2
  subst q3
  exact bodyQ.mk (r' := tup [agg [i64 0, i64 0, oref 1 1 0 (([] : List F).length)], b false]) [(1, 1)] (.inr rfl) rfl (show List.Nodup [1] from by decide) rfl rfl (Res.eq (Res.two rfl (RV.cell agg26 siz26 rfl rfl rfl rfl) (RV.tmp rfl)) (by rw [(show ([] : List F).length = 0 from rfl)] <;> rfl)) (SelL.arr0 (f := f32) (fun _ => rfl) rfl trivial)
noncomputable def i_unit_1 (a0 : Int) (a1 : Int) : Option (F) :=
 bsel (decide (a0 = a1)) (
  some (some 1065353216)) (
  some (some 0))
theorem i_unit_1_ok (a0 : Int) (a1 : Int) (q0 : F) (h : i_unit_1 a0 a1 = some q0) : Ev Try.prog 129 [i64 a0, i64 a1] [] (f32 q0) [] := by
 refine Ev.start Try.func129 rfl rfl 0 (τ := [(0, i64 a0), (1, i64 a1)]) rfl (Γ' := []) rfl (n := 17) rfl (g := 0) rfl (fun _ => rfl) ?_
 unfold i_unit_1 at h
 refine zQ ?_
 refine zL (r := f32 (some 0)) rfl rfl rfl (LOp.le (LOp.assign rfl rfl) (ALe.fl (by kernel_rfl) (by kernel_rfl))) ?_
 refine zN ?_
 iterate 2 (refine RunC.seq ?_)
 rcases bsel_some h with ⟨hc1, h⟩ | ⟨hc1, h⟩
 ·refine RunC.regionW ?_
  refine zM (r := i64 a0) rfl rfl rfl rfl rfl ?_
  refine zM (r := i64 a1) rfl rfl rfl rfl rfl ?_
  refine zL (r := b true) rfl rfl rfl (LOp.eqb (LOp.eql rfl rfl rfl) hc1) ?_
  refine zN ?_
  refine RunC.cond_true rfl rfl ?_
  refine zQ ?_
  refine zL (r := f32 (some 1065353216)) rfl rfl rfl (LOp.le (LOp.assign rfl rfl) (ALe.fl (by kernel_rfl) (by kernel_rfl))) ?_
  refine zN ?_
  refine RunC.ret ?_
  have hq := Option.some.inj h
  subst q0
  exact bodyQ.pure (.inr rfl) rfl (Res.one rfl (RV.tmp rfl))
 ·refine RunC.regionW ?_
  refine zM (r := i64 a0) rfl rfl rfl rfl rfl ?_
  refine zM (r := i64 a1) rfl rfl rfl rfl rfl ?_
  refine zL (r := b false) rfl rfl rfl (LOp.eqb (LOp.eql rfl rfl rfl) hc1) ?_
  refine zN ?_
  refine RunC.cond_false rfl rfl ?_
  refine RunC.skip ?_
  refine zQ ?_
  refine zL (r := f32 (some 0)) rfl rfl rfl (LOp.le (LOp.assign rfl rfl) (ALe.fl (by kernel_rfl) (by kernel_rfl))) ?_
  refine zN ?_
  refine RunC.ret ?_
  have hq := Option.some.inj h
  subst q0
  exact bodyQ.pure (.inr rfl) rfl (Res.one rfl (RV.tmp rfl))
noncomputable def i_made_2Fi_unit_1_b2 (a1 : Int) (r1 : Int) (r2 : Int) (r3 : List F) (v6 : Int) (L7 : List F) (v9 : Int) : Option (LR ((List F) × Int) ((List F)) (Int × Int × (List F))) :=
 bsel (decide (v9 < a1)) (
  obind (i_unit_1 v6 v9) fun (r11 : F) =>
  obind (i_Matrix_set_02o r1 r2 v6 v9 r11 L7) fun (r12 : List F) =>
  need (decide (r12.length = r3.length)) <|
  olet (IntKind.i64.wrap (v9 + 1)) fun (x13 : Int) =>
  some (LR.next (r12, x13))) (
  some (LR.out L7))
noncomputable def i_made_2Fi_unit_1_s2 (a1 : Int) (r1 : Int) (r2 : Int) (r3 : List F) (v6 : Int) : ((List F) × Int) → Option (LR ((List F) × Int) ((List F)) (Int × Int × (List F))) := fun s => i_made_2Fi_unit_1_b2 a1 r1 r2 r3 v6 s.1 s.2
noncomputable def i_made_2Fi_unit_1_k2 (v6 : Int) (L14 : List F) : Option (LR ((List F) × Int) ((List F)) (Int × Int × (List F))) :=
 olet (IntKind.i64.wrap (v6 + 1)) fun (x16 : Int) =>
 some (LR.next (L14, x16))
noncomputable def i_made_2Fi_unit_1_b3 (a0 : Int) (a1 : Int) (r1 : Int) (r2 : Int) (r3 : List F) (L4 : List F) (v6 : Int) : Option (LR ((List F) × Int) ((List F)) (Int × Int × (List F))) :=
 bsel (decide (v6 < a0)) (
  obind (loopM (i_made_2Fi_unit_1_s2 a1 r1 r2 r3 v6) (L4, 0)) fun z => osum z (fun e => i_made_2Fi_unit_1_k2 v6 e) (fun r => some (LR.ret r))) (
  some (LR.out L4))
noncomputable def i_made_2Fi_unit_1_s3 (a0 : Int) (a1 : Int) (r1 : Int) (r2 : Int) (r3 : List F) : ((List F) × Int) → Option (LR ((List F) × Int) ((List F)) (Int × Int × (List F))) := fun s => i_made_2Fi_unit_1_b3 a0 a1 r1 r2 r3 s.1 s.2
noncomputable def i_made_2Fi_unit_1_k3 (r1 : Int) (r2 : Int) (L17 : List F) : Option (Int × Int × (List F)) :=
 some (r1, r2, L17)
noncomputable def i_made_2Fi_unit_1 (a0 : Int) (a1 : Int) : Option (Int × Int × (List F)) :=
 obind3 (i_newMatrix a0 a1) fun (r1 : Int) (r2 : Int) (r3 : List F) =>
 obind (loopM (i_made_2Fi_unit_1_s3 a0 a1 r1 r2 r3) (r3, 0)) fun z => osum z (fun e => i_made_2Fi_unit_1_k3 r1 r2 e) (fun r => some r)
theorem i_made_2Fi_unit_1_ok (a0 : Int) (a1 : Int) (q0 : Int) (q1 : Int) (q2 : List F) (h : i_made_2Fi_unit_1 a0 a1 = some (q0, q1, q2)) : Ev Try.prog 60 [i64 a0, i64 a1, fn (.func 129) [] []] [] (agg [i64 q0, i64 q1, oref 0 0 0 q2.length]) [⟨0, some (q2.map f32)⟩] := by
 refine Ev.start Try.func60 rfl rfl 3 (τ := [(0, i64 a0), (1, i64 a1), (2, fn (.func 129) [] [])]) rfl (Γ' := [⟨0, none⟩, ⟨0, none⟩, ⟨0, none⟩]) rfl (n := 65) rfl (g := 0) rfl (fun _ => rfl) ?_
 unfold i_made_2Fi_unit_1 at h
 refine zQ ?_
 refine ROps.d (r := optr 0 1 0) (fs := [(0, [i64 0, i64 0, nilsl])]) (Γ' := [⟨1, some [i64 0, i64 0, nilsl]⟩, ⟨0, none⟩, ⟨0, none⟩]) rfl rfl rfl (TOp.alloc_o (g := ⟨0, none⟩) 0 rfl zer26 zok26 rfl) rfl ?_
 refine zN ?_
 refine RunC.seq ?_
 obtain ⟨r1, r2, r3, hf1, h⟩ := obind3_some h
 refine RunC.regionW ?_
 refine zM (r := i64 a0) rfl rfl rfl rfl rfl ?_
 refine zM (r := i64 a1) rfl rfl rfl rfl rfl ?_
 refine ROps.d (r := agg [i64 r1, i64 r2, oref 1 1 0 r3.length]) (fs := [(1, (r3.map f32))]) (Γ' := [⟨1, some [i64 0, i64 0, nilsl]⟩, ⟨1, some (r3.map f32)⟩, ⟨0, none⟩]) rfl rfl rfl (TOp.callBN (ls := [(r3.map f32)]) [1] (CallAs.func ent126 rfl rfl) (Bors.cons (Bor.pure rfl) (Bors.cons (Bor.pure rfl) Bors.nil)) rfl (i_newMatrix_ok a0 a1 r1 r2 r3 hf1) (and_all (lts0_map (f := f32) (fun _ => rfl) _) rfl) (and_all (noss_map (f := f32) (fun _ => rfl) _) rfl) rfl (by decide) (ns_of ⟨⟨_, rfl⟩, trivial⟩)) rfl ?_
 refine ROps.d (r := optr 2 1 0) (fs := [(2, [i64 0, i64 0, nilsl])]) (Γ' := [⟨1, some [i64 0, i64 0, nilsl]⟩, ⟨1, some (r3.map f32)⟩, ⟨1, some [i64 0, i64 0, nilsl]⟩]) rfl rfl rfl (TOp.alloc_o (g := ⟨0, none⟩) 2 rfl zer26 zok26 rfl) rfl ?_
 refine ROps.store_le (r := agg [i64 r1, i64 r2, oref 1 1 0 r3.length]) (l' := [i64 r1, i64 r2, oref 1 1 0 r3.length]) (Γ' := [⟨1, some [i64 0, i64 0, nilsl]⟩, ⟨1, some (r3.map f32)⟩, ⟨1, some [i64 r1, i64 r2, oref 1 1 0 r3.length]⟩]) rfl siz26 rfl rfl rfl aR rfl rfl rfl rfl (Nat.le_of_ble_eq_true rfl) rfl rfl ?_
 refine zN ?_
 refine RunC.seq ?_
 refine zQ ?_
 refine zM (r := i64 a0) rfl rfl rfl rfl rfl ?_
 refine zM (r := i64 0) rfl rfl rfl rfl rfl ?_
 refine zN ?_
 obtain ⟨z4, hz_4, h⟩ := obind_some h
 refine RunC.cutN (fun τ Γ => ∃ (L17 : List F), L17.length = r3.length ∧ WeakLe τ [(6, optr 0 1 0), (7, optr 2 1 0)] ∧ DeadLe Γ [⟨1, some [i64 0, i64 0, nilsl]⟩, ⟨1, some (L17.map f32)⟩, ⟨1, some [i64 r1, i64 r2, oref 1 1 0 r3.length]⟩] ∧ z4 = .inl L17) ?_ ?_
 ·refine RunC.block (RunC.loop (RunL.loopM (x := z4) (i_made_2Fi_unit_1_s3 a0 a1 r1 r2 r3) (fun (s : (List F) × Int) τ Γ => s.1.length = r3.length ∧ WeakLe τ [(1, i64 a1), (2, fn (.func 129) [] []), (6, optr 0 1 0), (7, optr 2 1 0), (13, i64 a0), (14, i64 s.2)] ∧ DeadLe Γ [⟨1, some [i64 0, i64 0, nilsl]⟩, ⟨1, some (s.1.map f32)⟩, ⟨1, some [i64 r1, i64 r2, oref 1 1 0 r3.length]⟩]) ?_ _ _ _ hz_4 ⟨rfl, ⟨aR, aR, aR, aR, aR, aR, trivial⟩, ⟨⟨rfl, .inr rfl⟩, ⟨rfl, .inr rfl⟩, ⟨rfl, .inr rfl⟩, trivial⟩⟩))
  rintro ⟨L4, v6⟩ τ4 Γ4 y4_ ⟨hl5, hw4, hd4⟩ h4_ ho4 hr4
  refine RunC.wl (τ' := [(1, i64 a1), (2, fn (.func 129) [] []), (6, optr 0 1 0), (7, optr 2 1 0), (13, i64 a0), (14, i64 v6)]) (Γ' := [⟨1, some [i64 0, i64 0, nilsl]⟩, ⟨1, some (L4.map f32)⟩, ⟨1, some [i64 r1, i64 r2, oref 1 1 0 r3.length]⟩]) hw4 hd4 ?_
  replace hl5 : L4.length = r3.length := hl5
  replace h4_ : i_made_2Fi_unit_1_b3 a0 a1 r1 r2 r3 L4 v6 = some y4_ := h4_
  unfold i_made_2Fi_unit_1_b3 at h4_
  refine RunC.seq ?_
  rcases bsel_some h4_ with ⟨hc2, h4_⟩ | ⟨hc2, h4_⟩
  ·refine RunC.regionW ?_
   refine zL (r := b true) rfl rfl rfl (LOp.eqb (LOp.lss rfl rfl rfl) hc2) ?_
   refine zN ?_
   refine RunC.seq ?_
   refine RunC.cond_true rfl rfl ?_
   refine RunC.skip ?_
   refine RunC.seq ?_
   refine RunC.block ?_
   refine zQ ?_
   refine zM (r := i64 v6) rfl rfl rfl rfl rfl ?_
   refine zA (r := i64 v6) rfl rfl rfl rfl rfl ?_
   refine zN ?_
   refine zQ ?_
   refine zM (r := i64 a1) rfl rfl rfl rfl rfl ?_
   refine zM (r := i64 0) rfl rfl rfl rfl rfl ?_
   refine zN ?_
   obtain ⟨z5, hz_5, h4_⟩ := obind_some h4_
   refine RunC.cutN (fun τ Γ => ∃ (L14 : List F), L14.length = r3.length ∧ WeakLe τ [(1, i64 a1), (2, fn (.func 129) [] []), (6, optr 0 1 0), (7, optr 2 1 0), (13, i64 a0), (14, i64 v6)] ∧ DeadLe Γ [⟨1, some [i64 0, i64 0, nilsl]⟩, ⟨1, some (L14.map f32)⟩, ⟨1, some [i64 r1, i64 r2, oref 1 1 0 r3.length]⟩] ∧ z5 = .inl L14) ?_ ?_
   ·refine RunC.block (RunC.loop (RunL.loopM (x := z5) (i_made_2Fi_unit_1_s2 a1 r1 r2 r3 v6) (fun (s : (List F) × Int) τ Γ => s.1.length = r3.length ∧ WeakLe τ [(1, i64 a1), (2, fn (.func 129) [] []), (6, optr 0 1 0), (7, optr 2 1 0), (8, i64 v6), (13, i64 a0), (14, i64 v6), (17, i64 a1), (18, i64 s.2)] ∧ DeadLe Γ [⟨1, some [i64 0, i64 0, nilsl]⟩, ⟨1, some (s.1.map f32)⟩, ⟨1, some [i64 r1, i64 r2, oref 1 1 0 r3.length]⟩]) ?_ _ _ _ hz_5 ⟨hl5, ⟨aR, aR, aR, aR, aR, aR, aR, aR, aR, trivial⟩, ⟨⟨rfl, .inr rfl⟩, ⟨rfl, .inr rfl⟩, ⟨rfl, .inr rfl⟩, trivial⟩⟩))
    rintro ⟨L7, v9⟩ τ5 Γ5 y5_ ⟨hl8, hw5, hd5⟩ h5_ ho5 hr5
    refine RunC.wl (τ' := [(1, i64 a1), (2, fn (.func 129) [] []), (6, optr 0 1 0), (7, optr 2 1 0), (8, i64 v6), (13, i64 a0), (14, i64 v6), (17, i64 a1), (18, i64 v9)]) (Γ' := [⟨1, some [i64 0, i64 0, nilsl]⟩, ⟨1, some (L7.map f32)⟩, ⟨1, some [i64 r1, i64 r2, oref 1 1 0 r3.length]⟩]) hw5 hd5 ?_
    replace hl8 : L7.length = r3.length := hl8
    replace h5_ : i_made_2Fi_unit_1_b2 a1 r1 r2 r3 v6 L7 v9 = some y5_ := h5_
    unfold i_made_2Fi_unit_1_b2 at h5_
    refine RunC.seq ?_
    rcases bsel_some h5_ with ⟨hc3, h5_⟩ | ⟨hc3, h5_⟩
    ·refine RunC.regionW ?_
     refine zL (r := b true) rfl rfl rfl (LOp.eqb (LOp.lss rfl rfl rfl) hc3) ?_
     refine zN ?_
     refine RunC.seq ?_
     refine RunC.cond_true rfl rfl ?_
     refine RunC.skip ?_
     refine RunC.seq ?_
     refine RunC.block ?_
     refine zQ ?_
     refine zM (r := i64 v9) rfl rfl rfl rfl rfl ?_
     refine zA (r := i64 v9) rfl rfl rfl rfl rfl ?_
     refine zN ?_
     obtain ⟨r11, hf5, h5_⟩ := obind_some h5_
     obtain ⟨r12, hf6, h5_⟩ := obind_some h5_
     obtain ⟨hn7, h5_⟩ := need_some h5_
     refine RunC.region_draw (Γ' := [⟨1, some [i64 0, i64 0, nilsl]⟩, ⟨1, some (L7.map f32)⟩, ⟨1, some [i64 r1, i64 r2, oref 1 1 0 r3.length]⟩]) 7 mixed 
      (TR.d (r := agg [i64 r1, i64 r2, oref 1 1 0 r3.length]) (fs := []) rfl rfl (TOp.loadAgg_o rfl agg26 siz26 rfl rfl rfl rfl) <|
      (TR.l (r := i64 v6) rfl rfl (LOp.move rfl rfl) <|
      (TR.l (r := i64 v9) rfl rfl (LOp.move rfl rfl) <|
      (TR.l (r := fn (.func 129) [] []) rfl rfl (LOp.move rfl rfl) <|
      (TR.l (r := i64 v6) rfl rfl (LOp.move rfl rfl) <|
      (TR.l (r := i64 v9) rfl rfl (LOp.move rfl rfl) <|
      (TR.d (r := f32 r11) (fs := []) rfl rfl (TOp.callB (CallAs.fn ent129 rfl rfl rfl rfl) (Bors.cons (Bor.pure rfl) (Bors.cons (Bor.pure rfl) Bors.nil)) rfl rfl (i_unit_1_ok v6 v9 r11 hf5)) <|
      TR.nil))))))) rfl (by kernel_rfl) rfl fills_nil rfl ?_
     iterate 7 refine ROps.dropS ?_
     refine ROps.drop0 ?_
     refine ROps.callO (A := [agg [i64 r1, i64 r2, oref 1 1 0 r3.length], i64 v6, i64 v9, f32 r11]) (args := [agg [i64 r1, i64 r2, oref 0 0 0 L7.length], i64 v6, i64 v9, f32 r11]) (Γc := [⟨0, some (L7.map f32)⟩]) (Γc' := [⟨0, some (r12.map f32)⟩]) (r' := tup []) (Γ' := [⟨1, some [i64 0, i64 0, nilsl]⟩, ⟨1, some (r12.map f32)⟩, ⟨1, some [i64 r1, i64 r2, oref 1 1 0 r3.length]⟩]) [(1, 1)] [] rfl (CallAs.func ent78 rfl rfl) rfl rfl (SelOk.of (show List.Nodup [1] from by decide) (SelL.arr0 (f := f32) (fun _ => rfl) rfl trivial)) (live_of ⟨⟨_, _, rfl⟩, trivial⟩) (by simp [ren, rens, sigma, rens_f32, rens_f64, rens_i64, rens_ik, rens_str, rens_cp, hl8]) rfl (i_Matrix_set_02o_ok r1 r2 v6 v9 r11 L7 r12 hf6) rfl (news_of trivial) (show List.Nodup [1] from by decide) (by simp [ren, rens, sigma, of_decide_eq_true hn7]) (by simp [backOb, sigma, ren, rens, rens_f32, rens_f64, rens_i64, rens_ik, rens_str, rens_cp]) ?_
     refine zN ?_
     obtain ⟨x13, hx8, h5_⟩ := olet_some h5_
     refine RunC.regionW ?_
     refine zL (r := i64 x13) rfl rfl rfl (LOp.eqr (LOp.add rfl rfl rfl) (congrArg (ik .i64) hx8)) ?_
     refine zM (r := i64 x13) rfl rfl rfl rfl rfl ?_
     refine zN ?_
     cases Option.some.inj h5_
     exact ⟨_, rfl, (of_decide_eq_true hn7), ⟨aR, aR, aR, aR, aR, aR, aR, aR, aR, trivial⟩, ⟨⟨rfl, .inr rfl⟩, ⟨rfl, .inr rfl⟩, ⟨rfl, .inr rfl⟩, trivial⟩⟩
    ·refine RunC.regionW ?_
     refine zL (r := b false) rfl rfl rfl (LOp.eqb (LOp.lss rfl rfl rfl) hc3) ?_
     refine zN ?_
     refine RunC.seq ?_
     refine RunC.cond_false rfl rfl ?_
     refine RunC.exit ?_
     cases Option.some.inj h5_
     have hx := ho5 _ rfl
     exact ⟨L7, hl8, ⟨aR, aR, aR, aR, aR, aR, trivial⟩, ⟨⟨rfl, .inr rfl⟩, ⟨rfl, .inr rfl⟩, ⟨rfl, .inr rfl⟩, trivial⟩, hx⟩
   ·rintro τ6 Γ6 ⟨L14, hl15, hw6, hd6, rfl⟩
    refine RunC.wl hw6 hd6 ?_
    replace h4_ : i_made_2Fi_unit_1_k2 v6 L14 = some y4_ := h4_
    unfold i_made_2Fi_unit_1_k2 at h4_
    obtain ⟨x16, hx9, h4_⟩ := olet_some h4_
    refine RunC.regionW ?_
    refine zL (r := i64 x16) rfl rfl rfl (LOp.eqr (LOp.add rfl rfl rfl) (congrArg (ik .i64) hx9)) ?_
    refine zM (r := i64 x16) rfl rfl rfl rfl rfl ?_
    refine zN ?_
    cases Option.some.inj h4_
    exact ⟨_, rfl, hl15, ⟨aR, aR, aR, aR, aR, aR, trivial⟩, ⟨⟨rfl, .inr rfl⟩, ⟨rfl, .inr rfl⟩, ⟨rfl, .inr rfl⟩, trivial⟩⟩
  ·refine RunC.regionW ?_
   refine zL (r := b false) rfl rfl rfl (LOp.eqb (LOp.lss rfl rfl rfl) hc2) ?_
   refine zN ?_
   refine RunC.seq ?_
   refine RunC.cond_false rfl rfl ?_
   refine RunC.exit ?_
   cases Option.some.inj h4_
   have hx := ho4 _ rfl
   exact ⟨L4, hl5, ⟨aR, aR, trivial⟩, ⟨⟨rfl, .inr rfl⟩, ⟨rfl, .inr rfl⟩, ⟨rfl, .inr rfl⟩, trivial⟩, hx⟩
 ·rintro τ7 Γ7 ⟨L17, hl18, hw7, hd7, rfl⟩
  refine RunC.wl hw7 hd7 ?_
  replace h : i_made_2Fi_unit_1_k3 r1 r2 L17 = some (q0, q1, q2) := h
  unfold i_made_2Fi_unit_1_k3 at h
  refine zQ ?_
  refine ROps.d (r := agg [i64 r1, i64 r2, oref 1 1 0 r3.length]) (fs := []) (Γ' := [⟨1, some [i64 0, i64 0, nilsl]⟩, ⟨1, some (L17.map f32)⟩, ⟨1, some [i64 r1, i64 r2, oref 1 1 0 r3.length]⟩]) rfl rfl rfl (TOp.loadAgg_o rfl agg26 siz26 rfl rfl rfl rfl) rfl ?_
  refine ROps.store_le (r := agg [i64 r1, i64 r2, oref 1 1 0 r3.length]) (l' := [i64 r1, i64 r2, oref 1 1 0 r3.length]) (Γ' := [⟨1, some [i64 r1, i64 r2, oref 1 1 0 r3.length]⟩, ⟨1, some (L17.map f32)⟩, ⟨1, some [i64 r1, i64 r2, oref 1 1 0 r3.length]⟩]) rfl siz26 rfl rfl rfl aR rfl rfl rfl rfl (Nat.le_of_ble_eq_true rfl) rfl rfl ?_
  refine zN ?_
  refine RunC.ret ?_
  have hq := Option.some.inj h
  obtain ⟨hq0, hq⟩ := Prod.mk.inj hq
  obtain ⟨hq1, hq⟩ := Prod.mk.inj hq
  subst q0
  subst q1
  subst q2
  exact bodyQ.mk (r' := agg [i64 r1, i64 r2, oref 1 1 0 L17.length]) [(1, 1)] (.inr rfl) rfl (show List.Nodup [1] from by decide) rfl rfl (Res.eq (Res.one rfl (RV.cell agg26 siz26 rfl rfl rfl rfl)) (by rw [(show L17.length = r3.length from hl18)] <;> rfl)) (SelL.arr0 (f := f32) (fun _ => rfl) rfl trivial)
noncomputable def i_unit (a0 : Int) : Option (Int × Int × (List F)) :=
 obind3 (i_made_2Fi_unit_1 a0 a0) fun (r1 : Int) (r2 : Int) (r3 : List F) =>
 some (r1, r2, r3)
theorem i_unit_ok (a0 : Int) (q0 : Int) (q1 : Int) (q2 : List F) (h : i_unit a0 = some (q0, q1, q2)) : Ev Try.prog 68 [i64 a0] [] (agg [i64 q0, i64 q1, oref 0 0 0 q2.length]) [⟨0, some (q2.map f32)⟩] := by
 refine Ev.start Try.func68 rfl rfl 2 (τ := [(0, i64 a0)]) rfl (Γ' := [⟨0, none⟩, ⟨0, none⟩]) rfl (n := 13) rfl (g := 0) rfl (fun _ => rfl) ?_
 unfold i_unit at h
 refine zQ ?_
 refine ROps.d (r := optr 0 1 0) (fs := [(0, [i64 0, i64 0, nilsl])]) (Γ' := [⟨1, some [i64 0, i64 0, nilsl]⟩, ⟨0, none⟩]) rfl rfl rfl (TOp.alloc_o (g := ⟨0, none⟩) 0 rfl zer26 zok26 rfl) rfl ?_
 refine zN ?_
 refine RunC.seq ?_
 obtain ⟨r1, r2, r3, hf1, h⟩ := obind3_some h
 refine RunC.regionW ?_
 iterate 2 (refine zM (r := i64 a0) rfl rfl rfl rfl rfl ?_)
 refine ROps.d (r := agg [i64 r1, i64 r2, oref 1 1 0 r3.length]) (fs := [(1, (r3.map f32))]) (Γ' := [⟨1, some [i64 0, i64 0, nilsl]⟩, ⟨1, some (r3.map f32)⟩]) rfl rfl rfl (TOp.callBN (ls := [(r3.map f32)]) [1] (CallAs.func ent60 rfl rfl) (Bors.cons (Bor.pure rfl) (Bors.cons (Bor.pure rfl) (Bors.cons (Bor.fn Bors.nil Bors.nil) Bors.nil))) rfl (i_made_2Fi_unit_1_ok a0 a0 r1 r2 r3 hf1) (and_all (lts0_map (f := f32) (fun _ => rfl) _) rfl) (and_all (noss_map (f := f32) (fun _ => rfl) _) rfl) rfl (by decide) (ns_of ⟨⟨_, rfl⟩, trivial⟩)) rfl ?_
 refine ROps.store_le (r := agg [i64 r1, i64 r2, oref 1 1 0 r3.length]) (l' := [i64 r1, i64 r2, oref 1 1 0 r3.length]) (Γ' := [⟨1, some [i64 r1, i64 r2, oref 1 1 0 r3.length]⟩, ⟨1, some (r3.map f32)⟩]) rfl siz26 rfl rfl rfl aR rfl rfl rfl rfl (Nat.le_of_ble_eq_true rfl) rfl rfl ?_
 refine zN ?_
 refine RunC.ret ?_
 have hq := Option.some.inj h
 obtain ⟨hq0, hq⟩ := Prod.mk.inj hq
 obtain ⟨hq1, hq⟩ := Prod.mk.inj hq
 subst q0
 subst q1
 subst q2
 exact bodyQ.mk (r' := agg [i64 r1, i64 r2, oref 1 1 0 r3.length]) [(1, 1)] (.inr rfl) rfl (show List.Nodup [1] from by decide) rfl rfl (Res.one rfl (RV.cell agg26 siz26 rfl rfl rfl rfl)) (SelL.arr0 (f := f32) (fun _ => rfl) rfl trivial)
noncomputable def i_UnitMatrix (a0 : Int) : Option (Int × Int × Bool × (List F)) :=
 obind (i_isSide a0) fun (r1 : Bool) =>
 bsel r1 (
  obind3 (i_unit a0) fun (r2 : Int) (r3 : Int) (r4 : List F) =>
  some (r2, r3, true, r4)) (
  some (0, 0, false, ([] : List F)))
theorem i_UnitMatrix_ok (a0 : Int) (q0 : Int) (q1 : Int) (q2 : Bool) (q3 : List F) (h : i_UnitMatrix a0 = some (q0, q1, q2, q3)) : Ev Try.prog 15 [i64 a0] [] (tup [agg [i64 q0, i64 q1, oref 0 0 0 q3.length], b q2]) [⟨0, some (q3.map f32)⟩] := by
 refine Ev.start Try.func15 rfl rfl 2 (τ := [(0, i64 a0)]) rfl (Γ' := [⟨0, none⟩, ⟨0, none⟩]) rfl (n := 21) rfl (g := 0) rfl (fun _ => rfl) ?_
 unfold i_UnitMatrix at h
 refine zQ ?_
 refine ROps.d (r := optr 0 1 0) (fs := [(0, [i64 0, i64 0, nilsl])]) (Γ' := [⟨1, some [i64 0, i64 0, nilsl]⟩, ⟨0, none⟩]) rfl rfl rfl (TOp.alloc_o (g := ⟨0, none⟩) 0 rfl zer26 zok26 rfl) rfl ?_
 refine zA (r := b false) rfl rfl rfl rfl rfl ?_
 refine zN ?_
 iterate 2 (refine RunC.seq ?_)
 obtain ⟨r1, hf1, h⟩ := obind_some h
 rcases bsel_some h with ⟨hc2, h⟩ | ⟨hc2, h⟩
 ·refine RunC.regionW ?_
  refine zM (r := i64 a0) rfl rfl rfl rfl rfl ?_
  refine ROps.d (r := b true) (fs := []) (Γ' := [⟨1, some [i64 0, i64 0, nilsl]⟩, ⟨0, none⟩]) rfl rfl rfl (TOp.eqb (TOp.callB (CallAs.func ent59 rfl rfl) (Bors.cons (Bor.pure rfl) Bors.nil) rfl rfl (i_isSide_ok a0 r1 hf1)) hc2) rfl ?_
  refine zL (r := b false) rfl rfl rfl (LOp.eqb (LOp.not rfl rfl) rfl) ?_
  refine zN ?_
  refine RunC.cond_false rfl rfl ?_
  refine RunC.skip ?_
  refine RunC.seq ?_
  obtain ⟨r2, r3, r4, hf3, h⟩ := obind3_some h
  refine RunC.regionW ?_
  refine zM (r := i64 a0) rfl rfl rfl rfl rfl ?_
  refine ROps.d (r := agg [i64 r2, i64 r3, oref 1 1 0 r4.length]) (fs := [(1, (r4.map f32))]) (Γ' := [⟨1, some [i64 0, i64 0, nilsl]⟩, ⟨1, some (r4.map f32)⟩]) rfl rfl rfl (TOp.callBN (ls := [(r4.map f32)]) [1] (CallAs.func ent68 rfl rfl) (Bors.cons (Bor.pure rfl) Bors.nil) rfl (i_unit_ok a0 r2 r3 r4 hf3) (and_all (lts0_map (f := f32) (fun _ => rfl) _) rfl) (and_all (noss_map (f := f32) (fun _ => rfl) _) rfl) rfl (by decide) (ns_of ⟨⟨_, rfl⟩, trivial⟩)) rfl ?_
  refine ROps.store_le (r := agg [i64 r2, i64 r3, oref 1 1 0 r4.length]) (l' := [i64 r2, i64 r3, oref 1 1 0 r4.length]) (Γ' := [⟨1, some [i64 r2, i64 r3, oref 1 1 0 r4.length]⟩, ⟨1, some (r4.map f32)⟩]) rfl siz26 rfl rfl rfl aR rfl rfl rfl rfl (Nat.le_of_ble_eq_true rfl) rfl rfl ?_
  refine zA (r := b true) rfl rfl rfl rfl rfl ?_
  refine zN ?_
  refine RunC.ret ?_
  have hq := Option.some.inj h
  obtain ⟨hq0, hq⟩ := Prod.mk.inj hq
  obtain ⟨hq1, hq⟩ := Prod.mk.inj hq
  obtain ⟨hq2, hq⟩ := Prod.mk.inj hq
  subst q0
  subst q1
  subst q2
  subst q3
  exact bodyQ.mk (r' := tup [agg [i64 r2, i64 r3, oref 1 1 0 r4.length], b true]) [(1, 1)] (.inr rfl) rfl (show List.Nodup [1] from by decide) rfl rfl (Res.two rfl (RV.cell agg26 siz26 rfl rfl rfl rfl) (RV.tmp rfl)) (SelL.arr0 (f := f32) (fun _ => rfl) rfl trivial)
 ·refine RunC.regionW ?_
  refine zM (r := i64 a0) rfl rfl rfl rfl rfl ?_
  refine ROps.d (r := b false) (fs := []) (Γ' := [⟨1, some [i64 0, i64 0, nilsl]⟩, ⟨0, none⟩]) rfl rfl rfl (TOp.eqb (TOp.callB (CallAs.func ent59 rfl rfl) (Bors.cons (Bor.pure rfl) Bors.nil) rfl rfl (i_isSide_ok a0 r1 hf1)) hc2) rfl ?_
  refine zL (r := b true) rfl rfl rfl (LOp.eqb (LOp.not rfl rfl) rfl) ?_
  refine zN ?_
  refine RunC.cond_true rfl rfl ?_
  refine zQ ?_
  refine zL (r := agg [i64 0, i64 0, nilsl]) rfl rfl rfl (LOp.build (qs := []) zer26 zok26 und26 plc26 rfl trivial rfl) ?_
  refine ROps.store_le (r := agg [i64 0, i64 0, nilsl]) (l' := [i64 0, i64 0, nilsl]) (Γ' := [⟨1, some [i64 0, i64 0, nilsl]⟩, ⟨0, none⟩]) rfl siz26 rfl rfl rfl aR rfl rfl rfl rfl (Nat.le_of_ble_eq_true rfl) rfl rfl ?_
  refine zA (r := b false) rfl rfl rfl rfl rfl ?_
  refine zN ?_
  refine RunC.nil_cell (l' := [i64 0, i64 0, oref 1 1 0 0]) (Γ' := [⟨1, some [i64 0, i64 0, oref 1 1 0 0]⟩, ⟨1, some (([] : List F).map f32)⟩]) 0 2 1 rfl rfl rfl rfl rfl ?_
  refine RunC.ret ?_
  have hq := Option.some.inj h
  obtain ⟨hq0, hq⟩ := Prod.mk.inj hq
  obtain ⟨hq1, hq⟩ := Prod.mk.inj hq
  obtain ⟨hq2, hq⟩ := Prod.mk.inj hq
  subst q0
  subst q1
  subst q2
  subst q3
  exact bodyQ.mk (r' := tup [agg [i64 0, i64 0, oref 1 1 0 (([] : List F).length)], b false]) [(1, 1)] (.inr rfl) rfl (show List.Nodup [1] from by decide) rfl rfl (Res.eq (Res.two rfl (RV.cell agg26 siz26 rfl rfl rfl rfl) (RV.tmp rfl)) (by rw [(show ([] : List F).length = 0 from rfl)] <;> rfl)) (SelL.arr0 (f := f32) (fun _ => rfl) rfl trivial)
noncomputable def x_math_Signbit (a0 : F) : Option (Bool) :=
 obind (a0) fun (b1 : Nat) =>
 olet (IntKind.i64.wrap (b1 : Int)) fun (x2 : Int) =>
 some (decide (x2 < 0))
theorem x_math_Signbit_ok (a0 : F) (q0 : Bool) (h : x_math_Signbit a0 = some q0) : Ev Try.prog 159 [f64 a0] [] (b q0) [] := by
 refine Ev.start Try.func159 rfl rfl 0 (τ := [(0, f64 a0)]) rfl (Γ' := []) rfl (n := 15) rfl (g := 0) rfl (fun _ => rfl) ?_
 unfold x_math_Signbit at h
 refine zQ ?_
 refine zA (r := b false) rfl rfl rfl rfl rfl ?_
 refine zN ?_
 refine RunC.seq ?_
 obtain ⟨b1, he1, h⟩ := obind_some h
 obtain ⟨x2, hx2, h⟩ := olet_some h
 refine RunC.regionW ?_
 refine zM (r := f64 a0) rfl rfl rfl rfl rfl ?_
 refine zL (r := ik .u64 (b1 : Int)) rfl rfl rfl (LOp.fbx ext154 rfl (OpF.tmp rfl) he1) ?_
 refine zL (r := i64 x2) rfl rfl rfl (LOp.eqr (LOp.i2i (src := 129) (dst := 2) ⟨_, pun129⟩ pun2 rfl rfl) (congrArg (ik .i64) hx2)) ?_
 refine zL (r := b (decide (x2 < 0))) rfl rfl rfl (LOp.lss rfl rfl rfl) ?_
 refine zA (r := b (decide (x2 < 0))) rfl rfl rfl rfl rfl ?_
 refine zN ?_
 refine RunC.ret ?_
 have hq := Option.some.inj h
 subst q0
 exact bodyQ.pure (.inr rfl) rfl (Res.one rfl (RV.tmp rfl))
noncomputable def i_SameNumber (a0 : F) (a1 : F) : Option (Bool) :=
 bsel (!feq .f32 a0 a0) (
  some (!feq .f32 a1 a1)) (
  bsel (!feq .f32 a1 a1) (
   some false) (
   bsel (feq .f32 a0 a1) (
    olet (fwiden a0) fun (x1 : F) =>
    obind (x_math_Signbit x1) fun (r2 : Bool) =>
    olet (fwiden a1) fun (x3 : F) =>
    obind (x_math_Signbit x3) fun (r4 : Bool) =>
    some (r2 == r4)) (
    some false)))
theorem i_SameNumber_ok (a0 : F) (a1 : F) (q0 : Bool) (h : i_SameNumber a0 a1 = some q0) : Ev Try.prog 131 [f32 a0, f32 a1] [] (b q0) [] := by
 refine Ev.start Try.func131 rfl rfl 0 (τ := [(0, f32 a0), (1, f32 a1)]) rfl (Γ' := []) rfl (n := 67) rfl (g := 0) rfl (fun _ => rfl) ?_
 unfold i_SameNumber at h
 refine zQ ?_
 refine zA (r := b false) rfl rfl rfl rfl rfl ?_
 refine zN ?_
 iterate 2 (refine RunC.seq ?_)
 rcases bsel_some h with ⟨hc1, h⟩ | ⟨hc1, h⟩
 ·refine RunC.regionW ?_
  iterate 2 (refine zM (r := f32 a0) rfl rfl rfl rfl rfl ?_)
  refine zL (r := b true) rfl rfl rfl (LOp.eqb (LOp.fne rfl (OpF.tmp rfl) (OpF.tmp rfl)) hc1) ?_
  refine zM (r := b true) rfl rfl rfl rfl rfl ?_
  iterate 3 (refine ROps.s rfl rfl rfl ?_)
  refine zL (r := b true) rfl rfl rfl (LOp.pick_true rfl rfl rfl) ?_
  refine zN ?_
  refine RunC.cond_true rfl rfl ?_
  refine zQ ?_
  iterate 2 (refine zM (r := f32 a0) rfl rfl rfl rfl rfl ?_)
  refine zL (r := b true) rfl rfl rfl (LOp.eqb (LOp.fne rfl (OpF.tmp rfl) (OpF.tmp rfl)) hc1) ?_
  refine zM (r := b true) rfl rfl rfl rfl rfl ?_
  iterate 2 (refine zM (r := f32 a1) rfl rfl rfl rfl rfl ?_)
  refine zL (r := b (!feq .f32 a1 a1)) rfl rfl rfl (LOp.fne rfl (OpF.tmp rfl) (OpF.tmp rfl)) ?_
  refine zL (r := b (!feq .f32 a1 a1)) rfl rfl rfl (LOp.pick_true rfl rfl rfl) ?_
  refine zA (r := b (!feq .f32 a1 a1)) rfl rfl rfl rfl rfl ?_
  refine zN ?_
  refine RunC.ret ?_
  have hq := Option.some.inj h
  subst q0
  exact bodyQ.pure (.inr rfl) rfl (Res.one rfl (RV.tmp rfl))
 ·rcases bsel_some h with ⟨hc2, h⟩ | ⟨hc2, h⟩
  ·refine RunC.regionW ?_
   iterate 2 (refine zM (r := f32 a0) rfl rfl rfl rfl rfl ?_)
   refine zL (r := b false) rfl rfl rfl (LOp.eqb (LOp.fne rfl (OpF.tmp rfl) (OpF.tmp rfl)) hc1) ?_
   refine zM (r := b false) rfl rfl rfl rfl rfl ?_
   iterate 2 (refine zM (r := f32 a1) rfl rfl rfl rfl rfl ?_)
   refine zL (r := b true) rfl rfl rfl (LOp.eqb (LOp.fne rfl (OpF.tmp rfl) (OpF.tmp rfl)) hc2) ?_
   refine zL (r := b true) rfl rfl rfl (LOp.pick_false rfl rfl rfl) ?_
   refine zN ?_
   refine RunC.cond_true rfl rfl ?_
   refine zQ ?_
   iterate 2 (refine zM (r := f32 a0) rfl rfl rfl rfl rfl ?_)
   refine zL (r := b false) rfl rfl rfl (LOp.eqb (LOp.fne rfl (OpF.tmp rfl) (OpF.tmp rfl)) hc1) ?_
   refine zM (r := b false) rfl rfl rfl rfl rfl ?_
   iterate 3 (refine ROps.s rfl rfl rfl ?_)
   refine zL (r := b false) rfl rfl rfl (LOp.pick_false rfl rfl rfl) ?_
   refine zA (r := b false) rfl rfl rfl rfl rfl ?_
   refine zN ?_
   refine RunC.ret ?_
   have hq := Option.some.inj h
   subst q0
   exact bodyQ.pure (.inr rfl) rfl (Res.one rfl (RV.tmp rfl))
  ·refine RunC.regionW ?_
   iterate 2 (refine zM (r := f32 a0) rfl rfl rfl rfl rfl ?_)
   refine zL (r := b false) rfl rfl rfl (LOp.eqb (LOp.fne rfl (OpF.tmp rfl) (OpF.tmp rfl)) hc1) ?_
   refine zM (r := b false) rfl rfl rfl rfl rfl ?_
   iterate 2 (refine zM (r := f32 a1) rfl rfl rfl rfl rfl ?_)
   refine zL (r := b false) rfl rfl rfl (LOp.eqb (LOp.fne rfl (OpF.tmp rfl) (OpF.tmp rfl)) hc2) ?_
   refine zL (r := b false) rfl rfl rfl (LOp.pick_false rfl rfl rfl) ?_
   refine zN ?_
   refine RunC.cond_false rfl rfl ?_
   refine RunC.skip ?_
   refine RunC.seq ?_
   rcases bsel_some h with ⟨hc3, h⟩ | ⟨hc3, h⟩
   ·obtain ⟨x1, hx4, h⟩ := olet_some h
    obtain ⟨r2, hf5, h⟩ := obind_some h
    obtain ⟨x3, hx6, h⟩ := olet_some h
    obtain ⟨r4, hf7, h⟩ := obind_some h
    refine RunC.regionW ?_
    refine zM (r := f32 a0) rfl rfl rfl rfl rfl ?_
    refine zM (r := f32 a1) rfl rfl rfl rfl rfl ?_
    refine zL (r := b true) rfl rfl rfl (LOp.eqb (LOp.feq rfl (OpF.tmp rfl) (OpF.tmp rfl)) hc3) ?_
    refine zM (r := b true) rfl rfl rfl rfl rfl ?_
    refine zM (r := f32 a0) rfl rfl rfl rfl rfl ?_
    refine ROps.d (r := f64 x1) (fs := []) (Γ' := []) rfl rfl rfl (TOp.eqr (TOp.widen (src := 36) (dst := 37) ⟨_, pun36⟩ pun37 rfl (OpF.tmp rfl)) (congrArg (f .f64) hx4)) rfl ?_
    refine ROps.d (r := b r2) (fs := []) (Γ' := []) rfl rfl rfl (TOp.callB (CallAs.func ent159 rfl rfl) (Bors.cons (Bor.pure rfl) Bors.nil) rfl rfl (x_math_Signbit_ok x1 r2 hf5)) rfl ?_
    refine zM (r := f32 a1) rfl rfl rfl rfl rfl ?_
    refine ROps.d (r := f64 x3) (fs := []) (Γ' := []) rfl rfl rfl (TOp.eqr (TOp.widen (src := 36) (dst := 37) ⟨_, pun36⟩ pun37 rfl (OpF.tmp rfl)) (congrArg (f .f64) hx6)) rfl ?_
    refine ROps.d (r := b r4) (fs := []) (Γ' := []) rfl rfl rfl (TOp.callB (CallAs.func ent159 rfl rfl) (Bors.cons (Bor.pure rfl) Bors.nil) rfl rfl (x_math_Signbit_ok x3 r4 hf7)) rfl ?_
    refine zL (r := b (r2 == r4)) rfl rfl rfl (LOp.eqlb pun4 rfl rfl rfl) ?_
    refine zL (r := b (r2 == r4)) rfl rfl rfl (LOp.pick_true rfl rfl rfl) ?_
    refine zA (r := b (r2 == r4)) rfl rfl rfl rfl rfl ?_
    refine zN ?_
    refine RunC.ret ?_
    have hq := Option.some.inj h
    subst q0
    exact bodyQ.pure (.inr rfl) rfl (Res.one rfl (RV.tmp rfl))
   ·refine RunC.regionW ?_
    refine zM (r := f32 a0) rfl rfl rfl rfl rfl ?_
    refine zM (r := f32 a1) rfl rfl rfl rfl rfl ?_
    refine zL (r := b false) rfl rfl rfl (LOp.eqb (LOp.feq rfl (OpF.tmp rfl) (OpF.tmp rfl)) hc3) ?_
    refine zM (r := b false) rfl rfl rfl rfl rfl ?_
    iterate 7 (refine ROps.s rfl rfl rfl ?_)
    refine zL (r := b false) rfl rfl rfl (LOp.pick_false rfl rfl rfl) ?_
    refine zA (r := b false) rfl rfl rfl rfl rfl ?_
    refine zN ?_
    refine RunC.ret ?_
    have hq := Option.some.inj h
    subst q0
    exact bodyQ.pure (.inr rfl) rfl (Res.one rfl (RV.tmp rfl))
noncomputable def x_slices_EqualFunc_float32_float32_float32_float32_2Fi_SameNumber_b1 (a0 : List F) (a1 : List F) (v1 : Int) : Option (LR (Int) (Unit) (Bool)) :=
 bsel (decide (v1 < (a0.length : Int))) (
  obind (at? a0 v1) fun (e2 : F) =>
  obind (at? a1 v1) fun (e3 : F) =>
  obind (i_SameNumber e2 e3) fun (r4 : Bool) =>
  bsel r4 (
   olet (IntKind.i64.wrap (v1 + 1)) fun (x5 : Int) =>
   some (LR.next x5)) (
   some (LR.ret false))) (
  some (LR.out ()))
noncomputable def x_slices_EqualFunc_float32_float32_float32_float32_2Fi_SameNumber_s1 (a0 : List F) (a1 : List F) : (Int) → Option (LR (Int) (Unit) (Bool)) := fun s => x_slices_EqualFunc_float32_float32_float32_float32_2Fi_SameNumber_b1 a0 a1 s
noncomputable def x_slices_EqualFunc_float32_float32_float32_float32_2Fi_SameNumber_k1  : Option (Bool) :=
 some true
noncomputable def x_slices_EqualFunc_float32_float32_float32_float32_2Fi_SameNumber (a0 : List F) (a1 : List F) : Option (Bool) :=
 bsel (!decide ((a0.length : Int) = (a1.length : Int))) (
  some false) (
  obind (loopM (x_slices_EqualFunc_float32_float32_float32_float32_2Fi_SameNumber_s1 a0 a1) 0) fun z => osum z (fun _ => x_slices_EqualFunc_float32_float32_float32_float32_2Fi_SameNumber_k1) (fun r => some r))
theorem x_slices_EqualFunc_float32_float32_float32_float32_2Fi_SameNumber_ok (a0 : List F) (a1 : List F) (q0 : Bool) (h : x_slices_EqualFunc_float32_float32_float32_float32_2Fi_SameNumber a0 a1 = some q0) : Ev Try.prog 130 [sl a0.length (a0.map f32), sl a1.length (a1.map f32), fn (.func 131) [] []] [] (b q0) [] := by
 refine Ev.start Try.func130 rfl rfl 0 (τ := [(0, sl a0.length (a0.map f32)), (1, sl a1.length (a1.map f32)), (2, fn (.func 131) [] [])]) rfl (Γ' := []) rfl (n := 65) rfl (g := 0) rfl (fun _ => rfl) ?_
 unfold x_slices_EqualFunc_float32_float32_float32_float32_2Fi_SameNumber at h
 refine zQ ?_
 refine zA (r := b false) rfl rfl rfl rfl rfl ?_
 refine zN ?_
 iterate 2 (refine RunC.seq ?_)
 rcases bsel_some h with ⟨hc1, h⟩ | ⟨hc1, h⟩
 ·refine RunC.regionW ?_
  refine zM (r := sl a0.length (a0.map f32)) rfl rfl rfl rfl rfl ?_
  refine zL (r := i64 (a0.length : Int)) rfl rfl rfl (LOp.len_sl und24 rfl rfl) ?_
  refine zM (r := sl a1.length (a1.map f32)) rfl rfl rfl rfl rfl ?_
  refine zL (r := i64 (a1.length : Int)) rfl rfl rfl (LOp.len_sl und24 rfl rfl) ?_
  refine zL (r := b true) rfl rfl rfl (LOp.eqb (LOp.neq rfl rfl rfl) hc1) ?_
  refine zN ?_
  refine RunC.cond_true rfl rfl ?_
  refine zQ ?_
  refine zA (r := b false) rfl rfl rfl rfl rfl ?_
  refine zN ?_
  refine RunC.ret ?_
  have hq := Option.some.inj h
  subst q0
  exact bodyQ.pure (.inr rfl) rfl (Res.one rfl (RV.tmp rfl))
 ·refine RunC.regionW ?_
  refine zM (r := sl a0.length (a0.map f32)) rfl rfl rfl rfl rfl ?_
  refine zL (r := i64 (a0.length : Int)) rfl rfl rfl (LOp.len_sl und24 rfl rfl) ?_
  refine zM (r := sl a1.length (a1.map f32)) rfl rfl rfl rfl rfl ?_
  refine zL (r := i64 (a1.length : Int)) rfl rfl rfl (LOp.len_sl und24 rfl rfl) ?_
  refine zL (r := b false) rfl rfl rfl (LOp.eqb (LOp.neq rfl rfl rfl) hc1) ?_
  refine zN ?_
  refine RunC.cond_false rfl rfl ?_
  refine RunC.skip ?_
  refine RunC.seq ?_
  refine zQ ?_
  refine zM (r := sl a0.length (a0.map f32)) rfl rfl rfl rfl rfl ?_
  refine zL (r := i64 (a0.length : Int)) rfl rfl rfl (LOp.len_sl und24 rfl rfl) ?_
  refine zM (r := i64 0) rfl rfl rfl rfl rfl ?_
  refine zN ?_
  obtain ⟨z2, hz_2, h⟩ := obind_some h
  refine RunC.cutN (fun τ Γ => WeakLe τ [] ∧ DeadLe Γ [] ∧ z2 = .inl ()) ?_ ?_
  ·refine RunC.block (RunC.loop (RunL.loopM (x := z2) (x_slices_EqualFunc_float32_float32_float32_float32_2Fi_SameNumber_s1 a0 a1) (fun (s : Int) τ Γ => WeakLe τ [(1, sl a1.length (a1.map f32)), (2, fn (.func 131) [] []), (15, sl a0.length (a0.map f32)), (16, i64 (a0.length : Int)), (17, i64 s)] ∧ DeadLe Γ []) ?_ _ _ _ hz_2 ⟨⟨aR, aR, aR, aR, aR, trivial⟩, trivial⟩))
   rintro v1 τ2 Γ2 y2_ ⟨hw2, hd2⟩ h2_ ho2 hr2
   refine RunC.wl (τ' := [(1, sl a1.length (a1.map f32)), (2, fn (.func 131) [] []), (15, sl a0.length (a0.map f32)), (16, i64 (a0.length : Int)), (17, i64 v1)]) (Γ' := []) hw2 hd2 ?_
   replace h2_ : x_slices_EqualFunc_float32_float32_float32_float32_2Fi_SameNumber_b1 a0 a1 v1 = some y2_ := h2_
   unfold x_slices_EqualFunc_float32_float32_float32_float32_2Fi_SameNumber_b1 at h2_
   refine RunC.seq ?_
   rcases bsel_some h2_ with ⟨hc2, h2_⟩ | ⟨hc2, h2_⟩
   ·refine RunC.regionW ?_
    refine zL (r := b true) rfl rfl rfl (LOp.eqb (LOp.lss rfl rfl rfl) hc2) ?_
    refine zN ?_
    refine RunC.seq ?_
    refine RunC.cond_true rfl rfl ?_
    refine RunC.skip ?_
    refine RunC.seq ?_
    refine RunC.block ?_
    refine RunC.seq ?_
    obtain ⟨e2, he3, h2_⟩ := obind_some h2_
    refine RunC.regionW ?_
    refine zM (r := i64 v1) rfl rfl rfl rfl rfl ?_
    refine zL (r := ptr [f32 e2]) rfl rfl rfl (LOp.le (LOp.ix (f := f32) und24 siz36 rfl rfl rfl rfl he3) ALe.ptr) ?_
    refine zL (r := f32 e2) rfl rfl rfl (LOp.load1 agg36 rfl rfl) ?_
    refine zA (r := i64 v1) rfl rfl rfl rfl rfl ?_
    refine zA (r := f32 e2) rfl rfl rfl rfl rfl ?_
    refine zN ?_
    refine RunC.seq ?_
    obtain ⟨e3, he4, h2_⟩ := obind_some h2_
    refine RunC.regionW ?_
    refine zM (r := sl a1.length (a1.map f32)) rfl rfl rfl rfl rfl ?_
    refine zM (r := i64 v1) rfl rfl rfl rfl rfl ?_
    refine zL (r := ptr [f32 e3]) rfl rfl rfl (LOp.le (LOp.ix (f := f32) und24 siz36 rfl rfl rfl rfl he4) ALe.ptr) ?_
    refine zL (r := f32 e3) rfl rfl rfl (LOp.load1 agg36 rfl rfl) ?_
    refine zA (r := f32 e3) rfl rfl rfl rfl rfl ?_
    refine zN ?_
    refine RunC.seq ?_
    obtain ⟨r4, hf5, h2_⟩ := obind_some h2_
    rcases bsel_some h2_ with ⟨hc6, h2_⟩ | ⟨hc6, h2_⟩
    ·refine RunC.regionW ?_
     refine zM (r := fn (.func 131) [] []) rfl rfl rfl rfl rfl ?_
     refine zM (r := f32 e2) rfl rfl rfl rfl rfl ?_
     refine zM (r := f32 e3) rfl rfl rfl rfl rfl ?_
     refine ROps.d (r := b true) (fs := []) (Γ' := []) rfl rfl rfl (TOp.eqb (TOp.callB (CallAs.fn ent131 rfl rfl rfl rfl) (Bors.cons (Bor.pure rfl) (Bors.cons (Bor.pure rfl) Bors.nil)) rfl rfl (i_SameNumber_ok e2 e3 r4 hf5)) hc6) rfl ?_
     refine zL (r := b false) rfl rfl rfl (LOp.eqb (LOp.not rfl rfl) rfl) ?_
     refine zN ?_
     refine RunC.wl (τ' := [(1, sl a1.length (a1.map f32)), (2, fn (.func 131) [] []), (15, sl a0.length (a0.map f32)), (16, i64 (a0.length : Int)), (17, i64 v1), (30, b false)]) (Γ' := []) ⟨aR, aR, aR, aR, aR, aR, trivial⟩ trivial ?_
     refine RunC.cond_false rfl rfl ?_
     refine RunC.skip ?_
     obtain ⟨x5, hx7, h2_⟩ := olet_some h2_
     refine RunC.regionW ?_
     refine zL (r := i64 x5) rfl rfl rfl (LOp.eqr (LOp.add rfl rfl rfl) (congrArg (ik .i64) hx7)) ?_
     refine zM (r := i64 x5) rfl rfl rfl rfl rfl ?_
     refine zN ?_
     cases Option.some.inj h2_
     exact ⟨_, rfl, ⟨aR, aR, aR, aR, aR, trivial⟩, trivial⟩
    ·refine RunC.regionW ?_
     refine zM (r := fn (.func 131) [] []) rfl rfl rfl rfl rfl ?_
     refine zM (r := f32 e2) rfl rfl rfl rfl rfl ?_
     refine zM (r := f32 e3) rfl rfl rfl rfl rfl ?_
     refine ROps.d (r := b false) (fs := []) (Γ' := []) rfl rfl rfl (TOp.eqb (TOp.callB (CallAs.fn ent131 rfl rfl rfl rfl) (Bors.cons (Bor.pure rfl) (Bors.cons (Bor.pure rfl) Bors.nil)) rfl rfl (i_SameNumber_ok e2 e3 r4 hf5)) hc6) rfl ?_
     refine zL (r := b true) rfl rfl rfl (LOp.eqb (LOp.not rfl rfl) rfl) ?_
     refine zN ?_
     refine RunC.wl (τ' := [(1, sl a1.length (a1.map f32)), (2, fn (.func 131) [] []), (15, sl a0.length (a0.map f32)), (16, i64 (a0.length : Int)), (17, i64 v1), (30, b true)]) (Γ' := []) ⟨aR, aR, aR, aR, aR, aR, trivial⟩ trivial ?_
     refine RunC.cond_true rfl rfl ?_
     refine zQ ?_
     refine zA (r := b false) rfl rfl rfl rfl rfl ?_
     refine zN ?_
     refine RunC.ret ?_
     cases Option.some.inj h2_
     have hx3_ := hr2 _ rfl
     subst hx3_
     have hq := Option.some.inj h
     subst q0
     exact bodyQ.pure (.inr rfl) rfl (Res.one rfl (RV.tmp rfl))
   ·refine RunC.regionW ?_
    refine zL (r := b false) rfl rfl rfl (LOp.eqb (LOp.lss rfl rfl rfl) hc2) ?_
    refine zN ?_
    refine RunC.seq ?_
    refine RunC.cond_false rfl rfl ?_
    refine RunC.exit ?_
    cases Option.some.inj h2_
    have hx := ho2 _ rfl
    exact ⟨trivial, trivial, hx⟩
  ·rintro τ4 Γ4 ⟨hw4, hd4, rfl⟩
   refine RunC.wl hw4 hd4 ?_
   replace h : x_slices_EqualFunc_float32_float32_float32_float32_2Fi_SameNumber_k1 = some q0 := h
   unfold x_slices_EqualFunc_float32_float32_float32_float32_2Fi_SameNumber_k1 at h
   refine zQ ?_
   refine zA (r := b true) rfl rfl rfl rfl rfl ?_
   refine zN ?_
   refine RunC.ret ?_
   have hq := Option.some.inj h
   subst q0
   exact bodyQ.pure (.inr rfl) rfl (Res.one rfl (RV.tmp rfl))
noncomputable def i_sameNumbers (a0 : List F) (a1 : List F) : Option (Bool) :=
 obind (x_slices_EqualFunc_float32_float32_float32_float32_2Fi_SameNumber a0 a1) fun (r1 : Bool) =>
 some r1
theorem i_sameNumbers_ok (a0 : List F) (a1 : List F) (q0 : Bool) (h : i_sameNumbers a0 a1 = some q0) : Ev Try.prog 69 [sl a0.length (a0.map f32), sl a1.length (a1.map f32)] [] (b q0) [] := by
 refine Ev.start Try.func69 rfl rfl 0 (τ := [(0, sl a0.length (a0.map f32)), (1, sl a1.length (a1.map f32))]) rfl (Γ' := []) rfl (n := 17) rfl (g := 0) rfl (fun _ => rfl) ?_
 unfold i_sameNumbers at h
 refine zQ ?_
 refine zA (r := b false) rfl rfl rfl rfl rfl ?_
 refine zN ?_
 refine RunC.seq ?_
 obtain ⟨r1, hf1, h⟩ := obind_some h
 refine RunC.regionW ?_
 refine zM (r := sl a0.length (a0.map f32)) rfl rfl rfl rfl rfl ?_
 refine zM (r := sl a1.length (a1.map f32)) rfl rfl rfl rfl rfl ?_
 refine ROps.d (r := b r1) (fs := []) (Γ' := []) rfl rfl rfl (TOp.callB (CallAs.func ent130 rfl rfl) (Bors.cons (Bor.sl (fun _ => rfl)) (Bors.cons (Bor.sl (fun _ => rfl)) (Bors.cons (Bor.fn Bors.nil Bors.nil) Bors.nil))) rfl rfl (x_slices_EqualFunc_float32_float32_float32_float32_2Fi_SameNumber_ok a0 a1 r1 hf1)) rfl ?_
 refine zA (r := b r1) rfl rfl rfl rfl rfl ?_
 refine zN ?_
 refine RunC.ret ?_
 have hq := Option.some.inj h
 subst q0
 exact bodyQ.pure (.inr rfl) rfl (Res.one rfl (RV.tmp rfl))
noncomputable def i_SameMatrix (a0 : Int) (a1 : Int) (a2 : List F) (a3 : Int) (a4 : Int) (a5 : List F) : Option (Bool) :=
 bsel (decide (a0 = a3)) (
  bsel (decide (a1 = a4)) (
   obind (i_sameNumbers a2 a5) fun (r1 : Bool) =>
   some r1) (
   some false)) (
  some false)
theorem i_SameMatrix_ok (a0 : Int) (a1 : Int) (a2 : List F) (a3 : Int) (a4 : Int) (a5 : List F) (q0 : Bool) (h : i_SameMatrix a0 a1 a2 a3 a4 a5 = some q0) : Ev Try.prog 16 [agg [i64 a0, i64 a1, sl a2.length (a2.map f32)], agg [i64 a3, i64 a4, sl a5.length (a5.map f32)]] [] (b q0) [] := by
 refine Ev.start Try.func16 rfl rfl 0 (τ := [(0, agg [i64 a0, i64 a1, sl a2.length (a2.map f32)]), (1, agg [i64 a3, i64 a4, sl a5.length (a5.map f32)])]) rfl (Γ' := []) rfl (n := 49) rfl (g := 0) rfl (fun _ => rfl) ?_
 unfold i_SameMatrix at h
 refine zQ ?_
 refine ROps.d (r := ptr [i64 a0, i64 a1, sl a2.length (a2.map f32)]) (fs := []) (Γ' := []) rfl rfl rfl (TOp.box_s rfl rfl rfl) rfl ?_
 refine ROps.d (r := ptr [i64 a3, i64 a4, sl a5.length (a5.map f32)]) (fs := []) (Γ' := []) rfl rfl rfl (TOp.box_s rfl rfl rfl) rfl ?_
 refine zA (r := b false) rfl rfl rfl rfl rfl ?_
 refine zN ?_
 refine RunC.seq ?_
 rcases bsel_some h with ⟨hc1, h⟩ | ⟨hc1, h⟩
 ·rcases bsel_some h with ⟨hc2, h⟩ | ⟨hc2, h⟩
  ·obtain ⟨r1, hf3, h⟩ := obind_some h
   refine RunC.regionW ?_
   refine zL (r := ptr [i64 a0, i64 a1, sl a2.length (a2.map f32)]) rfl rfl rfl (LOp.fap und26 rfl siz2 rfl rfl rfl) ?_
   refine zL (r := i64 a0) rfl rfl rfl (LOp.load1 agg2 rfl rfl) ?_
   refine zL (r := ptr [i64 a3, i64 a4, sl a5.length (a5.map f32)]) rfl rfl rfl (LOp.fap und26 rfl siz2 rfl rfl rfl) ?_
   refine zL (r := i64 a3) rfl rfl rfl (LOp.load1 agg2 rfl rfl) ?_
   refine zL (r := b true) rfl rfl rfl (LOp.eqb (LOp.eql rfl rfl rfl) hc1) ?_
   refine zM (r := b true) rfl rfl rfl rfl rfl ?_
   refine zL (r := ptr [i64 a1, sl a2.length (a2.map f32)]) rfl rfl rfl (LOp.fap und26 rfl siz2 rfl rfl rfl) ?_
   refine zL (r := i64 a1) rfl rfl rfl (LOp.load1 agg2 rfl rfl) ?_
   refine zL (r := ptr [i64 a4, sl a5.length (a5.map f32)]) rfl rfl rfl (LOp.fap und26 rfl siz2 rfl rfl rfl) ?_
   refine zL (r := i64 a4) rfl rfl rfl (LOp.load1 agg2 rfl rfl) ?_
   refine zL (r := b true) rfl rfl rfl (LOp.eqb (LOp.eql rfl rfl rfl) hc2) ?_
   refine zL (r := b true) rfl rfl rfl (LOp.pick_true rfl rfl rfl) ?_
   refine zM (r := b true) rfl rfl rfl rfl rfl ?_
   refine zL (r := ptr [sl a2.length (a2.map f32)]) rfl rfl rfl (LOp.fap und26 rfl siz24 rfl rfl rfl) ?_
   refine zL (r := sl a2.length (a2.map f32)) rfl rfl rfl (LOp.load1 agg24 rfl rfl) ?_
   refine zL (r := ptr [sl a5.length (a5.map f32)]) rfl rfl rfl (LOp.fap und26 rfl siz24 rfl rfl rfl) ?_
   refine zL (r := sl a5.length (a5.map f32)) rfl rfl rfl (LOp.load1 agg24 rfl rfl) ?_
   refine ROps.d (r := b r1) (fs := []) (Γ' := []) rfl rfl rfl (TOp.callB (CallAs.func ent69 rfl rfl) (Bors.cons (Bor.sl (fun _ => rfl)) (Bors.cons (Bor.sl (fun _ => rfl)) Bors.nil)) rfl rfl (i_sameNumbers_ok a2 a5 r1 hf3)) rfl ?_
   refine zL (r := b r1) rfl rfl rfl (LOp.pick_true rfl rfl rfl) ?_
   refine zA (r := b r1) rfl rfl rfl rfl rfl ?_
   refine zN ?_
   refine RunC.ret ?_
   have hq := Option.some.inj h
   subst q0
   exact bodyQ.pure (.inr rfl) rfl (Res.one rfl (RV.tmp rfl))
  ·refine RunC.regionW ?_
   refine zL (r := ptr [i64 a0, i64 a1, sl a2.length (a2.map f32)]) rfl rfl rfl (LOp.fap und26 rfl siz2 rfl rfl rfl) ?_
   refine zL (r := i64 a0) rfl rfl rfl (LOp.load1 agg2 rfl rfl) ?_
   refine zL (r := ptr [i64 a3, i64 a4, sl a5.length (a5.map f32)]) rfl rfl rfl (LOp.fap und26 rfl siz2 rfl rfl rfl) ?_
   refine zL (r := i64 a3) rfl rfl rfl (LOp.load1 agg2 rfl rfl) ?_
   refine zL (r := b true) rfl rfl rfl (LOp.eqb (LOp.eql rfl rfl rfl) hc1) ?_
   refine zM (r := b true) rfl rfl rfl rfl rfl ?_
   refine zL (r := ptr [i64 a1, sl a2.length (a2.map f32)]) rfl rfl rfl (LOp.fap und26 rfl siz2 rfl rfl rfl) ?_
   refine zL (r := i64 a1) rfl rfl rfl (LOp.load1 agg2 rfl rfl) ?_
   refine zL (r := ptr [i64 a4, sl a5.length (a5.map f32)]) rfl rfl rfl (LOp.fap und26 rfl siz2 rfl rfl rfl) ?_
   refine zL (r := i64 a4) rfl rfl rfl (LOp.load1 agg2 rfl rfl) ?_
   refine zL (r := b false) rfl rfl rfl (LOp.eqb (LOp.eql rfl rfl rfl) hc2) ?_
   refine zL (r := b false) rfl rfl rfl (LOp.pick_true rfl rfl rfl) ?_
   refine zM (r := b false) rfl rfl rfl rfl rfl ?_
   iterate 5 (refine ROps.s rfl rfl rfl ?_)
   refine zL (r := b false) rfl rfl rfl (LOp.pick_false rfl rfl rfl) ?_
   refine zA (r := b false) rfl rfl rfl rfl rfl ?_
   refine zN ?_
   refine RunC.ret ?_
   have hq := Option.some.inj h
   subst q0
   exact bodyQ.pure (.inr rfl) rfl (Res.one rfl (RV.tmp rfl))
 ·refine RunC.regionW ?_
  refine zL (r := ptr [i64 a0, i64 a1, sl a2.length (a2.map f32)]) rfl rfl rfl (LOp.fap und26 rfl siz2 rfl rfl rfl) ?_
  refine zL (r := i64 a0) rfl rfl rfl (LOp.load1 agg2 rfl rfl) ?_
  refine zL (r := ptr [i64 a3, i64 a4, sl a5.length (a5.map f32)]) rfl rfl rfl (LOp.fap und26 rfl siz2 rfl rfl rfl) ?_
  refine zL (r := i64 a3) rfl rfl rfl (LOp.load1 agg2 rfl rfl) ?_
  refine zL (r := b false) rfl rfl rfl (LOp.eqb (LOp.eql rfl rfl rfl) hc1) ?_
  iterate 2 (refine zM (r := b false) rfl rfl rfl rfl rfl ?_; refine ROps.s rfl rfl rfl ?_; refine ROps.s rfl rfl rfl ?_; refine ROps.s rfl rfl rfl ?_; refine ROps.s rfl rfl rfl ?_; refine ROps.s rfl rfl rfl ?_; refine zL (r := b false) rfl rfl rfl (LOp.pick_false rfl rfl rfl) ?_)
  refine zA (r := b false) rfl rfl rfl rfl rfl ?_
  refine zN ?_
  refine RunC.ret ?_
  have hq := Option.some.inj h
  subst q0
  exact bodyQ.pure (.inr rfl) rfl (Res.one rfl (RV.tmp rfl))
noncomputable def w_r8Gap (a0 : F) (a1 : F) : Option (F) :=
 olet (fop .sub .f64 a0 a1) fun (x1 : F) =>
 olet (fop .sub .f64 a1 a0) fun (x2 : F) =>
 obind (fmaxN .f64 x1 x2) fun (y3 : F) =>
 some y3
theorem w_r8Gap_ok (a0 : F) (a1 : F) (q0 : F) (h : w_r8Gap a0 a1 = some q0) : Ev Try.prog 17 [f64 a0, f64 a1] [] (f64 q0) [] := by
 refine Ev.start Try.func17 rfl rfl 0 (τ := [(0, f64 a0), (1, f64 a1)]) rfl (Γ' := []) rfl (n := 25) rfl (g := 0) rfl (fun _ => rfl) ?_
 unfold w_r8Gap at h
 refine zQ ?_
 refine zL (r := f64 (some 0)) rfl rfl rfl (LOp.le (LOp.assign rfl rfl) (ALe.fl (by kernel_rfl) (by kernel_rfl))) ?_
 refine zN ?_
 refine RunC.seq ?_
 obtain ⟨x1, hx1, h⟩ := olet_some h
 obtain ⟨x2, hx2, h⟩ := olet_some h
 obtain ⟨y3, hy3, h⟩ := obind_some h
 refine RunC.regionW ?_
 refine zM (r := f64 a0) rfl rfl rfl rfl rfl ?_
 refine zM (r := f64 a1) rfl rfl rfl rfl rfl ?_
 refine ROps.d (r := f64 x1) (fs := []) (Γ' := []) rfl rfl rfl (TOp.eqr (TOp.fop (.inr (.inl rfl)) rfl (OpF.tmp rfl) (OpF.tmp rfl)) (congrArg (f .f64) hx1)) rfl ?_
 refine zM (r := f64 a1) rfl rfl rfl rfl rfl ?_
 refine zM (r := f64 a0) rfl rfl rfl rfl rfl ?_
 refine ROps.d (r := f64 x2) (fs := []) (Γ' := []) rfl rfl rfl (TOp.eqr (TOp.fop (.inr (.inl rfl)) rfl (OpF.tmp rfl) (OpF.tmp rfl)) (congrArg (f .f64) hx2)) rfl ?_
 refine zL (r := f64 y3) rfl rfl rfl (LOp.max2f rfl (OpF.tmp rfl) (OpF.tmp rfl) hy3) ?_
 refine zA (r := f64 y3) rfl rfl rfl rfl rfl ?_
 refine zN ?_
 refine RunC.ret ?_
 have hq := Option.some.inj h
 subst q0
 exact bodyQ.pure (.inr rfl) rfl (Res.one rfl (RV.tmp rfl))
noncomputable def i_IsVector (a0 : List F) : Option (Bool) :=
 obind (i_length_float32 a0) fun (r1 : Int) =>
 obind (i_inRange r1 1 256) fun (r2 : Bool) =>
 bsel r2 (
  obind (i_areFinite a0) fun (r3 : Bool) =>
  some r3) (
  some false)
theorem i_IsVector_ok (a0 : List F) (q0 : Bool) (h : i_IsVector a0 = some q0) : Ev Try.prog 70 [sl a0.length (a0.map f32)] [] (b q0) [] := by
 refine Ev.start Try.func70 rfl rfl 0 (τ := [(0, sl a0.length (a0.map f32))]) rfl (Γ' := []) rfl (n := 21) rfl (g := 0) rfl (fun _ => rfl) ?_
 unfold i_IsVector at h
 refine zQ ?_
 refine zA (r := b false) rfl rfl rfl rfl rfl ?_
 refine zN ?_
 refine RunC.seq ?_
 obtain ⟨r1, hf1, h⟩ := obind_some h
 obtain ⟨r2, hf2, h⟩ := obind_some h
 rcases bsel_some h with ⟨hc3, h⟩ | ⟨hc3, h⟩
 ·obtain ⟨r3, hf4, h⟩ := obind_some h
  refine RunC.regionW ?_
  refine zM (r := sl a0.length (a0.map f32)) rfl rfl rfl rfl rfl ?_
  refine ROps.d (r := i64 r1) (fs := []) (Γ' := []) rfl rfl rfl (TOp.callB (CallAs.func ent71 rfl rfl) (Bors.cons (Bor.sl (fun _ => rfl)) Bors.nil) rfl rfl (i_length_float32_ok a0 r1 hf1)) rfl ?_
  refine ROps.d (r := b true) (fs := []) (Γ' := []) rfl rfl rfl (TOp.eqb (TOp.callB (CallAs.func ent65 rfl rfl) (Bors.cons (Bor.pure rfl) (Bors.cons (Bor.pure rfl) (Bors.cons (Bor.pure rfl) Bors.nil))) rfl rfl (i_inRange_ok r1 1 256 r2 hf2)) hc3) rfl ?_
  refine zM (r := b true) rfl rfl rfl rfl rfl ?_
  refine zM (r := sl a0.length (a0.map f32)) rfl rfl rfl rfl rfl ?_
  refine ROps.d (r := b r3) (fs := []) (Γ' := []) rfl rfl rfl (TOp.callB (CallAs.func ent79 rfl rfl) (Bors.cons (Bor.sl (fun _ => rfl)) Bors.nil) rfl rfl (i_areFinite_ok a0 r3 hf4)) rfl ?_
  refine zL (r := b r3) rfl rfl rfl (LOp.pick_true rfl rfl rfl) ?_
  refine zA (r := b r3) rfl rfl rfl rfl rfl ?_
  refine zN ?_
  refine RunC.ret ?_
  have hq := Option.some.inj h
  subst q0
  exact bodyQ.pure (.inr rfl) rfl (Res.one rfl (RV.tmp rfl))
 ·refine RunC.regionW ?_
  refine zM (r := sl a0.length (a0.map f32)) rfl rfl rfl rfl rfl ?_
  refine ROps.d (r := i64 r1) (fs := []) (Γ' := []) rfl rfl rfl (TOp.callB (CallAs.func ent71 rfl rfl) (Bors.cons (Bor.sl (fun _ => rfl)) Bors.nil) rfl rfl (i_length_float32_ok a0 r1 hf1)) rfl ?_
  refine ROps.d (r := b false) (fs := []) (Γ' := []) rfl rfl rfl (TOp.eqb (TOp.callB (CallAs.func ent65 rfl rfl) (Bors.cons (Bor.pure rfl) (Bors.cons (Bor.pure rfl) (Bors.cons (Bor.pure rfl) Bors.nil))) rfl rfl (i_inRange_ok r1 1 256 r2 hf2)) hc3) rfl ?_
  refine zM (r := b false) rfl rfl rfl rfl rfl ?_
  iterate 2 (refine ROps.s rfl rfl rfl ?_)
  refine zL (r := b false) rfl rfl rfl (LOp.pick_false rfl rfl rfl) ?_
  refine zA (r := b false) rfl rfl rfl rfl rfl ?_
  refine zN ?_
  refine RunC.ret ?_
  have hq := Option.some.inj h
  subst q0
  exact bodyQ.pure (.inr rfl) rfl (Res.one rfl (RV.tmp rfl))
noncomputable def i_Matrix_timesVector_b1 (a0 : Int) (a1 : Int) (a2 : List F) (a3 : List F) (L4 : List F) (v5 : Int) : Option (LR ((List F) × Int) ((List F)) ((List F))) :=
 bsel (decide (v5 < a0)) (
  obind (i_Matrix_row a0 a1 a2 v5) fun (r6 : List F) =>
  obind (i_dot r6 a3) fun (r7 : F) =>
  need (apok 4 L4.length 1) <|
  olet (IntKind.i64.wrap (v5 + 1)) fun (x8 : Int) =>
  some (LR.next ((L4 ++ ([r7] : List F)), x8))) (
  some (LR.out L4))
noncomputable def i_Matrix_timesVector_s1 (a0 : Int) (a1 : Int) (a2 : List F) (a3 : List F) : ((List F) × Int) → Option (LR ((List F) × Int) ((List F)) ((List F))) := fun s => i_Matrix_timesVector_b1 a0 a1 a2 a3 s.1 s.2
noncomputable def i_Matrix_timesVector_k1 (L12 : List F) : Option ((List F)) :=
 some L12
noncomputable def i_Matrix_timesVector (a0 : Int) (a1 : Int) (a2 : List F) (a3 : List F) : Option ((List F)) :=
 obind (loopM (i_Matrix_timesVector_s1 a0 a1 a2 a3) (([] : List F), 0)) fun z => osum z (fun e => i_Matrix_timesVector_k1 e) (fun r => some r)
theorem i_Matrix_timesVector_ok (a0 : Int) (a1 : Int) (a2 : List F) (a3 : List F) (q0 : List F) (h : i_Matrix_timesVector a0 a1 a2 a3 = some q0) : Ev Try.prog 73 [agg [i64 a0, i64 a1, sl a2.length (a2.map f32)], sl a3.length (a3.map f32)] [] (oref 0 0 0 q0.length) [⟨0, some (q0.map f32)⟩] := by
 refine Ev.start Try.func73 rfl rfl 3 (τ := [(0, agg [i64 a0, i64 a1, sl a2.length (a2.map f32)]), (1, sl a3.length (a3.map f32))]) rfl (Γ' := [⟨0, none⟩, ⟨0, none⟩, ⟨0, none⟩]) rfl (n := 47) rfl (g := 0) rfl (fun _ => rfl) ?_
 unfold i_Matrix_timesVector at h
 refine zQ ?_
 refine ROps.d (r := ptr [i64 a0, i64 a1, sl a2.length (a2.map f32)]) (fs := []) (Γ' := [⟨0, none⟩, ⟨0, none⟩, ⟨0, none⟩]) rfl rfl rfl (TOp.box_s rfl rfl rfl) rfl ?_
 refine zA (r := nilsl) rfl rfl rfl rfl rfl ?_
 refine zN ?_
 refine zQ ?_
 refine ROps.d (r := oref 0 1 0 0) (fs := [(0, (([] : List F).map f32))]) (Γ' := [⟨1, some (([] : List F).map f32)⟩, ⟨0, none⟩, ⟨0, none⟩]) rfl rfl rfl (TOp.buildSlice_o (g := ⟨0, none⟩) (za := f32 (some 0)) (qs := []) 0 rfl und24 siz36 zer36 rfl zel36 rfl rfl trivial rfl) rfl ?_
 refine zA (r := oref 0 1 0 0) rfl rfl rfl rfl rfl ?_
 refine zN ?_
 refine RunC.seq ?_
 refine zQ ?_
 refine zL (r := ptr [i64 a0, i64 a1, sl a2.length (a2.map f32)]) rfl rfl rfl (LOp.fap und26 rfl siz2 rfl rfl rfl) ?_
 refine zL (r := i64 a0) rfl rfl rfl (LOp.load1 agg2 rfl rfl) ?_
 refine zM (r := i64 0) rfl rfl rfl rfl rfl ?_
 refine zN ?_
 obtain ⟨z2, hz_2, h⟩ := obind_some h
 refine RunC.cutN (fun τ Γ => ∃ (L12 : List F) (u9 : Nat) (u10 : Nat) (u11 : Nat), WeakLe τ [(5, oref 0 u9 0 L12.length)] ∧ DeadLe Γ [⟨u9, some (L12.map f32)⟩, ⟨u10, none⟩, ⟨u11, none⟩] ∧ z2 = .inl L12) ?_ ?_
 ·refine RunC.block (RunC.loop (RunL.loopM (x := z2) (i_Matrix_timesVector_s1 a0 a1 a2 a3) (fun (s : (List F) × Int) τ Γ => ∃ (u1 : Nat) (u2 : Nat) (u3 : Nat), WeakLe τ [(1, sl a3.length (a3.map f32)), (2, ptr [i64 a0, i64 a1, sl a2.length (a2.map f32)]), (5, oref 0 u1 0 s.1.length), (9, i64 a0), (10, i64 s.2)] ∧ DeadLe Γ [⟨u1, some (s.1.map f32)⟩, ⟨u2, none⟩, ⟨u3, none⟩]) ?_ _ _ _ hz_2 ⟨1, 0, 0, ⟨aR, aR, aR, aR, aR, trivial⟩, ⟨⟨rfl, .inr rfl⟩, ⟨rfl, .inl rfl⟩, ⟨rfl, .inl rfl⟩, trivial⟩⟩))
  rintro ⟨L4, v5⟩ τ2 Γ2 y2_ ⟨u1, u2, u3, hw2, hd2⟩ h2_ ho2 hr2
  refine RunC.wl (τ' := [(1, sl a3.length (a3.map f32)), (2, ptr [i64 a0, i64 a1, sl a2.length (a2.map f32)]), (5, oref 0 u1 0 L4.length), (9, i64 a0), (10, i64 v5)]) (Γ' := [⟨u1, some (L4.map f32)⟩, ⟨u2, none⟩, ⟨u3, none⟩]) hw2 hd2 ?_
  replace h2_ : i_Matrix_timesVector_b1 a0 a1 a2 a3 L4 v5 = some y2_ := h2_
  unfold i_Matrix_timesVector_b1 at h2_
  refine RunC.seq ?_
  rcases bsel_some h2_ with ⟨hc1, h2_⟩ | ⟨hc1, h2_⟩
  ·refine RunC.regionW ?_
   refine zL (r := b true) rfl rfl rfl (LOp.eqb (LOp.lss rfl rfl rfl) hc1) ?_
   refine zN ?_
   refine RunC.seq ?_
   refine RunC.cond_true rfl rfl ?_
   refine RunC.skip ?_
   refine RunC.seq ?_
   refine RunC.block ?_
   refine zQ ?_
   refine zM (r := i64 v5) rfl rfl rfl rfl rfl ?_
   refine zA (r := i64 v5) rfl rfl rfl rfl rfl ?_
   refine zN ?_
   obtain ⟨r6, hf2, h2_⟩ := obind_some h2_
   obtain ⟨r7, hf3, h2_⟩ := obind_some h2_
   obtain ⟨hm4, h2_⟩ := need_some h2_
   refine RunC.regionW ?_
   refine zM (r := oref 0 u1 0 L4.length) rfl rfl rfl rfl rfl ?_
   refine zL (r := agg [i64 a0, i64 a1, sl a2.length (a2.map f32)]) rfl rfl rfl (LOp.loadAgg agg26 siz26 rfl rfl rfl rfl) ?_
   refine zM (r := i64 v5) rfl rfl rfl rfl rfl ?_
   refine ROps.d (r := oref 1 (u2 + 1) 0 r6.length) (fs := [(1, (r6.map f32))]) (Γ' := [⟨u1, some (L4.map f32)⟩, ⟨(u2 + 1), some (r6.map f32)⟩, ⟨u3, none⟩]) rfl rfl rfl (TOp.eqr (TOp.callBN (ls := [(r6.map f32)]) [1] (CallAs.func ent62 rfl rfl) (Bors.cons (Bor.agg (Bors.cons (Bor.pure rfl) (Bors.cons (Bor.pure rfl) (Bors.cons (Bor.sl (fun _ => rfl)) Bors.nil)))) (Bors.cons (Bor.pure rfl) Bors.nil)) rfl (i_Matrix_row_ok a0 a1 a2 v5 r6 hf2) (and_all (lts0_map (f := f32) (fun _ => rfl) _) rfl) (and_all (noss_map (f := f32) (fun _ => rfl) _) rfl) rfl (by decide) (ns_of ⟨⟨_, rfl⟩, trivial⟩)) (by simp [ren, rens, sigma, newNames])) rfl ?_
   refine zM (r := sl a3.length (a3.map f32)) rfl rfl rfl rfl rfl ?_
   refine ROps.d (r := f32 r7) (fs := []) (Γ' := [⟨u1, some (L4.map f32)⟩, ⟨(u2 + 1), some (r6.map f32)⟩, ⟨u3, none⟩]) rfl rfl rfl (TOp.callB (CallAs.func ent64 rfl rfl) (Bors.cons (Bor.own (f := f32) (fun _ => rfl) rfl rfl) (Bors.cons (Bor.sl (fun _ => rfl)) Bors.nil)) rfl rfl (i_dot_ok r6 a3 r7 hf3)) rfl ?_
   refine ROps.d (r := oref 2 (u3 + 1) 0 1) (fs := [(2, (([r7] : List F).map f32))]) (Γ' := [⟨u1, some (L4.map f32)⟩, ⟨(u2 + 1), some (r6.map f32)⟩, ⟨(u3 + 1), some (([r7] : List F).map f32)⟩]) rfl rfl rfl (TOp.buildSlice_o (g := ⟨u3, none⟩) (za := f32 (some 0)) (qs := [(0, [f32 r7])]) 2 rfl und24 siz36 zer36 rfl zel36 rfl rfl ⟨rfl, ⟨_, ALe.refl _, rfl⟩, trivial⟩ rfl) rfl ?_
   refine ROps.app (f := f32) (xs := L4) (ys := ([r7] : List F)) (Γ' := [⟨(u1 + 1), some ((L4 ++ ([r7] : List F)).map f32)⟩, ⟨(u2 + 1), some (r6.map f32)⟩, ⟨(u3 + 1), some (([r7] : List F).map f32)⟩]) rfl pun24 inf36 rfl rfl rfl rfl rfl rfl rfl rfl rfl (by simp) (ReadAs.own rfl (by simp)) (ones_map (fun _ => rfl)) (ap_by hm4) (ap_mx hm4) rfl ?_
   refine zA (r := oref 0 (u1 + 1) 0 (L4.length + 1)) rfl rfl rfl rfl rfl ?_
   refine zN ?_
   refine RunC.wl (τ' := [(1, sl a3.length (a3.map f32)), (2, ptr [i64 a0, i64 a1, sl a2.length (a2.map f32)]), (5, oref 0 (u1 + 1) 0 (L4.length + 1)), (9, i64 a0), (10, i64 v5)]) (Γ' := [⟨(u1 + 1), some ((L4 ++ ([r7] : List F)).map f32)⟩, ⟨(u2 + 1), none⟩, ⟨(u3 + 1), none⟩]) ⟨aR, aR, aR, aR, aR, trivial⟩ ⟨⟨rfl, .inr rfl⟩, ⟨rfl, .inl rfl⟩, ⟨rfl, .inl rfl⟩, trivial⟩ ?_
   obtain ⟨x8, hx5, h2_⟩ := olet_some h2_
   refine RunC.regionW ?_
   refine zL (r := i64 x8) rfl rfl rfl (LOp.eqr (LOp.add rfl rfl rfl) (congrArg (ik .i64) hx5)) ?_
   refine zM (r := i64 x8) rfl rfl rfl rfl rfl ?_
   refine zN ?_
   cases Option.some.inj h2_
   exact ⟨_, rfl, (u1 + 1), (u2 + 1), (u3 + 1), ⟨aR, aR, (ALe.eq (by rw [(app_len rfl rfl)] <;> rfl)), aR, aR, trivial⟩, ⟨⟨rfl, .inr rfl⟩, ⟨rfl, .inl rfl⟩, ⟨rfl, .inl rfl⟩, trivial⟩⟩
  ·refine RunC.regionW ?_
   refine zL (r := b false) rfl rfl rfl (LOp.eqb (LOp.lss rfl rfl rfl) hc1) ?_
   refine zN ?_
   refine RunC.seq ?_
   refine RunC.cond_false rfl rfl ?_
   refine RunC.exit ?_
   cases Option.some.inj h2_
   have hx := ho2 _ rfl
   exact ⟨L4, u1, u2, u3, ⟨aR, trivial⟩, ⟨⟨rfl, .inr rfl⟩, ⟨rfl, .inl rfl⟩, ⟨rfl, .inl rfl⟩, trivial⟩, hx⟩
 ·rintro τ3 Γ3 ⟨L12, u9, u10, u11, hw3, hd3, rfl⟩
  refine RunC.wl hw3 hd3 ?_
  replace h : i_Matrix_timesVector_k1 L12 = some q0 := h
  unfold i_Matrix_timesVector_k1 at h
  refine zQ ?_
  refine zM (r := oref 0 u9 0 L12.length) rfl rfl rfl rfl rfl ?_
  refine zA (r := oref 0 u9 0 L12.length) rfl rfl rfl rfl rfl ?_
  refine zN ?_
  refine RunC.ret ?_
  have hq := Option.some.inj h
  subst q0
  exact bodyQ.mk (r' := oref 0 u9 0 L12.length) [(0, u9)] (.inr rfl) rfl (show List.Nodup [0] from by decide) (by simp [ren, rens, sigma]) rfl (Res.one rfl (RV.tmp rfl)) (SelL.arr0 (f := f32) (fun _ => rfl) rfl trivial)
noncomputable def i_allFinite_0o (a0 : List F) : Option ((Bool × (List F)) ⊕ (Bool × (List F) × (List F))) :=
 obind (i_areFinite a0) fun (r1 : Bool) =>
 bsel r1 (
  some (Sum.inl (true, a0))) (
  some (Sum.inr (false, a0, ([] : List F))))
theorem i_allFinite_0o_ok0 (a0 : List F) (q0 : Bool) (q1 : List F) (h : i_allFinite_0o a0 = some (Sum.inl (q0, q1))) : Ev Try.prog 72 [oref 0 0 0 a0.length] [⟨0, some (a0.map f32)⟩] (tup [oref 0 0 0 q1.length, b q0]) [⟨0, some (q1.map f32)⟩] := by
 refine Ev.start Try.func72 rfl rfl 1 (τ := [(0, oref 0 0 0 a0.length)]) rfl (Γ' := [⟨0, some (a0.map f32)⟩, ⟨0, none⟩]) rfl (n := 16) rfl (g := 1) rfl (by decide) ?_
 unfold i_allFinite_0o at h
 refine zQ ?_
 refine zA (r := nilsl) rfl rfl rfl rfl rfl ?_
 refine zA (r := b false) rfl rfl rfl rfl rfl ?_
 refine zN ?_
 iterate 2 (refine RunC.seq ?_)
 obtain ⟨r1, hf1, h⟩ := obind_some h
 rcases bsel_some h with ⟨hc2, h⟩ | ⟨hc2, h⟩
 ·refine RunC.regionW ?_
  refine zM (r := oref 0 0 0 a0.length) rfl rfl rfl rfl rfl ?_
  refine ROps.d (r := b true) (fs := []) (Γ' := [⟨0, some (a0.map f32)⟩, ⟨0, none⟩]) rfl rfl rfl (TOp.eqb (TOp.callB (CallAs.func ent79 rfl rfl) (Bors.cons (Bor.own (f := f32) (fun _ => rfl) rfl rfl) Bors.nil) rfl rfl (i_areFinite_ok a0 r1 hf1)) hc2) rfl ?_
  refine zL (r := b false) rfl rfl rfl (LOp.eqb (LOp.not rfl rfl) rfl) ?_
  refine zN ?_
  refine RunC.cond_false rfl rfl ?_
  refine RunC.skip ?_
  refine zQ ?_
  refine zM (r := oref 0 0 0 a0.length) rfl rfl rfl rfl rfl ?_
  refine zA (r := oref 0 0 0 a0.length) rfl rfl rfl rfl rfl ?_
  refine zA (r := b true) rfl rfl rfl rfl rfl ?_
  refine zN ?_
  refine RunC.ret ?_
  have hq := Option.some.inj h
  have hq := Sum.inl.inj hq
  obtain ⟨hq0, hq⟩ := Prod.mk.inj hq
  subst q0
  subst q1
  exact bodyQ.mk (r' := tup [oref 0 0 0 a0.length, b true]) [(0, 0)] (.inr rfl) rfl (show List.Nodup [0] from by decide) rfl rfl (Res.two rfl (RV.tmp rfl) (RV.tmp rfl)) (SelL.arr (f := f32) (fun _ => rfl) rfl trivial)
 ·refine RunC.regionW ?_
  refine zM (r := oref 0 0 0 a0.length) rfl rfl rfl rfl rfl ?_
  refine ROps.d (r := b false) (fs := []) (Γ' := [⟨0, some (a0.map f32)⟩, ⟨0, none⟩]) rfl rfl rfl (TOp.eqb (TOp.callB (CallAs.func ent79 rfl rfl) (Bors.cons (Bor.own (f := f32) (fun _ => rfl) rfl rfl) Bors.nil) rfl rfl (i_areFinite_ok a0 r1 hf1)) hc2) rfl ?_
  refine zL (r := b true) rfl rfl rfl (LOp.eqb (LOp.not rfl rfl) rfl) ?_
  refine zN ?_
  refine RunC.cond_true rfl rfl ?_
  refine zQ ?_
  refine zA (r := nilsl) rfl rfl rfl rfl rfl ?_
  refine zA (r := b false) rfl rfl rfl rfl rfl ?_
  refine zN ?_
  cases Option.some.inj h
theorem i_allFinite_0o_ok1 (a0 : List F) (q0 : Bool) (q1 : List F) (q2 : List F) (h : i_allFinite_0o a0 = some (Sum.inr (q0, q1, q2))) : Ev Try.prog 72 [oref 0 0 0 a0.length] [⟨0, some (a0.map f32)⟩] (tup [oref 1 0 0 q2.length, b q0]) [⟨0, some (q1.map f32)⟩, ⟨0, some (q2.map f32)⟩] := by
 refine Ev.start Try.func72 rfl rfl 1 (τ := [(0, oref 0 0 0 a0.length)]) rfl (Γ' := [⟨0, some (a0.map f32)⟩, ⟨0, none⟩]) rfl (n := 16) rfl (g := 1) rfl (by decide) ?_
 unfold i_allFinite_0o at h
 refine zQ ?_
 refine zA (r := nilsl) rfl rfl rfl rfl rfl ?_
 refine zA (r := b false) rfl rfl rfl rfl rfl ?_
 refine zN ?_
 iterate 2 (refine RunC.seq ?_)
 obtain ⟨r1, hf1, h⟩ := obind_some h
 rcases bsel_some h with ⟨hc2, h⟩ | ⟨hc2, h⟩
 ·refine RunC.regionW ?_
  refine zM (r := oref 0 0 0 a0.length) rfl rfl rfl rfl rfl ?_
  refine ROps.d (r := b true) (fs := []) (Γ' := [⟨0, some (a0.map f32)⟩, ⟨0, none⟩]) rfl rfl rfl (TOp.eqb (TOp.callB (CallAs.func ent79 rfl rfl) (Bors.cons (Bor.own (f := f32) (fun _ => rfl) rfl rfl) Bors.nil) rfl rfl (i_areFinite_ok a0 r1 hf1)) hc2) rfl ?_
  refine zL (r := b false) rfl rfl rfl (LOp.eqb (LOp.not rfl rfl) rfl) ?_
  refine zN ?_
  refine RunC.cond_false rfl rfl ?_
  refine RunC.skip ?_
  refine zQ ?_
  refine zM (r := oref 0 0 0 a0.length) rfl rfl rfl rfl rfl ?_
  refine zA (r := oref 0 0 0 a0.length) rfl rfl rfl rfl rfl ?_
  refine zA (r := b true) rfl rfl rfl rfl rfl ?_
  refine zN ?_
  cases Option.some.inj h
 ·refine RunC.regionW ?_
  refine zM (r := oref 0 0 0 a0.length) rfl rfl rfl rfl rfl ?_
  refine ROps.d (r := b false) (fs := []) (Γ' := [⟨0, some (a0.map f32)⟩, ⟨0, none⟩]) rfl rfl rfl (TOp.eqb (TOp.callB (CallAs.func ent79 rfl rfl) (Bors.cons (Bor.own (f := f32) (fun _ => rfl) rfl rfl) Bors.nil) rfl rfl (i_areFinite_ok a0 r1 hf1)) hc2) rfl ?_
  refine zL (r := b true) rfl rfl rfl (LOp.eqb (LOp.not rfl rfl) rfl) ?_
  refine zN ?_
  refine RunC.cond_true rfl rfl ?_
  refine zQ ?_
  refine zA (r := nilsl) rfl rfl rfl rfl rfl ?_
  refine zA (r := b false) rfl rfl rfl rfl rfl ?_
  refine zN ?_
  refine RunC.nil_slot (Γ' := [⟨0, some (a0.map f32)⟩, ⟨1, some (([] : List F).map f32)⟩]) 2 1 rfl rfl rfl ?_
  refine RunC.ret ?_
  have hq := Option.some.inj h
  have hq := Sum.inr.inj hq
  obtain ⟨hq0, hq⟩ := Prod.mk.inj hq
  obtain ⟨hq1, hq⟩ := Prod.mk.inj hq
  subst q0
  subst q1
  subst q2
  exact bodyQ.mk (r' := tup [oref 1 1 0 (([] : List F).length), b false]) [(0, 0), (1, 1)] (.inr rfl) rfl (show List.Nodup [0, 1] from by decide) rfl rfl (Res.eq (Res.two rfl (RV.tmp rfl) (RV.tmp rfl)) (by rw [(show ([] : List F).length = 0 from rfl)] <;> rfl)) (SelL.arr (f := f32) (fun _ => rfl) rfl (SelL.arr0 (f := f32) (fun _ => rfl) rfl trivial))
noncomputable def i_TimesVector (a0 : Int) (a1 : Int) (a2 : List F) (a3 : List F) : Option (Bool × (List F)) :=
 obind (i_ValidMatrix a0 a1 a2) fun (r1 : Bool) =>
 bsel r1 (
  obind (i_IsVector a3) fun (r2 : Bool) =>
  bsel r2 (
   obind (i_length_float32 a3) fun (r3 : Int) =>
   bsel (!decide (r3 = a1)) (
    some (false, ([] : List F))) (
    obind (i_Matrix_timesVector a0 a1 a2 a3) fun (r4 : List F) =>
    obind (i_allFinite_0o r4) (fun z => osum z (fun y => obind2 (some y) fun (r5 : Bool) (r6 : List F) =>
     need (decide (r6.length = r4.length)) <|
     some (r5, r6)) (fun y => obind3 (some y) fun (r7 : Bool) (r8 : List F) (r9 : List F) =>
     need (decide (r8.length = r4.length)) <|
     some (r7, r9))))) (
   some (false, ([] : List F)))) (
  some (false, ([] : List F)))
theorem i_TimesVector_ok (a0 : Int) (a1 : Int) (a2 : List F) (a3 : List F) (q0 : Bool) (q1 : List F) (h : i_TimesVector a0 a1 a2 a3 = some (q0, q1)) : Ev Try.prog 18 [agg [i64 a0, i64 a1, sl a2.length (a2.map f32)], sl a3.length (a3.map f32)] [] (tup [oref 0 0 0 q1.length, b q0]) [⟨0, some (q1.map f32)⟩] := by
 refine Ev.start Try.func18 rfl rfl 2 (τ := [(0, agg [i64 a0, i64 a1, sl a2.length (a2.map f32)]), (1, sl a3.length (a3.map f32))]) rfl (Γ' := [⟨0, none⟩, ⟨0, none⟩]) rfl (n := 55) rfl (g := 0) rfl (fun _ => rfl) ?_
 unfold i_TimesVector at h
 refine zQ ?_
 refine ROps.d (r := ptr [i64 a0, i64 a1, sl a2.length (a2.map f32)]) (fs := []) (Γ' := [⟨0, none⟩, ⟨0, none⟩]) rfl rfl rfl (TOp.box_s rfl rfl rfl) rfl ?_
 refine zA (r := nilsl) rfl rfl rfl rfl rfl ?_
 refine zA (r := b false) rfl rfl rfl rfl rfl ?_
 refine zN ?_
 iterate 2 (refine RunC.seq ?_)
 obtain ⟨r1, hf1, h⟩ := obind_some h
 rcases bsel_some h with ⟨hc2, h⟩ | ⟨hc2, h⟩
 ·obtain ⟨r2, hf3, h⟩ := obind_some h
  rcases bsel_some h with ⟨hc4, h⟩ | ⟨hc4, h⟩
  ·obtain ⟨r3, hf5, h⟩ := obind_some h
   rcases bsel_some h with ⟨hc6, h⟩ | ⟨hc6, h⟩
   ·refine RunC.region_draw (Γ' := [⟨0, none⟩, ⟨0, none⟩]) 15 mixed 
     (TR.l (r := agg [i64 a0, i64 a1, sl a2.length (a2.map f32)]) rfl rfl (LOp.loadAgg agg26 siz26 rfl rfl rfl rfl) <|
     (TR.d (r := b true) (fs := []) rfl rfl (TOp.eqb (TOp.callB (CallAs.func ent66 rfl rfl) (Bors.cons (Bor.agg (Bors.cons (Bor.pure rfl) (Bors.cons (Bor.pure rfl) (Bors.cons (Bor.sl (fun _ => rfl)) Bors.nil)))) Bors.nil) rfl rfl (i_ValidMatrix_ok a0 a1 a2 r1 hf1)) hc2) <|
     (TR.l (r := b false) rfl rfl (LOp.eqb (LOp.not rfl rfl) rfl) <|
     (TR.l (r := b false) rfl rfl (LOp.move rfl rfl) <|
     (TR.l (r := sl a3.length (a3.map f32)) rfl rfl (LOp.move rfl rfl) <|
     (TR.d (r := b true) (fs := []) rfl rfl (TOp.eqb (TOp.callB (CallAs.func ent70 rfl rfl) (Bors.cons (Bor.sl (fun _ => rfl)) Bors.nil) rfl rfl (i_IsVector_ok a3 r2 hf3)) hc4) <|
     (TR.l (r := b false) rfl rfl (LOp.eqb (LOp.not rfl rfl) rfl) <|
     (TR.l (r := b false) rfl rfl (LOp.pick_false rfl rfl rfl) <|
     (TR.l (r := b false) rfl rfl (LOp.move rfl rfl) <|
     (TR.l (r := sl a3.length (a3.map f32)) rfl rfl (LOp.move rfl rfl) <|
     (TR.d (r := i64 r3) (fs := []) rfl rfl (TOp.callB (CallAs.func ent71 rfl rfl) (Bors.cons (Bor.sl (fun _ => rfl)) Bors.nil) rfl rfl (i_length_float32_ok a3 r3 hf5)) <|
     (TR.l (r := ptr [i64 a1, sl a2.length (a2.map f32)]) rfl rfl (LOp.fap und26 rfl siz2 rfl rfl rfl) <|
     (TR.l (r := i64 a1) rfl rfl (LOp.load1 agg2 rfl rfl) <|
     (TR.l (r := b true) rfl rfl (LOp.eqb (LOp.neq rfl rfl rfl) hc6) <|
     (TR.l (r := b true) rfl rfl (LOp.pick_false rfl rfl rfl) <|
     TR.nil))))))))))))))) rfl (by kernel_rfl) rfl fills_nil rfl ?_
    iterate 15 refine ROps.dropS ?_
    refine ROps.drop0 ?_
    refine zN ?_
    refine RunC.wl (τ' := [(1, sl a3.length (a3.map f32)), (2, ptr [i64 a0, i64 a1, sl a2.length (a2.map f32)]), (20, b true)]) (Γ' := [⟨0, none⟩, ⟨0, none⟩]) ⟨aR, aR, aR, trivial⟩ ⟨⟨rfl, .inr rfl⟩, ⟨rfl, .inr rfl⟩, trivial⟩ ?_
    refine RunC.cond_true rfl rfl ?_
    refine zQ ?_
    refine zA (r := nilsl) rfl rfl rfl rfl rfl ?_
    refine zA (r := b false) rfl rfl rfl rfl rfl ?_
    refine zN ?_
    refine RunC.nil_slot (Γ' := [⟨1, some (([] : List F).map f32)⟩, ⟨0, none⟩]) 4 0 rfl rfl rfl ?_
    refine RunC.ret ?_
    have hq := Option.some.inj h
    obtain ⟨hq0, hq⟩ := Prod.mk.inj hq
    subst q0
    subst q1
    exact bodyQ.mk (r' := tup [oref 0 1 0 (([] : List F).length), b false]) [(0, 1)] (.inr rfl) rfl (show List.Nodup [0] from by decide) rfl rfl (Res.eq (Res.two rfl (RV.tmp rfl) (RV.tmp rfl)) (by rw [(show ([] : List F).length = 0 from rfl)] <;> rfl)) (SelL.arr0 (f := f32) (fun _ => rfl) rfl trivial)
   ·refine RunC.region_draw (Γ' := [⟨0, none⟩, ⟨0, none⟩]) 15 mixed 
     (TR.l (r := agg [i64 a0, i64 a1, sl a2.length (a2.map f32)]) rfl rfl (LOp.loadAgg agg26 siz26 rfl rfl rfl rfl) <|
     (TR.d (r := b true) (fs := []) rfl rfl (TOp.eqb (TOp.callB (CallAs.func ent66 rfl rfl) (Bors.cons (Bor.agg (Bors.cons (Bor.pure rfl) (Bors.cons (Bor.pure rfl) (Bors.cons (Bor.sl (fun _ => rfl)) Bors.nil)))) Bors.nil) rfl rfl (i_ValidMatrix_ok a0 a1 a2 r1 hf1)) hc2) <|
     (TR.l (r := b false) rfl rfl (LOp.eqb (LOp.not rfl rfl) rfl) <|
     (TR.l (r := b false) rfl rfl (LOp.move rfl rfl) <|
     (TR.l (r := sl a3.length (a3.map f32)) rfl rfl (LOp.move rfl rfl) <|
     (TR.d (r := b true) (fs := []) rfl rfl (TOp.eqb (TOp.callB (CallAs.func ent70 rfl rfl) (Bors.cons (Bor.sl (fun _ => rfl)) Bors.nil) rfl rfl (i_IsVector_ok a3 r2 hf3)) hc4) <|
     (TR.l (r := b false) rfl rfl (LOp.eqb (LOp.not rfl rfl) rfl) <|
     (TR.l (r := b false) rfl rfl (LOp.pick_false rfl rfl rfl) <|
     (TR.l (r := b false) rfl rfl (LOp.move rfl rfl) <|
     (TR.l (r := sl a3.length (a3.map f32)) rfl rfl (LOp.move rfl rfl) <|
     (TR.d (r := i64 r3) (fs := []) rfl rfl (TOp.callB (CallAs.func ent71 rfl rfl) (Bors.cons (Bor.sl (fun _ => rfl)) Bors.nil) rfl rfl (i_length_float32_ok a3 r3 hf5)) <|
     (TR.l (r := ptr [i64 a1, sl a2.length (a2.map f32)]) rfl rfl (LOp.fap und26 rfl siz2 rfl rfl rfl) <|
     (TR.l (r := i64 a1) rfl rfl (LOp.load1 agg2 rfl rfl) <|
     (TR.l (r := b false) rfl rfl (LOp.eqb (LOp.neq rfl rfl rfl) hc6) <|
     (TR.l (r := b false) rfl rfl (LOp.pick_false rfl rfl rfl) <|
     TR.nil))))))))))))))) rfl (by kernel_rfl) rfl fills_nil rfl ?_
    iterate 15 refine ROps.dropS ?_
    refine ROps.drop0 ?_
    refine zN ?_
    refine RunC.wl (τ' := [(1, sl a3.length (a3.map f32)), (2, ptr [i64 a0, i64 a1, sl a2.length (a2.map f32)]), (20, b false)]) (Γ' := [⟨0, none⟩, ⟨0, none⟩]) ⟨aR, aR, aR, trivial⟩ ⟨⟨rfl, .inr rfl⟩, ⟨rfl, .inr rfl⟩, trivial⟩ ?_
    refine RunC.cond_false rfl rfl ?_
    refine RunC.skip ?_
    refine RunC.seq ?_
    obtain ⟨r4, hf7, h⟩ := obind_some h
    obtain ⟨z1, hf8, h⟩ := obind_some h
    rcases z1 with z1 | z1
    ·replace h := (osum_inl _ _ _).symm.trans h
     obtain ⟨r5, r6, hz2, h⟩ := obind2_some h
     cases hz2
     obtain ⟨hn9, h⟩ := need_some h
     refine RunC.regionW ?_
     refine zL (r := agg [i64 a0, i64 a1, sl a2.length (a2.map f32)]) rfl rfl rfl (LOp.loadAgg agg26 siz26 rfl rfl rfl rfl) ?_
     refine zM (r := sl a3.length (a3.map f32)) rfl rfl rfl rfl rfl ?_
     refine ROps.d (r := oref 0 1 0 r4.length) (fs := [(0, (r4.map f32))]) (Γ' := [⟨1, some (r4.map f32)⟩, ⟨0, none⟩]) rfl rfl rfl (TOp.callBN (ls := [(r4.map f32)]) [0] (CallAs.func ent73 rfl rfl) (Bors.cons (Bor.agg (Bors.cons (Bor.pure rfl) (Bors.cons (Bor.pure rfl) (Bors.cons (Bor.sl (fun _ => rfl)) Bors.nil)))) (Bors.cons (Bor.sl (fun _ => rfl)) Bors.nil)) rfl (i_Matrix_timesVector_ok a0 a1 a2 a3 r4 hf7) (and_all (lts0_map (f := f32) (fun _ => rfl) _) rfl) (and_all (noss_map (f := f32) (fun _ => rfl) _) rfl) rfl (by decide) (ns_of ⟨⟨_, rfl⟩, trivial⟩)) rfl ?_
     refine ROps.callO (A := [oref 0 1 0 r4.length]) (args := [oref 0 0 0 r4.length]) (Γc := [⟨0, some (r4.map f32)⟩]) (Γc' := [⟨0, some (r6.map f32)⟩]) (r' := tup [oref 0 1 0 r4.length, b r5]) (Γ' := [⟨1, some (r6.map f32)⟩, ⟨0, none⟩]) [(0, 1)] [] rfl (CallAs.func ent72 rfl rfl) rfl rfl (SelOk.of (show List.Nodup [0] from by decide) (SelL.arr0 (f := f32) (fun _ => rfl) rfl trivial)) (live_of ⟨⟨_, _, rfl⟩, trivial⟩) (by simp [ren, rens, sigma, rens_f32, rens_f64, rens_i64, rens_ik, rens_str, rens_cp]) rfl (i_allFinite_0o_ok0 r4 r5 r6 hf8) rfl (news_of trivial) (show List.Nodup [0] from by decide) (by simp [ren, rens, sigma, of_decide_eq_true hn9]) (by simp [backOb, sigma, ren, rens, rens_f32, rens_f64, rens_i64, rens_ik, rens_str, rens_cp]) ?_
     refine zL (r := oref 0 1 0 r4.length) rfl rfl rfl (LOp.extract rfl rfl rfl) ?_
     refine zL (r := b r5) rfl rfl rfl (LOp.extract rfl rfl rfl) ?_
     refine zA (r := oref 0 1 0 r4.length) rfl rfl rfl rfl rfl ?_
     refine zA (r := b r5) rfl rfl rfl rfl rfl ?_
     refine zN ?_
     refine RunC.ret ?_
     have hq := Option.some.inj h
     obtain ⟨hq0, hq⟩ := Prod.mk.inj hq
     subst q0
     subst q1
     exact bodyQ.mk (r' := tup [oref 0 1 0 r6.length, b r5]) [(0, 1)] (.inr rfl) rfl (show List.Nodup [0] from by decide) rfl rfl (Res.eq (Res.two rfl (RV.tmp rfl) (RV.tmp rfl)) (by rw [(show r6.length = r4.length from (of_decide_eq_true hn9))] <;> rfl)) (SelL.arr0 (f := f32) (fun _ => rfl) rfl trivial)
    ·replace h := (osum_inr _ _ _).symm.trans h
     obtain ⟨r7, r8, r9, hz3, h⟩ := obind3_some h
     cases hz3
     obtain ⟨hn10, h⟩ := need_some h
     refine RunC.regionW ?_
     refine zL (r := agg [i64 a0, i64 a1, sl a2.length (a2.map f32)]) rfl rfl rfl (LOp.loadAgg agg26 siz26 rfl rfl rfl rfl) ?_
     refine zM (r := sl a3.length (a3.map f32)) rfl rfl rfl rfl rfl ?_
     refine ROps.d (r := oref 0 1 0 r4.length) (fs := [(0, (r4.map f32))]) (Γ' := [⟨1, some (r4.map f32)⟩, ⟨0, none⟩]) rfl rfl rfl (TOp.callBN (ls := [(r4.map f32)]) [0] (CallAs.func ent73 rfl rfl) (Bors.cons (Bor.agg (Bors.cons (Bor.pure rfl) (Bors.cons (Bor.pure rfl) (Bors.cons (Bor.sl (fun _ => rfl)) Bors.nil)))) (Bors.cons (Bor.sl (fun _ => rfl)) Bors.nil)) rfl (i_Matrix_timesVector_ok a0 a1 a2 a3 r4 hf7) (and_all (lts0_map (f := f32) (fun _ => rfl) _) rfl) (and_all (noss_map (f := f32) (fun _ => rfl) _) rfl) rfl (by decide) (ns_of ⟨⟨_, rfl⟩, trivial⟩)) rfl ?_
     refine ROps.callO (A := [oref 0 1 0 r4.length]) (args := [oref 0 0 0 r4.length]) (Γc := [⟨0, some (r4.map f32)⟩]) (Γc' := [⟨0, some (r8.map f32)⟩, ⟨0, some (r9.map f32)⟩]) (r' := tup [oref 1 1 0 r9.length, b r7]) (Γ' := [⟨1, some (r8.map f32)⟩, ⟨1, some (r9.map f32)⟩]) [(0, 1)] [(1, 1)] rfl (CallAs.func ent72 rfl rfl) rfl rfl (SelOk.of (show List.Nodup [0] from by decide) (SelL.arr0 (f := f32) (fun _ => rfl) rfl trivial)) (live_of ⟨⟨_, _, rfl⟩, trivial⟩) (by simp [ren, rens, sigma, rens_f32, rens_f64, rens_i64, rens_ik, rens_str, rens_cp]) rfl (i_allFinite_0o_ok1 r4 r7 r8 r9 hf8) rfl (news_of ⟨⟨_, rfl, rfl⟩, trivial⟩) (show List.Nodup [0, 1] from by decide) (by simp [ren, rens, sigma, of_decide_eq_true hn10]) (by simp [backOb, sigma, ren, rens, rens_f32, rens_f64, rens_i64, rens_ik, rens_str, rens_cp]) ?_
     refine zL (r := oref 1 1 0 r9.length) rfl rfl rfl (LOp.extract rfl rfl rfl) ?_
     refine zL (r := b r7) rfl rfl rfl (LOp.extract rfl rfl rfl) ?_
     refine zA (r := oref 1 1 0 r9.length) rfl rfl rfl rfl rfl ?_
     refine zA (r := b r7) rfl rfl rfl rfl rfl ?_
     refine zN ?_
     refine RunC.ret ?_
     have hq := Option.some.inj h
     obtain ⟨hq0, hq⟩ := Prod.mk.inj hq
     subst q0
     subst q1
     exact bodyQ.mk (r' := tup [oref 1 1 0 r9.length, b r7]) [(1, 1)] (.inr rfl) rfl (show List.Nodup [1] from by decide) rfl rfl (Res.two rfl (RV.tmp rfl) (RV.tmp rfl)) (SelL.arr0 (f := f32) (fun _ => rfl) rfl trivial)
  ·refine RunC.region_draw (Γ' := [⟨0, none⟩, ⟨0, none⟩]) 15 mixed 
    (TR.l (r := agg [i64 a0, i64 a1, sl a2.length (a2.map f32)]) rfl rfl (LOp.loadAgg agg26 siz26 rfl rfl rfl rfl) <|
    (TR.d (r := b true) (fs := []) rfl rfl (TOp.eqb (TOp.callB (CallAs.func ent66 rfl rfl) (Bors.cons (Bor.agg (Bors.cons (Bor.pure rfl) (Bors.cons (Bor.pure rfl) (Bors.cons (Bor.sl (fun _ => rfl)) Bors.nil)))) Bors.nil) rfl rfl (i_ValidMatrix_ok a0 a1 a2 r1 hf1)) hc2) <|
    (TR.l (r := b false) rfl rfl (LOp.eqb (LOp.not rfl rfl) rfl) <|
    (TR.l (r := b false) rfl rfl (LOp.move rfl rfl) <|
    (TR.l (r := sl a3.length (a3.map f32)) rfl rfl (LOp.move rfl rfl) <|
    (TR.d (r := b false) (fs := []) rfl rfl (TOp.eqb (TOp.callB (CallAs.func ent70 rfl rfl) (Bors.cons (Bor.sl (fun _ => rfl)) Bors.nil) rfl rfl (i_IsVector_ok a3 r2 hf3)) hc4) <|
    (TR.l (r := b true) rfl rfl (LOp.eqb (LOp.not rfl rfl) rfl) <|
    (TR.l (r := b true) rfl rfl (LOp.pick_false rfl rfl rfl) <|
    (TR.l (r := b true) rfl rfl (LOp.move rfl rfl) <|
    (TR.s rfl rfl <|
    (TR.s rfl rfl <|
    (TR.s rfl rfl <|
    (TR.s rfl rfl <|
    (TR.s rfl rfl <|
    (TR.l (r := b true) rfl rfl (LOp.pick_true rfl rfl rfl) <|
    TR.nil))))))))))))))) rfl (by kernel_rfl) rfl fills_nil rfl ?_
   iterate 15 refine ROps.dropS ?_
   refine ROps.drop0 ?_
   refine zN ?_
   refine RunC.wl (τ' := [(1, sl a3.length (a3.map f32)), (2, ptr [i64 a0, i64 a1, sl a2.length (a2.map f32)]), (20, b true)]) (Γ' := [⟨0, none⟩, ⟨0, none⟩]) ⟨aR, aR, aR, trivial⟩ ⟨⟨rfl, .inr rfl⟩, ⟨rfl, .inr rfl⟩, trivial⟩ ?_
   refine RunC.cond_true rfl rfl ?_
   refine zQ ?_
   refine zA (r := nilsl) rfl rfl rfl rfl rfl ?_
   refine zA (r := b false) rfl rfl rfl rfl rfl ?_
   refine zN ?_
   refine RunC.nil_slot (Γ' := [⟨1, some (([] : List F).map f32)⟩, ⟨0, none⟩]) 4 0 rfl rfl rfl ?_
   refine RunC.ret ?_
   have hq := Option.some.inj h
   obtain ⟨hq0, hq⟩ := Prod.mk.inj hq
   subst q0
   subst q1
   exact bodyQ.mk (r' := tup [oref 0 1 0 (([] : List F).length), b false]) [(0, 1)] (.inr rfl) rfl (show List.Nodup [0] from by decide) rfl rfl (Res.eq (Res.two rfl (RV.tmp rfl) (RV.tmp rfl)) (by rw [(show ([] : List F).length = 0 from rfl)] <;> rfl)) (SelL.arr0 (f := f32) (fun _ => rfl) rfl trivial)
 ·refine RunC.region_draw (Γ' := [⟨0, none⟩, ⟨0, none⟩]) 15 mixed 
   (TR.l (r := agg [i64 a0, i64 a1, sl a2.length (a2.map f32)]) rfl rfl (LOp.loadAgg agg26 siz26 rfl rfl rfl rfl) <|
   (TR.d (r := b false) (fs := []) rfl rfl (TOp.eqb (TOp.callB (CallAs.func ent66 rfl rfl) (Bors.cons (Bor.agg (Bors.cons (Bor.pure rfl) (Bors.cons (Bor.pure rfl) (Bors.cons (Bor.sl (fun _ => rfl)) Bors.nil)))) Bors.nil) rfl rfl (i_ValidMatrix_ok a0 a1 a2 r1 hf1)) hc2) <|
   (TR.l (r := b true) rfl rfl (LOp.eqb (LOp.not rfl rfl) rfl) <|
   (TR.l (r := b true) rfl rfl (LOp.move rfl rfl) <|
   (TR.s rfl rfl <|
   (TR.s rfl rfl <|
   (TR.s rfl rfl <|
   (TR.l (r := b true) rfl rfl (LOp.pick_true rfl rfl rfl) <|
   (TR.l (r := b true) rfl rfl (LOp.move rfl rfl) <|
   (TR.s rfl rfl <|
   (TR.s rfl rfl <|
   (TR.s rfl rfl <|
   (TR.s rfl rfl <|
   (TR.s rfl rfl <|
   (TR.l (r := b true) rfl rfl (LOp.pick_true rfl rfl rfl) <|
   TR.nil))))))))))))))) rfl (by kernel_rfl) rfl fills_nil rfl ?_
  iterate 15 refine ROps.dropS ?_
  refine ROps.drop0 ?_
  refine zN ?_
  refine RunC.wl (τ' := [(1, sl a3.length (a3.map f32)), (2, ptr [i64 a0, i64 a1, sl a2.length (a2.map f32)]), (20, b true)]) (Γ' := [⟨0, none⟩, ⟨0, none⟩]) ⟨aR, aR, aR, trivial⟩ ⟨⟨rfl, .inr rfl⟩, ⟨rfl, .inr rfl⟩, trivial⟩ ?_
  refine RunC.cond_true rfl rfl ?_
  refine zQ ?_
  refine zA (r := nilsl) rfl rfl rfl rfl rfl ?_
  refine zA (r := b false) rfl rfl rfl rfl rfl ?_
  refine zN ?_
  refine RunC.nil_slot (Γ' := [⟨1, some (([] : List F).map f32)⟩, ⟨0, none⟩]) 4 0 rfl rfl rfl ?_
  refine RunC.ret ?_
  have hq := Option.some.inj h
  obtain ⟨hq0, hq⟩ := Prod.mk.inj hq
  subst q0
  subst q1
  exact bodyQ.mk (r' := tup [oref 0 1 0 (([] : List F).length), b false]) [(0, 1)] (.inr rfl) rfl (show List.Nodup [0] from by decide) rfl rfl (Res.eq (Res.two rfl (RV.tmp rfl) (RV.tmp rfl)) (by rw [(show ([] : List F).length = 0 from rfl)] <;> rfl)) (SelL.arr0 (f := f32) (fun _ => rfl) rfl trivial)
noncomputable def i_Matrix_liesIn (a0 : Int) (a1 : Int) (a2 : List F) (a3 : Int) (a4 : Int) (a5 : Int) (a6 : Int) : Option (Bool) :=
 obind (i_isSide a5) fun (r1 : Bool) =>
 bsel r1 (
  obind (i_isSide a6) fun (r2 : Bool) =>
  bsel r2 (
   olet (IntKind.i64.wrap (a0 - a5)) fun (x3 : Int) =>
   obind (i_inRange a3 0 x3) fun (r4 : Bool) =>
   bsel r4 (
    olet (IntKind.i64.wrap (a1 - a6)) fun (x5 : Int) =>
    obind (i_inRange a4 0 x5) fun (r6 : Bool) =>
    some r6) (
    some false)) (
   some false)) (
  some false)
theorem i_Matrix_liesIn_ok (a0 : Int) (a1 : Int) (a2 : List F) (a3 : Int) (a4 : Int) (a5 : Int) (a6 : Int) (q0 : Bool) (h : i_Matrix_liesIn a0 a1 a2 a3 a4 a5 a6 = some q0) : Ev Try.prog 74 [agg [i64 a0, i64 a1, sl a2.length (a2.map f32)], i64 a3, i64 a4, i64 a5, i64 a6] [] (b q0) [] := by
 refine Ev.start Try.func74 rfl rfl 0 (τ := [(0, agg [i64 a0, i64 a1, sl a2.length (a2.map f32)]), (1, i64 a3), (2, i64 a4), (3, i64 a5), (4, i64 a6)]) rfl (Γ' := []) rfl (n := 67) rfl (g := 0) rfl (fun _ => rfl) ?_
 unfold i_Matrix_liesIn at h
 refine zQ ?_
 refine ROps.d (r := ptr [i64 a0, i64 a1, sl a2.length (a2.map f32)]) (fs := []) (Γ' := []) rfl rfl rfl (TOp.box_s rfl rfl rfl) rfl ?_
 refine zA (r := b false) rfl rfl rfl rfl rfl ?_
 refine zN ?_
 refine RunC.seq ?_
 obtain ⟨r1, hf1, h⟩ := obind_some h
 rcases bsel_some h with ⟨hc2, h⟩ | ⟨hc2, h⟩
 ·obtain ⟨r2, hf3, h⟩ := obind_some h
  rcases bsel_some h with ⟨hc4, h⟩ | ⟨hc4, h⟩
  ·obtain ⟨x3, hx5, h⟩ := olet_some h
   obtain ⟨r4, hf6, h⟩ := obind_some h
   rcases bsel_some h with ⟨hc7, h⟩ | ⟨hc7, h⟩
   ·obtain ⟨x5, hx8, h⟩ := olet_some h
    obtain ⟨r6, hf9, h⟩ := obind_some h
    refine RunC.regionW ?_
    refine zM (r := i64 a5) rfl rfl rfl rfl rfl ?_
    refine ROps.d (r := b true) (fs := []) (Γ' := []) rfl rfl rfl (TOp.eqb (TOp.callB (CallAs.func ent59 rfl rfl) (Bors.cons (Bor.pure rfl) Bors.nil) rfl rfl (i_isSide_ok a5 r1 hf1)) hc2) rfl ?_
    refine zM (r := b true) rfl rfl rfl rfl rfl ?_
    refine zM (r := i64 a6) rfl rfl rfl rfl rfl ?_
    refine ROps.d (r := b true) (fs := []) (Γ' := []) rfl rfl rfl (TOp.eqb (TOp.callB (CallAs.func ent59 rfl rfl) (Bors.cons (Bor.pure rfl) Bors.nil) rfl rfl (i_isSide_ok a6 r2 hf3)) hc4) rfl ?_
    refine zL (r := b true) rfl rfl rfl (LOp.pick_true rfl rfl rfl) ?_
    refine zM (r := b true) rfl rfl rfl rfl rfl ?_
    refine zM (r := i64 a3) rfl rfl rfl rfl rfl ?_
    refine zL (r := ptr [i64 a0, i64 a1, sl a2.length (a2.map f32)]) rfl rfl rfl (LOp.fap und26 rfl siz2 rfl rfl rfl) ?_
    refine zL (r := i64 a0) rfl rfl rfl (LOp.load1 agg2 rfl rfl) ?_
    refine zM (r := i64 a5) rfl rfl rfl rfl rfl ?_
    refine zL (r := i64 x3) rfl rfl rfl (LOp.eqr (LOp.sub rfl rfl rfl) (congrArg (ik .i64) hx5)) ?_
    refine ROps.d (r := b true) (fs := []) (Γ' := []) rfl rfl rfl (TOp.eqb (TOp.callB (CallAs.func ent65 rfl rfl) (Bors.cons (Bor.pure rfl) (Bors.cons (Bor.pure rfl) (Bors.cons (Bor.pure rfl) Bors.nil))) rfl rfl (i_inRange_ok a3 0 x3 r4 hf6)) hc7) rfl ?_
    refine zL (r := b true) rfl rfl rfl (LOp.pick_true rfl rfl rfl) ?_
    refine zM (r := b true) rfl rfl rfl rfl rfl ?_
    refine zM (r := i64 a4) rfl rfl rfl rfl rfl ?_
    refine zL (r := ptr [i64 a1, sl a2.length (a2.map f32)]) rfl rfl rfl (LOp.fap und26 rfl siz2 rfl rfl rfl) ?_
    refine zL (r := i64 a1) rfl rfl rfl (LOp.load1 agg2 rfl rfl) ?_
    refine zM (r := i64 a6) rfl rfl rfl rfl rfl ?_
    refine zL (r := i64 x5) rfl rfl rfl (LOp.eqr (LOp.sub rfl rfl rfl) (congrArg (ik .i64) hx8)) ?_
    refine ROps.d (r := b r6) (fs := []) (Γ' := []) rfl rfl rfl (TOp.callB (CallAs.func ent65 rfl rfl) (Bors.cons (Bor.pure rfl) (Bors.cons (Bor.pure rfl) (Bors.cons (Bor.pure rfl) Bors.nil))) rfl rfl (i_inRange_ok a4 0 x5 r6 hf9)) rfl ?_
    refine zL (r := b r6) rfl rfl rfl (LOp.pick_true rfl rfl rfl) ?_
    refine zA (r := b r6) rfl rfl rfl rfl rfl ?_
    refine zN ?_
    refine RunC.ret ?_
    have hq := Option.some.inj h
    subst q0
    exact bodyQ.pure (.inr rfl) rfl (Res.one rfl (RV.tmp rfl))
   ·refine RunC.regionW ?_
    refine zM (r := i64 a5) rfl rfl rfl rfl rfl ?_
    refine ROps.d (r := b true) (fs := []) (Γ' := []) rfl rfl rfl (TOp.eqb (TOp.callB (CallAs.func ent59 rfl rfl) (Bors.cons (Bor.pure rfl) Bors.nil) rfl rfl (i_isSide_ok a5 r1 hf1)) hc2) rfl ?_
    refine zM (r := b true) rfl rfl rfl rfl rfl ?_
    refine zM (r := i64 a6) rfl rfl rfl rfl rfl ?_
    refine ROps.d (r := b true) (fs := []) (Γ' := []) rfl rfl rfl (TOp.eqb (TOp.callB (CallAs.func ent59 rfl rfl) (Bors.cons (Bor.pure rfl) Bors.nil) rfl rfl (i_isSide_ok a6 r2 hf3)) hc4) rfl ?_
    refine zL (r := b true) rfl rfl rfl (LOp.pick_true rfl rfl rfl) ?_
    refine zM (r := b true) rfl rfl rfl rfl rfl ?_
    refine zM (r := i64 a3) rfl rfl rfl rfl rfl ?_
    refine zL (r := ptr [i64 a0, i64 a1, sl a2.length (a2.map f32)]) rfl rfl rfl (LOp.fap und26 rfl siz2 rfl rfl rfl) ?_
    refine zL (r := i64 a0) rfl rfl rfl (LOp.load1 agg2 rfl rfl) ?_
    refine zM (r := i64 a5) rfl rfl rfl rfl rfl ?_
    refine zL (r := i64 x3) rfl rfl rfl (LOp.eqr (LOp.sub rfl rfl rfl) (congrArg (ik .i64) hx5)) ?_
    refine ROps.d (r := b false) (fs := []) (Γ' := []) rfl rfl rfl (TOp.eqb (TOp.callB (CallAs.func ent65 rfl rfl) (Bors.cons (Bor.pure rfl) (Bors.cons (Bor.pure rfl) (Bors.cons (Bor.pure rfl) Bors.nil))) rfl rfl (i_inRange_ok a3 0 x3 r4 hf6)) hc7) rfl ?_
    refine zL (r := b false) rfl rfl rfl (LOp.pick_true rfl rfl rfl) ?_
    refine zM (r := b false) rfl rfl rfl rfl rfl ?_
    iterate 6 (refine ROps.s rfl rfl rfl ?_)
    refine zL (r := b false) rfl rfl rfl (LOp.pick_false rfl rfl rfl) ?_
    refine zA (r := b false) rfl rfl rfl rfl rfl ?_
    refine zN ?_
    refine RunC.ret ?_
    have hq := Option.some.inj h
    subst q0
    exact bodyQ.pure (.inr rfl) rfl (Res.one rfl (RV.tmp rfl))
  ·refine RunC.regionW ?_
   refine zM (r := i64 a5) rfl rfl rfl rfl rfl ?_
   refine ROps.d (r := b true) (fs := []) (Γ' := []) rfl rfl rfl (TOp.eqb (TOp.callB (CallAs.func ent59 rfl rfl) (Bors.cons (Bor.pure rfl) Bors.nil) rfl rfl (i_isSide_ok a5 r1 hf1)) hc2) rfl ?_
   refine zM (r := b true) rfl rfl rfl rfl rfl ?_
   refine zM (r := i64 a6) rfl rfl rfl rfl rfl ?_
   refine ROps.d (r := b false) (fs := []) (Γ' := []) rfl rfl rfl (TOp.eqb (TOp.callB (CallAs.func ent59 rfl rfl) (Bors.cons (Bor.pure rfl) Bors.nil) rfl rfl (i_isSide_ok a6 r2 hf3)) hc4) rfl ?_
   refine zL (r := b false) rfl rfl rfl (LOp.pick_true rfl rfl rfl) ?_
   iterate 2 (refine zM (r := b false) rfl rfl rfl rfl rfl ?_; refine ROps.s rfl rfl rfl ?_; refine ROps.s rfl rfl rfl ?_; refine ROps.s rfl rfl rfl ?_; refine ROps.s rfl rfl rfl ?_; refine ROps.s rfl rfl rfl ?_; refine ROps.s rfl rfl rfl ?_; refine zL (r := b false) rfl rfl rfl (LOp.pick_false rfl rfl rfl) ?_)
   refine zA (r := b false) rfl rfl rfl rfl rfl ?_
   refine zN ?_
   refine RunC.ret ?_
   have hq := Option.some.inj h
   subst q0
   exact bodyQ.pure (.inr rfl) rfl (Res.one rfl (RV.tmp rfl))
 ·refine RunC.regionW ?_
  refine zM (r := i64 a5) rfl rfl rfl rfl rfl ?_
  refine ROps.d (r := b false) (fs := []) (Γ' := []) rfl rfl rfl (TOp.eqb (TOp.callB (CallAs.func ent59 rfl rfl) (Bors.cons (Bor.pure rfl) Bors.nil) rfl rfl (i_isSide_ok a5 r1 hf1)) hc2) rfl ?_
  refine zM (r := b false) rfl rfl rfl rfl rfl ?_
  iterate 2 (refine ROps.s rfl rfl rfl ?_; refine ROps.s rfl rfl rfl ?_; refine zL (r := b false) rfl rfl rfl (LOp.pick_false rfl rfl rfl) ?_; refine zM (r := b false) rfl rfl rfl rfl rfl ?_; refine ROps.s rfl rfl rfl ?_; refine ROps.s rfl rfl rfl ?_; refine ROps.s rfl rfl rfl ?_; refine ROps.s rfl rfl rfl ?_)
  iterate 2 (refine ROps.s rfl rfl rfl ?_)
  refine zL (r := b false) rfl rfl rfl (LOp.pick_false rfl rfl rfl) ?_
  refine zA (r := b false) rfl rfl rfl rfl rfl ?_
  refine zN ?_
  refine RunC.ret ?_
  have hq := Option.some.inj h
  subst q0
  exact bodyQ.pure (.inr rfl) rfl (Res.one rfl (RV.tmp rfl))
noncomputable def i_PartOfMatrix_1 (a0 : Int) (a1 : Int) (a2 : Int) (a3 : Int) (a4 : List F) (a5 : Int) (a6 : Int) : Option (F) :=
 olet (IntKind.i64.wrap (a5 + a0)) fun (x1 : Int) =>
 olet (IntKind.i64.wrap (a6 + a1)) fun (x2 : Int) =>
 obind (i_Matrix_at a2 a3 a4 x1 x2) fun (r3 : F) =>
 some r3
theorem i_PartOfMatrix_1_ok (a0 : Int) (a1 : Int) (a2 : Int) (a3 : Int) (a4 : List F) (a5 : Int) (a6 : Int) (q0 : F) (h : i_PartOfMatrix_1 a0 a1 a2 a3 a4 a5 a6 = some q0) : Ev Try.prog 75 [i64 a0, i64 a1, ptr [i64 a2, i64 a3, sl a4.length (a4.map f32)], ptr [i64 a5], ptr [i64 a6]] [] (f32 q0) [] := by
 refine Ev.start Try.func75 rfl rfl 0 (τ := [(0, i64 a0), (1, i64 a1), (2, ptr [i64 a2, i64 a3, sl a4.length (a4.map f32)]), (3, ptr [i64 a5]), (4, ptr [i64 a6])]) rfl (Γ' := []) rfl (n := 33) rfl (g := 0) rfl (fun _ => rfl) ?_
 unfold i_PartOfMatrix_1 at h
 refine zQ ?_
 refine zL (r := f32 (some 0)) rfl rfl rfl (LOp.le (LOp.assign rfl rfl) (ALe.fl (by kernel_rfl) (by kernel_rfl))) ?_
 refine zN ?_
 refine RunC.seq ?_
 obtain ⟨x1, hx1, h⟩ := olet_some h
 obtain ⟨x2, hx2, h⟩ := olet_some h
 obtain ⟨r3, hf3, h⟩ := obind_some h
 refine RunC.regionW ?_
 refine zL (r := agg [i64 a2, i64 a3, sl a4.length (a4.map f32)]) rfl rfl rfl (LOp.loadAgg agg26 siz26 rfl rfl rfl rfl) ?_
 refine zL (r := i64 a5) rfl rfl rfl (LOp.load1 agg2 rfl rfl) ?_
 refine zM (r := i64 a0) rfl rfl rfl rfl rfl ?_
 refine zL (r := i64 x1) rfl rfl rfl (LOp.eqr (LOp.add rfl rfl rfl) (congrArg (ik .i64) hx1)) ?_
 refine zL (r := i64 a6) rfl rfl rfl (LOp.load1 agg2 rfl rfl) ?_
 refine zM (r := i64 a1) rfl rfl rfl rfl rfl ?_
 refine zL (r := i64 x2) rfl rfl rfl (LOp.eqr (LOp.add rfl rfl rfl) (congrArg (ik .i64) hx2)) ?_
 refine ROps.d (r := f32 r3) (fs := []) (Γ' := []) rfl rfl rfl (TOp.callB (CallAs.func ent76 rfl rfl) (Bors.cons (Bor.agg (Bors.cons (Bor.pure rfl) (Bors.cons (Bor.pure rfl) (Bors.cons (Bor.sl (fun _ => rfl)) Bors.nil)))) (Bors.cons (Bor.pure rfl) (Bors.cons (Bor.pure rfl) Bors.nil))) rfl rfl (i_Matrix_at_ok a2 a3 a4 x1 x2 r3 hf3)) rfl ?_
 refine zA (r := f32 r3) rfl rfl rfl rfl rfl ?_
 refine zN ?_
 refine RunC.ret ?_
 have hq := Option.some.inj h
 subst q0
 exact bodyQ.pure (.inr rfl) rfl (Res.one rfl (RV.tmp rfl))
noncomputable def i_made_2Fi_PartOfMatrix_1_b2 (a1 : Int) (a2 : Int) (a3 : Int) (a4 : List F) (a5 : Int) (a6 : Int) (r1 : Int) (r2 : Int) (r3 : List F) (v6 : Int) (L7 : List F) (v9 : Int) : Option (LR ((List F) × Int) ((List F)) (Int × Int × (List F))) :=
 bsel (decide (v9 < a1)) (
  obind (i_PartOfMatrix_1 v6 v9 a2 a3 a4 a5 a6) fun (r11 : F) =>
  obind (i_Matrix_set_02o r1 r2 v6 v9 r11 L7) fun (r12 : List F) =>
  need (decide (r12.length = r3.length)) <|
  olet (IntKind.i64.wrap (v9 + 1)) fun (x13 : Int) =>
  some (LR.next (r12, x13))) (
  some (LR.out L7))
noncomputable def i_made_2Fi_PartOfMatrix_1_s2 (a1 : Int) (a2 : Int) (a3 : Int) (a4 : List F) (a5 : Int) (a6 : Int) (r1 : Int) (r2 : Int) (r3 : List F) (v6 : Int) : ((List F) × Int) → Option (LR ((List F) × Int) ((List F)) (Int × Int × (List F))) := fun s => i_made_2Fi_PartOfMatrix_1_b2 a1 a2 a3 a4 a5 a6 r1 r2 r3 v6 s.1 s.2
noncomputable def i_made_2Fi_PartOfMatrix_1_k2 (v6 : Int) (L14 : List F) : Option (LR ((List F) × Int) ((List F)) (Int × Int × (List F))) :=
 olet (IntKind.i64.wrap (v6 + 1)) fun (x16 : Int) =>
 some (LR.next (L14, x16))
noncomputable def i_made_2Fi_PartOfMatrix_1_b3 (a0 : Int) (a1 : Int) (a2 : Int) (a3 : Int) (a4 : List F) (a5 : Int) (a6 : Int) (r1 : Int) (r2 : Int) (r3 : List F) (L4 : List F) (v6 : Int) : Option (LR ((List F) × Int) ((List F)) (Int × Int × (List F))) :=
 bsel (decide (v6 < a0)) (
  obind (loopM (i_made_2Fi_PartOfMatrix_1_s2 a1 a2 a3 a4 a5 a6 r1 r2 r3 v6) (L4, 0)) fun z => osum z (fun e => i_made_2Fi_PartOfMatrix_1_k2 v6 e) (fun r => some (LR.ret r))) (
  some (LR.out L4))
noncomputable def i_made_2Fi_PartOfMatrix_1_s3 (a0 : Int) (a1 : Int) (a2 : Int) (a3 : Int) (a4 : List F) (a5 : Int) (a6 : Int) (r1 : Int) (r2 : Int) (r3 : List F) : ((List F) × Int) → Option (LR ((List F) × Int) ((List F)) (Int × Int × (List F))) := fun s => i_made_2Fi_PartOfMatrix_1_b3 a0 a1 a2 a3 a4 a5 a6 r1 r2 r3 s.1 s.2
noncomputable def i_made_2Fi_PartOfMatrix_1_k3 (r1 : Int) (r2 : Int) (L17 : List F) : Option (Int × Int × (List F)) :=
 some (r1, r2, L17)
noncomputable def i_made_2Fi_PartOfMatrix_1 (a0 : Int) (a1 : Int) (a2 : Int) (a3 : Int) (a4 : List F) (a5 : Int) (a6 : Int) : Option (Int × Int × (List F)) :=
 obind3 (i_newMatrix a0 a1) fun (r1 : Int) (r2 : Int) (r3 : List F) =>
 obind (loopM (i_made_2Fi_PartOfMatrix_1_s3 a0 a1 a2 a3 a4 a5 a6 r1 r2 r3) (r3, 0)) fun z => osum z (fun e => i_made_2Fi_PartOfMatrix_1_k3 r1 r2 e) (fun r => some r)
theorem i_made_2Fi_PartOfMatrix_1_ok (a0 : Int) (a1 : Int) (a2 : Int) (a3 : Int) (a4 : List F) (a5 : Int) (a6 : Int) (q0 : Int) (q1 : Int) (q2 : List F) (h : i_made_2Fi_PartOfMatrix_1 a0 a1 a2 a3 a4 a5 a6 = some (q0, q1, q2)) : Ev Try.prog 60 [i64 a0, i64 a1, fn (.func 75) [] [ptr [i64 a2, i64 a3, sl a4.length (a4.map f32)], ptr [i64 a5], ptr [i64 a6]]] [] (agg [i64 q0, i64 q1, oref 0 0 0 q2.length]) [⟨0, some (q2.map f32)⟩] := by
 refine Ev.start Try.func60 rfl rfl 3 (τ := [(0, i64 a0), (1, i64 a1), (2, fn (.func 75) [] [ptr [i64 a2, i64 a3, sl a4.length (a4.map f32)], ptr [i64 a5], ptr [i64 a6]])]) rfl (Γ' := [⟨0, none⟩, ⟨0, none⟩, ⟨0, none⟩]) rfl (n := 65) rfl (g := 0) rfl (fun _ => rfl) ?_
 unfold i_made_2Fi_PartOfMatrix_1 at h
 refine zQ ?_
 refine ROps.d (r := optr 0 1 0) (fs := [(0, [i64 0, i64 0, nilsl])]) (Γ' := [⟨1, some [i64 0, i64 0, nilsl]⟩, ⟨0, none⟩, ⟨0, none⟩]) rfl rfl rfl (TOp.alloc_o (g := ⟨0, none⟩) 0 rfl zer26 zok26 rfl) rfl ?_
 refine zN ?_
 refine RunC.seq ?_
 obtain ⟨r1, r2, r3, hf1, h⟩ := obind3_some h
 refine RunC.regionW ?_
 refine zM (r := i64 a0) rfl rfl rfl rfl rfl ?_
 refine zM (r := i64 a1) rfl rfl rfl rfl rfl ?_
 refine ROps.d (r := agg [i64 r1, i64 r2, oref 1 1 0 r3.length]) (fs := [(1, (r3.map f32))]) (Γ' := [⟨1, some [i64 0, i64 0, nilsl]⟩, ⟨1, some (r3.map f32)⟩, ⟨0, none⟩]) rfl rfl rfl (TOp.callBN (ls := [(r3.map f32)]) [1] (CallAs.func ent126 rfl rfl) (Bors.cons (Bor.pure rfl) (Bors.cons (Bor.pure rfl) Bors.nil)) rfl (i_newMatrix_ok a0 a1 r1 r2 r3 hf1) (and_all (lts0_map (f := f32) (fun _ => rfl) _) rfl) (and_all (noss_map (f := f32) (fun _ => rfl) _) rfl) rfl (by decide) (ns_of ⟨⟨_, rfl⟩, trivial⟩)) rfl ?_
 refine ROps.d (r := optr 2 1 0) (fs := [(2, [i64 0, i64 0, nilsl])]) (Γ' := [⟨1, some [i64 0, i64 0, nilsl]⟩, ⟨1, some (r3.map f32)⟩, ⟨1, some [i64 0, i64 0, nilsl]⟩]) rfl rfl rfl (TOp.alloc_o (g := ⟨0, none⟩) 2 rfl zer26 zok26 rfl) rfl ?_
 refine ROps.store_le (r := agg [i64 r1, i64 r2, oref 1 1 0 r3.length]) (l' := [i64 r1, i64 r2, oref 1 1 0 r3.length]) (Γ' := [⟨1, some [i64 0, i64 0, nilsl]⟩, ⟨1, some (r3.map f32)⟩, ⟨1, some [i64 r1, i64 r2, oref 1 1 0 r3.length]⟩]) rfl siz26 rfl rfl rfl aR rfl rfl rfl rfl (Nat.le_of_ble_eq_true rfl) rfl rfl ?_
 refine zN ?_
 refine RunC.seq ?_
 refine zQ ?_
 refine zM (r := i64 a0) rfl rfl rfl rfl rfl ?_
 refine zM (r := i64 0) rfl rfl rfl rfl rfl ?_
 refine zN ?_
 obtain ⟨z4, hz_4, h⟩ := obind_some h
 refine RunC.cutN (fun τ Γ => ∃ (L17 : List F), L17.length = r3.length ∧ WeakLe τ [(6, optr 0 1 0), (7, optr 2 1 0)] ∧ DeadLe Γ [⟨1, some [i64 0, i64 0, nilsl]⟩, ⟨1, some (L17.map f32)⟩, ⟨1, some [i64 r1, i64 r2, oref 1 1 0 r3.length]⟩] ∧ z4 = .inl L17) ?_ ?_
 ·refine RunC.block (RunC.loop (RunL.loopM (x := z4) (i_made_2Fi_PartOfMatrix_1_s3 a0 a1 a2 a3 a4 a5 a6 r1 r2 r3) (fun (s : (List F) × Int) τ Γ => s.1.length = r3.length ∧ WeakLe τ [(1, i64 a1), (2, fn (.func 75) [] [ptr [i64 a2, i64 a3, sl a4.length (a4.map f32)], ptr [i64 a5], ptr [i64 a6]]), (6, optr 0 1 0), (7, optr 2 1 0), (13, i64 a0), (14, i64 s.2)] ∧ DeadLe Γ [⟨1, some [i64 0, i64 0, nilsl]⟩, ⟨1, some (s.1.map f32)⟩, ⟨1, some [i64 r1, i64 r2, oref 1 1 0 r3.length]⟩]) ?_ _ _ _ hz_4 ⟨rfl, ⟨aR, aR, aR, aR, aR, aR, trivial⟩, ⟨⟨rfl, .inr rfl⟩, ⟨rfl, .inr rfl⟩, ⟨rfl, .inr rfl⟩, trivial⟩⟩))
  rintro ⟨L4, v6⟩ τ4 Γ4 y4_ ⟨hl5, hw4, hd4⟩ h4_ ho4 hr4
  refine RunC.wl (τ' := [(1, i64 a1), (2, fn (.func 75) [] [ptr [i64 a2, i64 a3, sl a4.length (a4.map f32)], ptr [i64 a5], ptr [i64 a6]]), (6, optr 0 1 0), (7, optr 2 1 0), (13, i64 a0), (14, i64 v6)]) (Γ' := [⟨1, some [i64 0, i64 0, nilsl]⟩, ⟨1, some (L4.map f32)⟩, ⟨1, some [i64 r1, i64 r2, oref 1 1 0 r3.length]⟩]) hw4 hd4 ?_
  replace hl5 : L4.length = r3.length := hl5
  replace h4_ : i_made_2Fi_PartOfMatrix_1_b3 a0 a1 a2 a3 a4 a5 a6 r1 r2 r3 L4 v6 = some y4_ := h4_
  unfold i_made_2Fi_PartOfMatrix_1_b3 at h4_
  refine RunC.seq ?_
  rcases bsel_some h4_ with ⟨hc2, h4_⟩ | ⟨hc2, h4_⟩
  ·refine RunC.regionW ?_
   refine zL (r := b true) rfl rfl rfl (LOp.eqb (LOp.lss rfl rfl rfl) hc2) ?_
   refine zN ?_
   refine RunC.seq ?_
   refine RunC.cond_true rfl rfl ?_
   refine RunC.skip ?_
   refine RunC.seq ?_
   refine RunC.block ?_
   refine zQ ?_
   refine zM (r := i64 v6) rfl rfl rfl rfl rfl ?_
   refine zA (r := i64 v6) rfl rfl rfl rfl rfl ?_
   refine zN ?_
   refine zQ ?_
   refine zM (r := i64 a1) rfl rfl rfl rfl rfl ?_
   refine zM (r := i64 0) rfl rfl rfl rfl rfl ?_
   refine zN ?_
   obtain ⟨z5, hz_5, h4_⟩ := obind_some h4_
   refine RunC.cutN (fun τ Γ => ∃ (L14 : List F), L14.length = r3.length ∧ WeakLe τ [(1, i64 a1), (2, fn (.func 75) [] [ptr [i64 a2, i64 a3, sl a4.length (a4.map f32)], ptr [i64 a5], ptr [i64 a6]]), (6, optr 0 1 0), (7, optr 2 1 0), (13, i64 a0), (14, i64 v6)] ∧ DeadLe Γ [⟨1, some [i64 0, i64 0, nilsl]⟩, ⟨1, some (L14.map f32)⟩, ⟨1, some [i64 r1, i64 r2, oref 1 1 0 r3.length]⟩] ∧ z5 = .inl L14) ?_ ?_
   ·refine RunC.block (RunC.loop (RunL.loopM (x := z5) (i_made_2Fi_PartOfMatrix_1_s2 a1 a2 a3 a4 a5 a6 r1 r2 r3 v6) (fun (s : (List F) × Int) τ Γ => s.1.length = r3.length ∧ WeakLe τ [(1, i64 a1), (2, fn (.func 75) [] [ptr [i64 a2, i64 a3, sl a4.length (a4.map f32)], ptr [i64 a5], ptr [i64 a6]]), (6, optr 0 1 0), (7, optr 2 1 0), (8, i64 v6), (13, i64 a0), (14, i64 v6), (17, i64 a1), (18, i64 s.2)] ∧ DeadLe Γ [⟨1, some [i64 0, i64 0, nilsl]⟩, ⟨1, some (s.1.map f32)⟩, ⟨1, some [i64 r1, i64 r2, oref 1 1 0 r3.length]⟩]) ?_ _ _ _ hz_5 ⟨hl5, ⟨aR, aR, aR, aR, aR, aR, aR, aR, aR, trivial⟩, ⟨⟨rfl, .inr rfl⟩, ⟨rfl, .inr rfl⟩, ⟨rfl, .inr rfl⟩, trivial⟩⟩))
    rintro ⟨L7, v9⟩ τ5 Γ5 y5_ ⟨hl8, hw5, hd5⟩ h5_ ho5 hr5
    refine RunC.wl (τ' := [(1, i64 a1), (2, fn (.func 75) [] [ptr [i64 a2, i64 a3, sl a4.length (a4.map f32)], ptr [i64 a5], ptr [i64 a6]]), (6, optr 0 1 0), (7, optr 2 1 0), (8, i64 v6), (13, i64 a0), (14, i64 v6), (17, i64 a1), (18, i64 v9)]) (Γ' := [⟨1, some [i64 0, i64 0, nilsl]⟩, ⟨1, some (L7.map f32)⟩, ⟨1, some [i64 r1, i64 r2, oref 1 1 0 r3.length]⟩]) hw5 hd5 ?_
    replace hl8 : L7.length = r3.length := hl8
    replace h5_ : i_made_2Fi_PartOfMatrix_1_b2 a1 a2 a3 a4 a5 a6 r1 r2 r3 v6 L7 v9 = some y5_ := h5_
    unfold i_made_2Fi_PartOfMatrix_1_b2 at h5_
    refine RunC.seq ?_
    rcases bsel_some h5_ with ⟨hc3, h5_⟩ | ⟨hc3, h5_⟩
    ·refine RunC.regionW ?_
     refine zL (r := b true) rfl rfl rfl (LOp.eqb (LOp.lss rfl rfl rfl) hc3) ?_
     refine zN ?_
     refine RunC.seq ?_
     refine RunC.cond_true rfl rfl ?_
     refine RunC.skip ?_
     refine RunC.seq ?_
     refine RunC.block ?_
     refine zQ ?_
     refine zM (r := i64 v9) rfl rfl rfl rfl rfl ?_
     refine zA (r := i64 v9) rfl rfl rfl rfl rfl ?_
     refine zN ?_
     obtain ⟨r11, hf5, h5_⟩ := obind_some h5_
     obtain ⟨r12, hf6, h5_⟩ := obind_some h5_
     obtain ⟨hn7, h5_⟩ := need_some h5_
     refine RunC.region_draw (Γ' := [⟨1, some [i64 0, i64 0, nilsl]⟩, ⟨1, some (L7.map f32)⟩, ⟨1, some [i64 r1, i64 r2, oref 1 1 0 r3.length]⟩]) 7 mixed 
      (TR.d (r := agg [i64 r1, i64 r2, oref 1 1 0 r3.length]) (fs := []) rfl rfl (TOp.loadAgg_o rfl agg26 siz26 rfl rfl rfl rfl) <|
      (TR.l (r := i64 v6) rfl rfl (LOp.move rfl rfl) <|
      (TR.l (r := i64 v9) rfl rfl (LOp.move rfl rfl) <|
      (TR.l (r := fn (.func 75) [] [ptr [i64 a2, i64 a3, sl a4.length (a4.map f32)], ptr [i64 a5], ptr [i64 a6]]) rfl rfl (LOp.move rfl rfl) <|
      (TR.l (r := i64 v6) rfl rfl (LOp.move rfl rfl) <|
      (TR.l (r := i64 v9) rfl rfl (LOp.move rfl rfl) <|
      (TR.d (r := f32 r11) (fs := []) rfl rfl (TOp.callB (CallAs.fn ent75 rfl rfl rfl rfl) (Bors.cons (Bor.pure rfl) (Bors.cons (Bor.pure rfl) (Bors.cons (Bor.ptr (Bors.cons (Bor.pure rfl) (Bors.cons (Bor.pure rfl) (Bors.cons (Bor.sl (fun _ => rfl)) Bors.nil)))) (Bors.cons (Bor.ptr (Bors.cons (Bor.pure rfl) Bors.nil)) (Bors.cons (Bor.ptr (Bors.cons (Bor.pure rfl) Bors.nil)) Bors.nil))))) rfl rfl (i_PartOfMatrix_1_ok v6 v9 a2 a3 a4 a5 a6 r11 hf5)) <|
      TR.nil))))))) rfl (by kernel_rfl) rfl fills_nil rfl ?_
     iterate 7 refine ROps.dropS ?_
     refine ROps.drop0 ?_
     refine ROps.callO (A := [agg [i64 r1, i64 r2, oref 1 1 0 r3.length], i64 v6, i64 v9, f32 r11]) (args := [agg [i64 r1, i64 r2, oref 0 0 0 L7.length], i64 v6, i64 v9, f32 r11]) (Γc := [⟨0, some (L7.map f32)⟩]) (Γc' := [⟨0, some (r12.map f32)⟩]) (r' := tup []) (Γ' := [⟨1, some [i64 0, i64 0, nilsl]⟩, ⟨1, some (r12.map f32)⟩, ⟨1, some [i64 r1, i64 r2, oref 1 1 0 r3.length]⟩]) [(1, 1)] [] rfl (CallAs.func ent78 rfl rfl) rfl rfl (SelOk.of (show List.Nodup [1] from by decide) (SelL.arr0 (f := f32) (fun _ => rfl) rfl trivial)) (live_of ⟨⟨_, _, rfl⟩, trivial⟩) (by simp [ren, rens, sigma, rens_f32, rens_f64, rens_i64, rens_ik, rens_str, rens_cp, hl8]) rfl (i_Matrix_set_02o_ok r1 r2 v6 v9 r11 L7 r12 hf6) rfl (news_of trivial) (show List.Nodup [1] from by decide) (by simp [ren, rens, sigma, of_decide_eq_true hn7]) (by simp [backOb, sigma, ren, rens, rens_f32, rens_f64, rens_i64, rens_ik, rens_str, rens_cp]) ?_
     refine zN ?_
     obtain ⟨x13, hx8, h5_⟩ := olet_some h5_
     refine RunC.regionW ?_
     refine zL (r := i64 x13) rfl rfl rfl (LOp.eqr (LOp.add rfl rfl rfl) (congrArg (ik .i64) hx8)) ?_
     refine zM (r := i64 x13) rfl rfl rfl rfl rfl ?_
     refine zN ?_
     cases Option.some.inj h5_
     exact ⟨_, rfl, (of_decide_eq_true hn7), ⟨aR, aR, aR, aR, aR, aR, aR, aR, aR, trivial⟩, ⟨⟨rfl, .inr rfl⟩, ⟨rfl, .inr rfl⟩, ⟨rfl, .inr rfl⟩, trivial⟩⟩
    ·refine RunC.regionW ?_
     refine zL (r := b false) rfl rfl rfl (LOp.eqb (LOp.lss rfl rfl rfl) hc3) ?_
     refine zN ?_
     refine RunC.seq ?_
     refine RunC.cond_false rfl rfl ?_
     refine RunC.exit ?_
     cases Option.some.inj h5_
     have hx := ho5 _ rfl
     exact ⟨L7, hl8, ⟨aR, aR, aR, aR, aR, aR, trivial⟩, ⟨⟨rfl, .inr rfl⟩, ⟨rfl, .inr rfl⟩, ⟨rfl, .inr rfl⟩, trivial⟩, hx⟩
   ·rintro τ6 Γ6 ⟨L14, hl15, hw6, hd6, rfl⟩
    refine RunC.wl hw6 hd6 ?_
    replace h4_ : i_made_2Fi_PartOfMatrix_1_k2 v6 L14 = some y4_ := h4_
    unfold i_made_2Fi_PartOfMatrix_1_k2 at h4_
    obtain ⟨x16, hx9, h4_⟩ := olet_some h4_
    refine RunC.regionW ?_
    refine zL (r := i64 x16) rfl rfl rfl (LOp.eqr (LOp.add rfl rfl rfl) (congrArg (ik .i64) hx9)) ?_
    refine zM (r := i64 x16) rfl rfl rfl rfl rfl ?_
    refine zN ?_
    cases Option.some.inj h4_
    exact ⟨_, rfl, hl15, ⟨aR, aR, aR, aR, aR, aR, trivial⟩, ⟨⟨rfl, .inr rfl⟩, ⟨rfl, .inr rfl⟩, ⟨rfl, .inr rfl⟩, trivial⟩⟩
  ·refine RunC.regionW ?_
   refine zL (r := b false) rfl rfl rfl (LOp.eqb (LOp.lss rfl rfl rfl) hc2) ?_
   refine zN ?_
   refine RunC.seq ?_
   refine RunC.cond_false rfl rfl ?_
   refine RunC.exit ?_
   cases Option.some.inj h4_
   have hx := ho4 _ rfl
   exact ⟨L4, hl5, ⟨aR, aR, trivial⟩, ⟨⟨rfl, .inr rfl⟩, ⟨rfl, .inr rfl⟩, ⟨rfl, .inr rfl⟩, trivial⟩, hx⟩
 ·rintro τ7 Γ7 ⟨L17, hl18, hw7, hd7, rfl⟩
  refine RunC.wl hw7 hd7 ?_
  replace h : i_made_2Fi_PartOfMatrix_1_k3 r1 r2 L17 = some (q0, q1, q2) := h
  unfold i_made_2Fi_PartOfMatrix_1_k3 at h
  refine zQ ?_
  refine ROps.d (r := agg [i64 r1, i64 r2, oref 1 1 0 r3.length]) (fs := []) (Γ' := [⟨1, some [i64 0, i64 0, nilsl]⟩, ⟨1, some (L17.map f32)⟩, ⟨1, some [i64 r1, i64 r2, oref 1 1 0 r3.length]⟩]) rfl rfl rfl (TOp.loadAgg_o rfl agg26 siz26 rfl rfl rfl rfl) rfl ?_
  refine ROps.store_le (r := agg [i64 r1, i64 r2, oref 1 1 0 r3.length]) (l' := [i64 r1, i64 r2, oref 1 1 0 r3.length]) (Γ' := [⟨1, some [i64 r1, i64 r2, oref 1 1 0 r3.length]⟩, ⟨1, some (L17.map f32)⟩, ⟨1, some [i64 r1, i64 r2, oref 1 1 0 r3.length]⟩]) rfl siz26 rfl rfl rfl aR rfl rfl rfl rfl (Nat.le_of_ble_eq_true rfl) rfl rfl ?_
  refine zN ?_
  refine RunC.ret ?_
  have hq := Option.some.inj h
  obtain ⟨hq0, hq⟩ := Prod.mk.inj hq
  obtain ⟨hq1, hq⟩ := Prod.mk.inj hq
  subst q0
  subst q1
  subst q2
  exact bodyQ.mk (r' := agg [i64 r1, i64 r2, oref 1 1 0 L17.length]) [(1, 1)] (.inr rfl) rfl (show List.Nodup [1] from by decide) rfl rfl (Res.eq (Res.one rfl (RV.cell agg26 siz26 rfl rfl rfl rfl)) (by rw [(show L17.length = r3.length from hl18)] <;> rfl)) (SelL.arr0 (f := f32) (fun _ => rfl) rfl trivial)
noncomputable def i_PartOfMatrix (a0 : Int) (a1 : Int) (a2 : List F) (a3 : Int) (a4 : Int) (a5 : Int) (a6 : Int) : Option (Int × Int × Bool × (List F)) :=
 obind (i_ValidMatrix a0 a1 a2) fun (r1 : Bool) =>
 bsel r1 (
  obind (i_Matrix_liesIn a0 a1 a2 a3 a4 a5 a6) fun (r2 : Bool) =>
  bsel r2 (
   obind3 (i_made_2Fi_PartOfMatrix_1 a5 a6 a0 a1 a2 a3 a4) fun (r3 : Int) (r4 : Int) (r5 : List F) =>
   some (r3, r4, true, r5)) (
   some (0, 0, false, ([] : List F)))) (
  some (0, 0, false, ([] : List F)))
theorem i_PartOfMatrix_ok (a0 : Int) (a1 : Int) (a2 : List F) (a3 : Int) (a4 : Int) (a5 : Int) (a6 : Int) (q0 : Int) (q1 : Int) (q2 : Bool) (q3 : List F) (h : i_PartOfMatrix a0 a1 a2 a3 a4 a5 a6 = some (q0, q1, q2, q3)) : Ev Try.prog 19 [agg [i64 a0, i64 a1, sl a2.length (a2.map f32)], i64 a3, i64 a4, i64 a5, i64 a6] [] (tup [agg [i64 q0, i64 q1, oref 0 0 0 q3.length], b q2]) [⟨0, some (q3.map f32)⟩] := by
 refine Ev.start Try.func19 rfl rfl 2 (τ := [(0, agg [i64 a0, i64 a1, sl a2.length (a2.map f32)]), (1, i64 a3), (2, i64 a4), (3, i64 a5), (4, i64 a6)]) rfl (Γ' := [⟨0, none⟩, ⟨0, none⟩]) rfl (n := 59) rfl (g := 0) rfl (fun _ => rfl) ?_
 unfold i_PartOfMatrix at h
 refine zQ ?_
 refine ROps.d (r := ptr [i64 a0, i64 a1, sl a2.length (a2.map f32)]) (fs := []) (Γ' := [⟨0, none⟩, ⟨0, none⟩]) rfl rfl rfl (TOp.box_s rfl rfl rfl) rfl ?_
 refine ROps.d (r := ptr [i64 a3]) (fs := []) (Γ' := [⟨0, none⟩, ⟨0, none⟩]) rfl rfl rfl (TOp.box_s rfl rfl rfl) rfl ?_
 refine ROps.d (r := ptr [i64 a4]) (fs := []) (Γ' := [⟨0, none⟩, ⟨0, none⟩]) rfl rfl rfl (TOp.box_s rfl rfl rfl) rfl ?_
 refine ROps.d (r := optr 0 1 0) (fs := [(0, [i64 0, i64 0, nilsl])]) (Γ' := [⟨1, some [i64 0, i64 0, nilsl]⟩, ⟨0, none⟩]) rfl rfl rfl (TOp.alloc_o (g := ⟨0, none⟩) 0 rfl zer26 zok26 rfl) rfl ?_
 refine zA (r := b false) rfl rfl rfl rfl rfl ?_
 refine zN ?_
 iterate 2 (refine RunC.seq ?_)
 obtain ⟨r1, hf1, h⟩ := obind_some h
 rcases bsel_some h with ⟨hc2, h⟩ | ⟨hc2, h⟩
 ·obtain ⟨r2, hf3, h⟩ := obind_some h
  rcases bsel_some h with ⟨hc4, h⟩ | ⟨hc4, h⟩
  ·refine RunC.regionW ?_
   refine zL (r := agg [i64 a0, i64 a1, sl a2.length (a2.map f32)]) rfl rfl rfl (LOp.loadAgg agg26 siz26 rfl rfl rfl rfl) ?_
   refine ROps.d (r := b true) (fs := []) (Γ' := [⟨1, some [i64 0, i64 0, nilsl]⟩, ⟨0, none⟩]) rfl rfl rfl (TOp.eqb (TOp.callB (CallAs.func ent66 rfl rfl) (Bors.cons (Bor.agg (Bors.cons (Bor.pure rfl) (Bors.cons (Bor.pure rfl) (Bors.cons (Bor.sl (fun _ => rfl)) Bors.nil)))) Bors.nil) rfl rfl (i_ValidMatrix_ok a0 a1 a2 r1 hf1)) hc2) rfl ?_
   refine zL (r := b false) rfl rfl rfl (LOp.eqb (LOp.not rfl rfl) rfl) ?_
   refine zM (r := b false) rfl rfl rfl rfl rfl ?_
   refine zL (r := agg [i64 a0, i64 a1, sl a2.length (a2.map f32)]) rfl rfl rfl (LOp.loadAgg agg26 siz26 rfl rfl rfl rfl) ?_
   refine zL (r := i64 a3) rfl rfl rfl (LOp.load1 agg2 rfl rfl) ?_
   refine zL (r := i64 a4) rfl rfl rfl (LOp.load1 agg2 rfl rfl) ?_
   refine zM (r := i64 a5) rfl rfl rfl rfl rfl ?_
   refine zM (r := i64 a6) rfl rfl rfl rfl rfl ?_
   refine ROps.d (r := b true) (fs := []) (Γ' := [⟨1, some [i64 0, i64 0, nilsl]⟩, ⟨0, none⟩]) rfl rfl rfl (TOp.eqb (TOp.callB (CallAs.func ent74 rfl rfl) (Bors.cons (Bor.agg (Bors.cons (Bor.pure rfl) (Bors.cons (Bor.pure rfl) (Bors.cons (Bor.sl (fun _ => rfl)) Bors.nil)))) (Bors.cons (Bor.pure rfl) (Bors.cons (Bor.pure rfl) (Bors.cons (Bor.pure rfl) (Bors.cons (Bor.pure rfl) Bors.nil))))) rfl rfl (i_Matrix_liesIn_ok a0 a1 a2 a3 a4 a5 a6 r2 hf3)) hc4) rfl ?_
   refine zL (r := b false) rfl rfl rfl (LOp.eqb (LOp.not rfl rfl) rfl) ?_
   refine zL (r := b false) rfl rfl rfl (LOp.pick_false rfl rfl rfl) ?_
   refine zN ?_
   refine RunC.wl (τ' := [(3, i64 a5), (4, i64 a6), (5, ptr [i64 a0, i64 a1, sl a2.length (a2.map f32)]), (6, ptr [i64 a3]), (7, ptr [i64 a4]), (10, optr 0 1 0), (23, b false)]) (Γ' := [⟨1, some [i64 0, i64 0, nilsl]⟩, ⟨0, none⟩]) ⟨aR, aR, aR, aR, aR, aR, aR, trivial⟩ ⟨⟨rfl, .inr rfl⟩, ⟨rfl, .inr rfl⟩, trivial⟩ ?_
   refine RunC.cond_false rfl rfl ?_
   refine RunC.skip ?_
   refine RunC.seq ?_
   obtain ⟨r3, r4, r5, hf5, h⟩ := obind3_some h
   refine RunC.regionW ?_
   refine zM (r := i64 a5) rfl rfl rfl rfl rfl ?_
   refine zM (r := i64 a6) rfl rfl rfl rfl rfl ?_
   refine zL (r := fn (.func 75) [] [ptr [i64 a0, i64 a1, sl a2.length (a2.map f32)], ptr [i64 a3], ptr [i64 a4]]) rfl rfl rfl (LOp.makeFunc rfl rfl) ?_
   refine ROps.d (r := agg [i64 r3, i64 r4, oref 1 1 0 r5.length]) (fs := [(1, (r5.map f32))]) (Γ' := [⟨1, some [i64 0, i64 0, nilsl]⟩, ⟨1, some (r5.map f32)⟩]) rfl rfl rfl (TOp.callBN (ls := [(r5.map f32)]) [1] (CallAs.func ent60 rfl rfl) (Bors.cons (Bor.pure rfl) (Bors.cons (Bor.pure rfl) (Bors.cons (Bor.fn Bors.nil (Bors.cons (Bor.ptr (Bors.cons (Bor.pure rfl) (Bors.cons (Bor.pure rfl) (Bors.cons (Bor.sl (fun _ => rfl)) Bors.nil)))) (Bors.cons (Bor.ptr (Bors.cons (Bor.pure rfl) Bors.nil)) (Bors.cons (Bor.ptr (Bors.cons (Bor.pure rfl) Bors.nil)) Bors.nil)))) Bors.nil))) rfl (i_made_2Fi_PartOfMatrix_1_ok a5 a6 a0 a1 a2 a3 a4 r3 r4 r5 hf5) (and_all (lts0_map (f := f32) (fun _ => rfl) _) rfl) (and_all (noss_map (f := f32) (fun _ => rfl) _) rfl) rfl (by decide) (ns_of ⟨⟨_, rfl⟩, trivial⟩)) rfl ?_
   refine ROps.store_le (r := agg [i64 r3, i64 r4, oref 1 1 0 r5.length]) (l' := [i64 r3, i64 r4, oref 1 1 0 r5.length]) (Γ' := [⟨1, some [i64 r3, i64 r4, oref 1 1 0 r5.length]⟩, ⟨1, some (r5.map f32)⟩]) rfl siz26 rfl rfl rfl aR rfl rfl rfl rfl (Nat.le_of_ble_eq_true rfl) rfl rfl ?_
   refine zA (r := b true) rfl rfl rfl rfl rfl ?_
   refine zN ?_
   refine RunC.ret ?_
   have hq := Option.some.inj h
   obtain ⟨hq0, hq⟩ := Prod.mk.inj hq
   obtain ⟨hq1, hq⟩ := Prod.mk.inj hq
   obtain ⟨hq2, hq⟩ := Prod.mk.inj hq
   subst q0
   subst q1
   subst q2
   subst q3
   exact bodyQ.mk (r' := tup [agg [i64 r3, i64 r4, oref 1 1 0 r5.length], b true]) [(1, 1)] (.inr rfl) rfl (show List.Nodup [1] from by decide) rfl rfl (Res.two rfl (RV.cell agg26 siz26 rfl rfl rfl rfl) (RV.tmp rfl)) (SelL.arr0 (f := f32) (fun _ => rfl) rfl trivial)
  ·refine RunC.regionW ?_
   refine zL (r := agg [i64 a0, i64 a1, sl a2.length (a2.map f32)]) rfl rfl rfl (LOp.loadAgg agg26 siz26 rfl rfl rfl rfl) ?_
   refine ROps.d (r := b true) (fs := []) (Γ' := [⟨1, some [i64 0, i64 0, nilsl]⟩, ⟨0, none⟩]) rfl rfl rfl (TOp.eqb (TOp.callB (CallAs.func ent66 rfl rfl) (Bors.cons (Bor.agg (Bors.cons (Bor.pure rfl) (Bors.cons (Bor.pure rfl) (Bors.cons (Bor.sl (fun _ => rfl)) Bors.nil)))) Bors.nil) rfl rfl (i_ValidMatrix_ok a0 a1 a2 r1 hf1)) hc2) rfl ?_
   refine zL (r := b false) rfl rfl rfl (LOp.eqb (LOp.not rfl rfl) rfl) ?_
   refine zM (r := b false) rfl rfl rfl rfl rfl ?_
   refine zL (r := agg [i64 a0, i64 a1, sl a2.length (a2.map f32)]) rfl rfl rfl (LOp.loadAgg agg26 siz26 rfl rfl rfl rfl) ?_
   refine zL (r := i64 a3) rfl rfl rfl (LOp.load1 agg2 rfl rfl) ?_
   refine zL (r := i64 a4) rfl rfl rfl (LOp.load1 agg2 rfl rfl) ?_
   refine zM (r := i64 a5) rfl rfl rfl rfl rfl ?_
   refine zM (r := i64 a6) rfl rfl rfl rfl rfl ?_
   refine ROps.d (r := b false) (fs := []) (Γ' := [⟨1, some [i64 0, i64 0, nilsl]⟩, ⟨0, none⟩]) rfl rfl rfl (TOp.eqb (TOp.callB (CallAs.func ent74 rfl rfl) (Bors.cons (Bor.agg (Bors.cons (Bor.pure rfl) (Bors.cons (Bor.pure rfl) (Bors.cons (Bor.sl (fun _ => rfl)) Bors.nil)))) (Bors.cons (Bor.pure rfl) (Bors.cons (Bor.pure rfl) (Bors.cons (Bor.pure rfl) (Bors.cons (Bor.pure rfl) Bors.nil))))) rfl rfl (i_Matrix_liesIn_ok a0 a1 a2 a3 a4 a5 a6 r2 hf3)) hc4) rfl ?_
   refine zL (r := b true) rfl rfl rfl (LOp.eqb (LOp.not rfl rfl) rfl) ?_
   refine zL (r := b true) rfl rfl rfl (LOp.pick_false rfl rfl rfl) ?_
   refine zN ?_
   refine RunC.wl (τ' := [(3, i64 a5), (4, i64 a6), (5, ptr [i64 a0, i64 a1, sl a2.length (a2.map f32)]), (6, ptr [i64 a3]), (7, ptr [i64 a4]), (10, optr 0 1 0), (23, b true)]) (Γ' := [⟨1, some [i64 0, i64 0, nilsl]⟩, ⟨0, none⟩]) ⟨aR, aR, aR, aR, aR, aR, aR, trivial⟩ ⟨⟨rfl, .inr rfl⟩, ⟨rfl, .inr rfl⟩, trivial⟩ ?_
   refine RunC.cond_true rfl rfl ?_
   refine zQ ?_
   refine zL (r := agg [i64 0, i64 0, nilsl]) rfl rfl rfl (LOp.build (qs := []) zer26 zok26 und26 plc26 rfl trivial rfl) ?_
   refine ROps.store_le (r := agg [i64 0, i64 0, nilsl]) (l' := [i64 0, i64 0, nilsl]) (Γ' := [⟨1, some [i64 0, i64 0, nilsl]⟩, ⟨0, none⟩]) rfl siz26 rfl rfl rfl aR rfl rfl rfl rfl (Nat.le_of_ble_eq_true rfl) rfl rfl ?_
   refine zA (r := b false) rfl rfl rfl rfl rfl ?_
   refine zN ?_
   refine RunC.nil_cell (l' := [i64 0, i64 0, oref 1 1 0 0]) (Γ' := [⟨1, some [i64 0, i64 0, oref 1 1 0 0]⟩, ⟨1, some (([] : List F).map f32)⟩]) 0 2 1 rfl rfl rfl rfl rfl ?_
   refine RunC.ret ?_
   have hq := Option.some.inj h
   obtain ⟨hq0, hq⟩ := Prod.mk.inj hq
   obtain ⟨hq1, hq⟩ := Prod.mk.inj hq
   obtain ⟨hq2, hq⟩ := Prod.mk.inj hq
   subst q0
   subst q1
   subst q2
   subst q3
   exact bodyQ.mk (r' := tup [agg [i64 0, i64 0, oref 1 1 0 (([] : List F).length)], b false]) [(1, 1)] (.inr rfl) rfl (show List.Nodup [1] from by decide) rfl rfl (Res.eq (Res.two rfl (RV.cell agg26 siz26 rfl rfl rfl rfl) (RV.tmp rfl)) (by rw [(show ([] : List F).length = 0 from rfl)] <;> rfl)) (SelL.arr0 (f := f32) (fun _ => rfl) rfl trivial)
 ·refine RunC.regionW ?_
  refine zL (r := agg [i64 a0, i64 a1, sl a2.length (a2.map f32)]) rfl rfl rfl (LOp.loadAgg agg26 siz26 rfl rfl rfl rfl) ?_
  refine ROps.d (r := b false) (fs := []) (Γ' := [⟨1, some [i64 0, i64 0, nilsl]⟩, ⟨0, none⟩]) rfl rfl rfl (TOp.eqb (TOp.callB (CallAs.func ent66 rfl rfl) (Bors.cons (Bor.agg (Bors.cons (Bor.pure rfl) (Bors.cons (Bor.pure rfl) (Bors.cons (Bor.sl (fun _ => rfl)) Bors.nil)))) Bors.nil) rfl rfl (i_ValidMatrix_ok a0 a1 a2 r1 hf1)) hc2) rfl ?_
  refine zL (r := b true) rfl rfl rfl (LOp.eqb (LOp.not rfl rfl) rfl) ?_
  refine zM (r := b true) rfl rfl rfl rfl rfl ?_
  iterate 7 (refine ROps.s rfl rfl rfl ?_)
  refine zL (r := b true) rfl rfl rfl (LOp.pick_true rfl rfl rfl) ?_
  refine zN ?_
  refine RunC.wl (τ' := [(3, i64 a5), (4, i64 a6), (5, ptr [i64 a0, i64 a1, sl a2.length (a2.map f32)]), (6, ptr [i64 a3]), (7, ptr [i64 a4]), (10, optr 0 1 0), (23, b true)]) (Γ' := [⟨1, some [i64 0, i64 0, nilsl]⟩, ⟨0, none⟩]) ⟨aR, aR, aR, aR, aR, aR, aR, trivial⟩ ⟨⟨rfl, .inr rfl⟩, ⟨rfl, .inr rfl⟩, trivial⟩ ?_
  refine RunC.cond_true rfl rfl ?_
  refine zQ ?_
  refine zL (r := agg [i64 0, i64 0, nilsl]) rfl rfl rfl (LOp.build (qs := []) zer26 zok26 und26 plc26 rfl trivial rfl) ?_
  refine ROps.store_le (r := agg [i64 0, i64 0, nilsl]) (l' := [i64 0, i64 0, nilsl]) (Γ' := [⟨1, some [i64 0, i64 0, nilsl]⟩, ⟨0, none⟩]) rfl siz26 rfl rfl rfl aR rfl rfl rfl rfl (Nat.le_of_ble_eq_true rfl) rfl rfl ?_
  refine zA (r := b false) rfl rfl rfl rfl rfl ?_
  refine zN ?_
  refine RunC.nil_cell (l' := [i64 0, i64 0, oref 1 1 0 0]) (Γ' := [⟨1, some [i64 0, i64 0, oref 1 1 0 0]⟩, ⟨1, some (([] : List F).map f32)⟩]) 0 2 1 rfl rfl rfl rfl rfl ?_
  refine RunC.ret ?_
  have hq := Option.some.inj h
  obtain ⟨hq0, hq⟩ := Prod.mk.inj hq
  obtain ⟨hq1, hq⟩ := Prod.mk.inj hq
  obtain ⟨hq2, hq⟩ := Prod.mk.inj hq
  subst q0
  subst q1
  subst q2
  subst q3
  exact bodyQ.mk (r' := tup [agg [i64 0, i64 0, oref 1 1 0 (([] : List F).length)], b false]) [(1, 1)] (.inr rfl) rfl (show List.Nodup [1] from by decide) rfl rfl (Res.eq (Res.two rfl (RV.cell agg26 siz26 rfl rfl rfl rfl) (RV.tmp rfl)) (by rw [(show ([] : List F).length = 0 from rfl)] <;> rfl)) (SelL.arr0 (f := f32) (fun _ => rfl) rfl trivial)
noncomputable def i_Matrix_clone (a0 : Int) (a1 : Int) (a2 : List F) : Option (Int × Int × (List F)) :=
 obind (x_slices_Clone_float32_float32 a2) fun (r1 : List F) =>
 some (a0, a1, r1)
theorem i_Matrix_clone_ok (a0 : Int) (a1 : Int) (a2 : List F) (q0 : Int) (q1 : Int) (q2 : List F) (h : i_Matrix_clone a0 a1 a2 = some (q0, q1, q2)) : Ev Try.prog 77 [agg [i64 a0, i64 a1, sl a2.length (a2.map f32)]] [] (agg [i64 q0, i64 q1, oref 0 0 0 q2.length]) [⟨0, some (q2.map f32)⟩] := by
 refine Ev.start Try.func77 rfl rfl 2 (τ := [(0, agg [i64 a0, i64 a1, sl a2.length (a2.map f32)])]) rfl (Γ' := [⟨0, none⟩, ⟨0, none⟩]) rfl (n := 23) rfl (g := 0) rfl (fun _ => rfl) ?_
 unfold i_Matrix_clone at h
 refine zQ ?_
 refine ROps.d (r := ptr [i64 a0, i64 a1, sl a2.length (a2.map f32)]) (fs := []) (Γ' := [⟨0, none⟩, ⟨0, none⟩]) rfl rfl rfl (TOp.box_s rfl rfl rfl) rfl ?_
 refine ROps.d (r := optr 0 1 0) (fs := [(0, [i64 0, i64 0, nilsl])]) (Γ' := [⟨1, some [i64 0, i64 0, nilsl]⟩, ⟨0, none⟩]) rfl rfl rfl (TOp.alloc_o (g := ⟨0, none⟩) 0 rfl zer26 zok26 rfl) rfl ?_
 refine zN ?_
 refine RunC.seq ?_
 obtain ⟨r1, hf1, h⟩ := obind_some h
 refine RunC.region_draw (Γ' := [⟨1, some [i64 0, i64 0, nilsl]⟩, ⟨1, some (r1.map f32)⟩]) 8 mixed 
  (TR.l (r := ptr [i64 a0, i64 a1, sl a2.length (a2.map f32)]) rfl rfl (LOp.fap und26 rfl siz2 rfl rfl rfl) <|
  (TR.l (r := i64 a0) rfl rfl (LOp.load1 agg2 rfl rfl) <|
  (TR.l (r := ptr [i64 a1, sl a2.length (a2.map f32)]) rfl rfl (LOp.fap und26 rfl siz2 rfl rfl rfl) <|
  (TR.l (r := i64 a1) rfl rfl (LOp.load1 agg2 rfl rfl) <|
  (TR.l (r := ptr [sl a2.length (a2.map f32)]) rfl rfl (LOp.fap und26 rfl siz24 rfl rfl rfl) <|
  (TR.l (r := sl a2.length (a2.map f32)) rfl rfl (LOp.load1 agg24 rfl rfl) <|
  (TR.d (r := oref 1 1 0 r1.length) (fs := [(1, (r1.map f32))]) rfl rfl (TOp.callBN (ls := [(r1.map f32)]) [1] (CallAs.func ent127 rfl rfl) (Bors.cons (Bor.sl (fun _ => rfl)) Bors.nil) rfl (x_slices_Clone_float32_float32_ok a2 r1 hf1) (and_all (lts0_map (f := f32) (fun _ => rfl) _) rfl) (and_all (noss_map (f := f32) (fun _ => rfl) _) rfl) rfl (by decide) (ns_of ⟨⟨_, rfl⟩, trivial⟩)) <|
  (TR.l (r := agg [i64 a0, i64 a1, oref 1 1 0 r1.length]) rfl rfl (LOp.build (qs := [(0, [i64 a0]), (1, [i64 a1]), (2, [oref 1 1 0 r1.length])]) zer26 zok26 und26 plc26 rfl ⟨rfl, ⟨_, ALe.refl _, rfl⟩, ⟨rfl, ⟨_, ALe.refl _, rfl⟩, ⟨rfl, ⟨_, ALe.refl _, rfl⟩, trivial⟩⟩⟩ rfl) <|
  TR.nil)))))))) rfl (by kernel_rfl) rfl (fills_of (by show List.Nodup [1]; decide) ⟨⟨_, rfl⟩, trivial⟩) rfl ?_
 iterate 8 refine ROps.dropS ?_
 refine ROps.drop0 ?_
 refine ROps.store_le (r := agg [i64 a0, i64 a1, oref 1 1 0 r1.length]) (l' := [i64 a0, i64 a1, oref 1 1 0 r1.length]) (Γ' := [⟨1, some [i64 a0, i64 a1, oref 1 1 0 r1.length]⟩, ⟨1, some (r1.map f32)⟩]) rfl siz26 rfl rfl rfl aR rfl rfl rfl rfl (Nat.le_of_ble_eq_true rfl) rfl rfl ?_
 refine zN ?_
 refine RunC.ret ?_
 have hq := Option.some.inj h
 obtain ⟨hq0, hq⟩ := Prod.mk.inj hq
 obtain ⟨hq1, hq⟩ := Prod.mk.inj hq
 subst q0
 subst q1
 subst q2
 exact bodyQ.mk (r' := agg [i64 a0, i64 a1, oref 1 1 0 r1.length]) [(1, 1)] (.inr rfl) rfl (show List.Nodup [1] from by decide) rfl rfl (Res.one rfl (RV.cell agg26 siz26 rfl rfl rfl rfl)) (SelL.arr0 (f := f32) (fun _ => rfl) rfl trivial)
noncomputable def i_PutMatrix_b2 (a3 : Int) (a4 : Int) (a5 : List F) (a6 : Int) (a7 : Int) (r4 : Int) (r5 : Int) (r6 : List F) (v9 : Int) (L10 : List F) (v12 : Int) : Option (LR ((List F) × Int) ((List F)) (Int × Int × Bool × (List F))) :=
 bsel (decide (v12 < a4)) (
  olet (IntKind.i64.wrap (a6 + v9)) fun (x16 : Int) =>
  olet (IntKind.i64.wrap (a7 + v12)) fun (x17 : Int) =>
  obind (i_Matrix_at a3 a4 a5 v9 v12) fun (r18 : F) =>
  obind (i_Matrix_set_02o r4 r5 x16 x17 r18 L10) fun (r19 : List F) =>
  need (decide (r19.length = r6.length)) <|
  olet (IntKind.i64.wrap (v12 + 1)) fun (x20 : Int) =>
  some (LR.next (r19, x20))) (
  some (LR.out L10))
noncomputable def i_PutMatrix_s2 (a3 : Int) (a4 : Int) (a5 : List F) (a6 : Int) (a7 : Int) (r4 : Int) (r5 : Int) (r6 : List F) (v9 : Int) : ((List F) × Int) → Option (LR ((List F) × Int) ((List F)) (Int × Int × Bool × (List F))) := fun s => i_PutMatrix_b2 a3 a4 a5 a6 a7 r4 r5 r6 v9 s.1 s.2
noncomputable def i_PutMatrix_k2 (v9 : Int) (L21 : List F) : Option (LR ((List F) × Int) ((List F)) (Int × Int × Bool × (List F))) :=
 olet (IntKind.i64.wrap (v9 + 1)) fun (x23 : Int) =>
 some (LR.next (L21, x23))
noncomputable def i_PutMatrix_b3 (a3 : Int) (a4 : Int) (a5 : List F) (a6 : Int) (a7 : Int) (r4 : Int) (r5 : Int) (r6 : List F) (L7 : List F) (v9 : Int) : Option (LR ((List F) × Int) ((List F)) (Int × Int × Bool × (List F))) :=
 bsel (decide (v9 < a3)) (
  obind (loopM (i_PutMatrix_s2 a3 a4 a5 a6 a7 r4 r5 r6 v9) (L7, 0)) fun z => osum z (fun e => i_PutMatrix_k2 v9 e) (fun r => some (LR.ret r))) (
  some (LR.out L7))
noncomputable def i_PutMatrix_s3 (a3 : Int) (a4 : Int) (a5 : List F) (a6 : Int) (a7 : Int) (r4 : Int) (r5 : Int) (r6 : List F) : ((List F) × Int) → Option (LR ((List F) × Int) ((List F)) (Int × Int × Bool × (List F))) := fun s => i_PutMatrix_b3 a3 a4 a5 a6 a7 r4 r5 r6 s.1 s.2
noncomputable def i_PutMatrix_k3 (r4 : Int) (r5 : Int) (L24 : List F) : Option (Int × Int × Bool × (List F)) :=
 some (r4, r5, true, L24)
noncomputable def i_PutMatrix (a0 : Int) (a1 : Int) (a2 : List F) (a3 : Int) (a4 : Int) (a5 : List F) (a6 : Int) (a7 : Int) : Option (Int × Int × Bool × (List F)) :=
 obind (i_ValidMatrix a0 a1 a2) fun (r1 : Bool) =>
 bsel r1 (
  obind (i_ValidMatrix a3 a4 a5) fun (r2 : Bool) =>
  bsel r2 (
   obind (i_Matrix_liesIn a0 a1 a2 a6 a7 a3 a4) fun (r3 : Bool) =>
   bsel r3 (
    obind3 (i_Matrix_clone a0 a1 a2) fun (r4 : Int) (r5 : Int) (r6 : List F) =>
    obind (loopM (i_PutMatrix_s3 a3 a4 a5 a6 a7 r4 r5 r6) (r6, 0)) fun z => osum z (fun e => i_PutMatrix_k3 r4 r5 e) (fun r => some r)) (
    some (0, 0, false, ([] : List F)))) (
   some (0, 0, false, ([] : List F)))) (
  some (0, 0, false, ([] : List F)))
theorem i_PutMatrix_ok (a0 : Int) (a1 : Int) (a2 : List F) (a3 : Int) (a4 : Int) (a5 : List F) (a6 : Int) (a7 : Int) (q0 : Int) (q1 : Int) (q2 : Bool) (q3 : List F) (h : i_PutMatrix a0 a1 a2 a3 a4 a5 a6 a7 = some (q0, q1, q2, q3)) : Ev Try.prog 20 [agg [i64 a0, i64 a1, sl a2.length (a2.map f32)], agg [i64 a3, i64 a4, sl a5.length (a5.map f32)], i64 a6, i64 a7] [] (tup [agg [i64 q0, i64 q1, oref 0 0 0 q3.length], b q2]) [⟨0, some (q3.map f32)⟩] := by
 refine Ev.start Try.func20 rfl rfl 3 (τ := [(0, agg [i64 a0, i64 a1, sl a2.length (a2.map f32)]), (1, agg [i64 a3, i64 a4, sl a5.length (a5.map f32)]), (2, i64 a6), (3, i64 a7)]) rfl (Γ' := [⟨0, none⟩, ⟨0, none⟩, ⟨0, none⟩]) rfl (n := 121) rfl (g := 0) rfl (fun _ => rfl) ?_
 unfold i_PutMatrix at h
 refine zQ ?_
 refine ROps.d (r := ptr [i64 a0, i64 a1, sl a2.length (a2.map f32)]) (fs := []) (Γ' := [⟨0, none⟩, ⟨0, none⟩, ⟨0, none⟩]) rfl rfl rfl (TOp.box_s rfl rfl rfl) rfl ?_
 refine ROps.d (r := ptr [i64 a3, i64 a4, sl a5.length (a5.map f32)]) (fs := []) (Γ' := [⟨0, none⟩, ⟨0, none⟩, ⟨0, none⟩]) rfl rfl rfl (TOp.box_s rfl rfl rfl) rfl ?_
 refine ROps.d (r := optr 0 1 0) (fs := [(0, [i64 0, i64 0, nilsl])]) (Γ' := [⟨1, some [i64 0, i64 0, nilsl]⟩, ⟨0, none⟩, ⟨0, none⟩]) rfl rfl rfl (TOp.alloc_o (g := ⟨0, none⟩) 0 rfl zer26 zok26 rfl) rfl ?_
 refine zA (r := b false) rfl rfl rfl rfl rfl ?_
 refine zN ?_
 iterate 2 (refine RunC.seq ?_)
 obtain ⟨r1, hf1, h⟩ := obind_some h
 rcases bsel_some h with ⟨hc2, h⟩ | ⟨hc2, h⟩
 ·obtain ⟨r2, hf3, h⟩ := obind_some h
  rcases bsel_some h with ⟨hc4, h⟩ | ⟨hc4, h⟩
  ·obtain ⟨r3, hf5, h⟩ := obind_some h
   rcases bsel_some h with ⟨hc6, h⟩ | ⟨hc6, h⟩
   ·refine RunC.regionW ?_
    refine zL (r := agg [i64 a0, i64 a1, sl a2.length (a2.map f32)]) rfl rfl rfl (LOp.loadAgg agg26 siz26 rfl rfl rfl rfl) ?_
    refine ROps.d (r := b true) (fs := []) (Γ' := [⟨1, some [i64 0, i64 0, nilsl]⟩, ⟨0, none⟩, ⟨0, none⟩]) rfl rfl rfl (TOp.eqb (TOp.callB (CallAs.func ent66 rfl rfl) (Bors.cons (Bor.agg (Bors.cons (Bor.pure rfl) (Bors.cons (Bor.pure rfl) (Bors.cons (Bor.sl (fun _ => rfl)) Bors.nil)))) Bors.nil) rfl rfl (i_ValidMatrix_ok a0 a1 a2 r1 hf1)) hc2) rfl ?_
    refine zL (r := b false) rfl rfl rfl (LOp.eqb (LOp.not rfl rfl) rfl) ?_
    refine zM (r := b false) rfl rfl rfl rfl rfl ?_
    refine zL (r := agg [i64 a3, i64 a4, sl a5.length (a5.map f32)]) rfl rfl rfl (LOp.loadAgg agg26 siz26 rfl rfl rfl rfl) ?_
    refine ROps.d (r := b true) (fs := []) (Γ' := [⟨1, some [i64 0, i64 0, nilsl]⟩, ⟨0, none⟩, ⟨0, none⟩]) rfl rfl rfl (TOp.eqb (TOp.callB (CallAs.func ent66 rfl rfl) (Bors.cons (Bor.agg (Bors.cons (Bor.pure rfl) (Bors.cons (Bor.pure rfl) (Bors.cons (Bor.sl (fun _ => rfl)) Bors.nil)))) Bors.nil) rfl rfl (i_ValidMatrix_ok a3 a4 a5 r2 hf3)) hc4) rfl ?_
    refine zL (r := b false) rfl rfl rfl (LOp.eqb (LOp.not rfl rfl) rfl) ?_
    refine zL (r := b false) rfl rfl rfl (LOp.pick_false rfl rfl rfl) ?_
    refine zM (r := b false) rfl rfl rfl rfl rfl ?_
    refine zL (r := agg [i64 a0, i64 a1, sl a2.length (a2.map f32)]) rfl rfl rfl (LOp.loadAgg agg26 siz26 rfl rfl rfl rfl) ?_
    refine zM (r := i64 a6) rfl rfl rfl rfl rfl ?_
    refine zM (r := i64 a7) rfl rfl rfl rfl rfl ?_
    refine zL (r := ptr [i64 a3, i64 a4, sl a5.length (a5.map f32)]) rfl rfl rfl (LOp.fap und26 rfl siz2 rfl rfl rfl) ?_
    refine zL (r := i64 a3) rfl rfl rfl (LOp.load1 agg2 rfl rfl) ?_
    refine zL (r := ptr [i64 a4, sl a5.length (a5.map f32)]) rfl rfl rfl (LOp.fap und26 rfl siz2 rfl rfl rfl) ?_
    refine zL (r := i64 a4) rfl rfl rfl (LOp.load1 agg2 rfl rfl) ?_
    refine ROps.d (r := b true) (fs := []) (Γ' := [⟨1, some [i64 0, i64 0, nilsl]⟩, ⟨0, none⟩, ⟨0, none⟩]) rfl rfl rfl (TOp.eqb (TOp.callB (CallAs.func ent74 rfl rfl) (Bors.cons (Bor.agg (Bors.cons (Bor.pure rfl) (Bors.cons (Bor.pure rfl) (Bors.cons (Bor.sl (fun _ => rfl)) Bors.nil)))) (Bors.cons (Bor.pure rfl) (Bors.cons (Bor.pure rfl) (Bors.cons (Bor.pure rfl) (Bors.cons (Bor.pure rfl) Bors.nil))))) rfl rfl (i_Matrix_liesIn_ok a0 a1 a2 a6 a7 a3 a4 r3 hf5)) hc6) rfl ?_
    refine zL (r := b false) rfl rfl rfl (LOp.eqb (LOp.not rfl rfl) rfl) ?_
    refine zL (r := b false) rfl rfl rfl (LOp.pick_false rfl rfl rfl) ?_
    refine zN ?_
    refine RunC.wl (τ' := [(2, i64 a6), (3, i64 a7), (4, ptr [i64 a0, i64 a1, sl a2.length (a2.map f32)]), (5, ptr [i64 a3, i64 a4, sl a5.length (a5.map f32)]), (8, optr 0 1 0), (31, b false)]) (Γ' := [⟨1, some [i64 0, i64 0, nilsl]⟩, ⟨0, none⟩, ⟨0, none⟩]) ⟨aR, aR, aR, aR, aR, aR, trivial⟩ ⟨⟨rfl, .inr rfl⟩, ⟨rfl, .inr rfl⟩, ⟨rfl, .inr rfl⟩, trivial⟩ ?_
    refine RunC.cond_false rfl rfl ?_
    refine RunC.skip ?_
    refine RunC.seq ?_
    obtain ⟨r4, r5, r6, hf7, h⟩ := obind3_some h
    refine RunC.regionW ?_
    refine zL (r := agg [i64 a0, i64 a1, sl a2.length (a2.map f32)]) rfl rfl rfl (LOp.loadAgg agg26 siz26 rfl rfl rfl rfl) ?_
    refine ROps.d (r := agg [i64 r4, i64 r5, oref 1 1 0 r6.length]) (fs := [(1, (r6.map f32))]) (Γ' := [⟨1, some [i64 0, i64 0, nilsl]⟩, ⟨1, some (r6.map f32)⟩, ⟨0, none⟩]) rfl rfl rfl (TOp.callBN (ls := [(r6.map f32)]) [1] (CallAs.func ent77 rfl rfl) (Bors.cons (Bor.agg (Bors.cons (Bor.pure rfl) (Bors.cons (Bor.pure rfl) (Bors.cons (Bor.sl (fun _ => rfl)) Bors.nil)))) Bors.nil) rfl (i_Matrix_clone_ok a0 a1 a2 r4 r5 r6 hf7) (and_all (lts0_map (f := f32) (fun _ => rfl) _) rfl) (and_all (noss_map (f := f32) (fun _ => rfl) _) rfl) rfl (by decide) (ns_of ⟨⟨_, rfl⟩, trivial⟩)) rfl ?_
    refine ROps.d (r := optr 2 1 0) (fs := [(2, [i64 0, i64 0, nilsl])]) (Γ' := [⟨1, some [i64 0, i64 0, nilsl]⟩, ⟨1, some (r6.map f32)⟩, ⟨1, some [i64 0, i64 0, nilsl]⟩]) rfl rfl rfl (TOp.alloc_o (g := ⟨0, none⟩) 2 rfl zer26 zok26 rfl) rfl ?_
    refine ROps.store_le (r := agg [i64 r4, i64 r5, oref 1 1 0 r6.length]) (l' := [i64 r4, i64 r5, oref 1 1 0 r6.length]) (Γ' := [⟨1, some [i64 0, i64 0, nilsl]⟩, ⟨1, some (r6.map f32)⟩, ⟨1, some [i64 r4, i64 r5, oref 1 1 0 r6.length]⟩]) rfl siz26 rfl rfl rfl aR rfl rfl rfl rfl (Nat.le_of_ble_eq_true rfl) rfl rfl ?_
    refine zN ?_
    refine RunC.seq ?_
    refine zQ ?_
    refine zL (r := ptr [i64 a3, i64 a4, sl a5.length (a5.map f32)]) rfl rfl rfl (LOp.fap und26 rfl siz2 rfl rfl rfl) ?_
    refine zL (r := i64 a3) rfl rfl rfl (LOp.load1 agg2 rfl rfl) ?_
    refine zM (r := i64 0) rfl rfl rfl rfl rfl ?_
    refine zN ?_
    obtain ⟨z4, hz_4, h⟩ := obind_some h
    refine RunC.cutN (fun τ Γ => ∃ (L24 : List F), L24.length = r6.length ∧ WeakLe τ [(8, optr 0 1 0), (10, optr 2 1 0)] ∧ DeadLe Γ [⟨1, some [i64 0, i64 0, nilsl]⟩, ⟨1, some (L24.map f32)⟩, ⟨1, some [i64 r4, i64 r5, oref 1 1 0 r6.length]⟩] ∧ z4 = .inl L24) ?_ ?_
    ·refine RunC.block (RunC.loop (RunL.loopM (x := z4) (i_PutMatrix_s3 a3 a4 a5 a6 a7 r4 r5 r6) (fun (s : (List F) × Int) τ Γ => s.1.length = r6.length ∧ WeakLe τ [(2, i64 a6), (3, i64 a7), (5, ptr [i64 a3, i64 a4, sl a5.length (a5.map f32)]), (8, optr 0 1 0), (10, optr 2 1 0), (36, i64 a3), (37, i64 s.2)] ∧ DeadLe Γ [⟨1, some [i64 0, i64 0, nilsl]⟩, ⟨1, some (s.1.map f32)⟩, ⟨1, some [i64 r4, i64 r5, oref 1 1 0 r6.length]⟩]) ?_ _ _ _ hz_4 ⟨rfl, ⟨aR, aR, aR, aR, aR, aR, aR, trivial⟩, ⟨⟨rfl, .inr rfl⟩, ⟨rfl, .inr rfl⟩, ⟨rfl, .inr rfl⟩, trivial⟩⟩))
     rintro ⟨L7, v9⟩ τ4 Γ4 y4_ ⟨hl8, hw4, hd4⟩ h4_ ho4 hr4
     refine RunC.wl (τ' := [(2, i64 a6), (3, i64 a7), (5, ptr [i64 a3, i64 a4, sl a5.length (a5.map f32)]), (8, optr 0 1 0), (10, optr 2 1 0), (36, i64 a3), (37, i64 v9)]) (Γ' := [⟨1, some [i64 0, i64 0, nilsl]⟩, ⟨1, some (L7.map f32)⟩, ⟨1, some [i64 r4, i64 r5, oref 1 1 0 r6.length]⟩]) hw4 hd4 ?_
     replace hl8 : L7.length = r6.length := hl8
     replace h4_ : i_PutMatrix_b3 a3 a4 a5 a6 a7 r4 r5 r6 L7 v9 = some y4_ := h4_
     unfold i_PutMatrix_b3 at h4_
     refine RunC.seq ?_
     rcases bsel_some h4_ with ⟨hc8, h4_⟩ | ⟨hc8, h4_⟩
     ·refine RunC.regionW ?_
      refine zL (r := b true) rfl rfl rfl (LOp.eqb (LOp.lss rfl rfl rfl) hc8) ?_
      refine zN ?_
      refine RunC.seq ?_
      refine RunC.cond_true rfl rfl ?_
      refine RunC.skip ?_
      refine RunC.seq ?_
      refine RunC.block ?_
      refine zQ ?_
      refine zM (r := i64 v9) rfl rfl rfl rfl rfl ?_
      refine zA (r := i64 v9) rfl rfl rfl rfl rfl ?_
      refine zN ?_
      refine zQ ?_
      refine zL (r := ptr [i64 a4, sl a5.length (a5.map f32)]) rfl rfl rfl (LOp.fap und26 rfl siz2 rfl rfl rfl) ?_
      refine zL (r := i64 a4) rfl rfl rfl (LOp.load1 agg2 rfl rfl) ?_
      refine zM (r := i64 0) rfl rfl rfl rfl rfl ?_
      refine zN ?_
      obtain ⟨z5, hz_5, h4_⟩ := obind_some h4_
      refine RunC.cutN (fun τ Γ => ∃ (L21 : List F), L21.length = r6.length ∧ WeakLe τ [(2, i64 a6), (3, i64 a7), (5, ptr [i64 a3, i64 a4, sl a5.length (a5.map f32)]), (8, optr 0 1 0), (10, optr 2 1 0), (36, i64 a3), (37, i64 v9)] ∧ DeadLe Γ [⟨1, some [i64 0, i64 0, nilsl]⟩, ⟨1, some (L21.map f32)⟩, ⟨1, some [i64 r4, i64 r5, oref 1 1 0 r6.length]⟩] ∧ z5 = .inl L21) ?_ ?_
      ·refine RunC.block (RunC.loop (RunL.loopM (x := z5) (i_PutMatrix_s2 a3 a4 a5 a6 a7 r4 r5 r6 v9) (fun (s : (List F) × Int) τ Γ => s.1.length = r6.length ∧ WeakLe τ [(2, i64 a6), (3, i64 a7), (5, ptr [i64 a3, i64 a4, sl a5.length (a5.map f32)]), (8, optr 0 1 0), (10, optr 2 1 0), (11, i64 v9), (36, i64 a3), (37, i64 v9), (41, i64 a4), (42, i64 s.2)] ∧ DeadLe Γ [⟨1, some [i64 0, i64 0, nilsl]⟩, ⟨1, some (s.1.map f32)⟩, ⟨1, some [i64 r4, i64 r5, oref 1 1 0 r6.length]⟩]) ?_ _ _ _ hz_5 ⟨hl8, ⟨aR, aR, aR, aR, aR, aR, aR, aR, aR, aR, trivial⟩, ⟨⟨rfl, .inr rfl⟩, ⟨rfl, .inr rfl⟩, ⟨rfl, .inr rfl⟩, trivial⟩⟩))
       rintro ⟨L10, v12⟩ τ5 Γ5 y5_ ⟨hl11, hw5, hd5⟩ h5_ ho5 hr5
       refine RunC.wl (τ' := [(2, i64 a6), (3, i64 a7), (5, ptr [i64 a3, i64 a4, sl a5.length (a5.map f32)]), (8, optr 0 1 0), (10, optr 2 1 0), (11, i64 v9), (36, i64 a3), (37, i64 v9), (41, i64 a4), (42, i64 v12)]) (Γ' := [⟨1, some [i64 0, i64 0, nilsl]⟩, ⟨1, some (L10.map f32)⟩, ⟨1, some [i64 r4, i64 r5, oref 1 1 0 r6.length]⟩]) hw5 hd5 ?_
       replace hl11 : L10.length = r6.length := hl11
       replace h5_ : i_PutMatrix_b2 a3 a4 a5 a6 a7 r4 r5 r6 v9 L10 v12 = some y5_ := h5_
       unfold i_PutMatrix_b2 at h5_
       refine RunC.seq ?_
       rcases bsel_some h5_ with ⟨hc9, h5_⟩ | ⟨hc9, h5_⟩
       ·refine RunC.regionW ?_
        refine zL (r := b true) rfl rfl rfl (LOp.eqb (LOp.lss rfl rfl rfl) hc9) ?_
        refine zN ?_
        refine RunC.seq ?_
        refine RunC.cond_true rfl rfl ?_
        refine RunC.skip ?_
        refine RunC.seq ?_
        refine RunC.block ?_
        refine zQ ?_
        refine zM (r := i64 v12) rfl rfl rfl rfl rfl ?_
        refine zA (r := i64 v12) rfl rfl rfl rfl rfl ?_
        refine zN ?_
        obtain ⟨x16, hx13, h5_⟩ := olet_some h5_
        obtain ⟨x17, hx14, h5_⟩ := olet_some h5_
        obtain ⟨r18, hf15, h5_⟩ := obind_some h5_
        obtain ⟨r19, hf16, h5_⟩ := obind_some h5_
        obtain ⟨hn17, h5_⟩ := need_some h5_
        refine RunC.region_draw (Γ' := [⟨1, some [i64 0, i64 0, nilsl]⟩, ⟨1, some (L10.map f32)⟩, ⟨1, some [i64 r4, i64 r5, oref 1 1 0 r6.length]⟩]) 11 mixed 
         (TR.d (r := agg [i64 r4, i64 r5, oref 1 1 0 r6.length]) (fs := []) rfl rfl (TOp.loadAgg_o rfl agg26 siz26 rfl rfl rfl rfl) <|
         (TR.l (r := i64 a6) rfl rfl (LOp.move rfl rfl) <|
         (TR.l (r := i64 v9) rfl rfl (LOp.move rfl rfl) <|
         (TR.l (r := i64 x16) rfl rfl (LOp.eqr (LOp.add rfl rfl rfl) (congrArg (ik .i64) hx13)) <|
         (TR.l (r := i64 a7) rfl rfl (LOp.move rfl rfl) <|
         (TR.l (r := i64 v12) rfl rfl (LOp.move rfl rfl) <|
         (TR.l (r := i64 x17) rfl rfl (LOp.eqr (LOp.add rfl rfl rfl) (congrArg (ik .i64) hx14)) <|
         (TR.l (r := agg [i64 a3, i64 a4, sl a5.length (a5.map f32)]) rfl rfl (LOp.loadAgg agg26 siz26 rfl rfl rfl rfl) <|
         (TR.l (r := i64 v9) rfl rfl (LOp.move rfl rfl) <|
         (TR.l (r := i64 v12) rfl rfl (LOp.move rfl rfl) <|
         (TR.d (r := f32 r18) (fs := []) rfl rfl (TOp.callB (CallAs.func ent76 rfl rfl) (Bors.cons (Bor.agg (Bors.cons (Bor.pure rfl) (Bors.cons (Bor.pure rfl) (Bors.cons (Bor.sl (fun _ => rfl)) Bors.nil)))) (Bors.cons (Bor.pure rfl) (Bors.cons (Bor.pure rfl) Bors.nil))) rfl rfl (i_Matrix_at_ok a3 a4 a5 v9 v12 r18 hf15)) <|
         TR.nil))))))))))) rfl (by kernel_rfl) rfl fills_nil rfl ?_
        iterate 11 refine ROps.dropS ?_
        refine ROps.drop0 ?_
        refine ROps.callO (A := [agg [i64 r4, i64 r5, oref 1 1 0 r6.length], i64 x16, i64 x17, f32 r18]) (args := [agg [i64 r4, i64 r5, oref 0 0 0 L10.length], i64 x16, i64 x17, f32 r18]) (Γc := [⟨0, some (L10.map f32)⟩]) (Γc' := [⟨0, some (r19.map f32)⟩]) (r' := tup []) (Γ' := [⟨1, some [i64 0, i64 0, nilsl]⟩, ⟨1, some (r19.map f32)⟩, ⟨1, some [i64 r4, i64 r5, oref 1 1 0 r6.length]⟩]) [(1, 1)] [] rfl (CallAs.func ent78 rfl rfl) rfl rfl (SelOk.of (show List.Nodup [1] from by decide) (SelL.arr0 (f := f32) (fun _ => rfl) rfl trivial)) (live_of ⟨⟨_, _, rfl⟩, trivial⟩) (by simp [ren, rens, sigma, rens_f32, rens_f64, rens_i64, rens_ik, rens_str, rens_cp, hl11]) rfl (i_Matrix_set_02o_ok r4 r5 x16 x17 r18 L10 r19 hf16) rfl (news_of trivial) (show List.Nodup [1] from by decide) (by simp [ren, rens, sigma, of_decide_eq_true hn17]) (by simp [backOb, sigma, ren, rens, rens_f32, rens_f64, rens_i64, rens_ik, rens_str, rens_cp]) ?_
        refine zN ?_
        refine RunC.wl (τ' := [(2, i64 a6), (3, i64 a7), (5, ptr [i64 a3, i64 a4, sl a5.length (a5.map f32)]), (8, optr 0 1 0), (10, optr 2 1 0), (11, i64 v9), (36, i64 a3), (37, i64 v9), (41, i64 a4), (42, i64 v12)]) (Γ' := [⟨1, some [i64 0, i64 0, nilsl]⟩, ⟨1, some (r19.map f32)⟩, ⟨1, some [i64 r4, i64 r5, oref 1 1 0 r6.length]⟩]) ⟨aR, aR, aR, aR, aR, aR, aR, aR, aR, aR, trivial⟩ ⟨⟨rfl, .inr rfl⟩, ⟨rfl, .inr rfl⟩, ⟨rfl, .inr rfl⟩, trivial⟩ ?_
        obtain ⟨x20, hx18, h5_⟩ := olet_some h5_
        refine RunC.regionW ?_
        refine zL (r := i64 x20) rfl rfl rfl (LOp.eqr (LOp.add rfl rfl rfl) (congrArg (ik .i64) hx18)) ?_
        refine zM (r := i64 x20) rfl rfl rfl rfl rfl ?_
        refine zN ?_
        cases Option.some.inj h5_
        exact ⟨_, rfl, (of_decide_eq_true hn17), ⟨aR, aR, aR, aR, aR, aR, aR, aR, aR, aR, trivial⟩, ⟨⟨rfl, .inr rfl⟩, ⟨rfl, .inr rfl⟩, ⟨rfl, .inr rfl⟩, trivial⟩⟩
       ·refine RunC.regionW ?_
        refine zL (r := b false) rfl rfl rfl (LOp.eqb (LOp.lss rfl rfl rfl) hc9) ?_
        refine zN ?_
        refine RunC.seq ?_
        refine RunC.cond_false rfl rfl ?_
        refine RunC.exit ?_
        cases Option.some.inj h5_
        have hx := ho5 _ rfl
        exact ⟨L10, hl11, ⟨aR, aR, aR, aR, aR, aR, aR, trivial⟩, ⟨⟨rfl, .inr rfl⟩, ⟨rfl, .inr rfl⟩, ⟨rfl, .inr rfl⟩, trivial⟩, hx⟩
      ·rintro τ6 Γ6 ⟨L21, hl22, hw6, hd6, rfl⟩
       refine RunC.wl hw6 hd6 ?_
       replace h4_ : i_PutMatrix_k2 v9 L21 = some y4_ := h4_
       unfold i_PutMatrix_k2 at h4_
       obtain ⟨x23, hx19, h4_⟩ := olet_some h4_
       refine RunC.regionW ?_
       refine zL (r := i64 x23) rfl rfl rfl (LOp.eqr (LOp.add rfl rfl rfl) (congrArg (ik .i64) hx19)) ?_
       refine zM (r := i64 x23) rfl rfl rfl rfl rfl ?_
       refine zN ?_
       cases Option.some.inj h4_
       exact ⟨_, rfl, hl22, ⟨aR, aR, aR, aR, aR, aR, aR, trivial⟩, ⟨⟨rfl, .inr rfl⟩, ⟨rfl, .inr rfl⟩, ⟨rfl, .inr rfl⟩, trivial⟩⟩
     ·refine RunC.regionW ?_
      refine zL (r := b false) rfl rfl rfl (LOp.eqb (LOp.lss rfl rfl rfl) hc8) ?_
      refine zN ?_
      refine RunC.seq ?_
      refine RunC.cond_false rfl rfl ?_
      refine RunC.exit ?_
      cases Option.some.inj h4_
      have hx := ho4 _ rfl
      exact ⟨L7, hl8, ⟨aR, aR, trivial⟩, ⟨⟨rfl, .inr rfl⟩, ⟨rfl, .inr rfl⟩, ⟨rfl, .inr rfl⟩, trivial⟩, hx⟩
    ·rintro τ7 Γ7 ⟨L24, hl25, hw7, hd7, rfl⟩
     refine RunC.wl hw7 hd7 ?_
     replace h : i_PutMatrix_k3 r4 r5 L24 = some (q0, q1, q2, q3) := h
     unfold i_PutMatrix_k3 at h
     refine zQ ?_
     refine ROps.d (r := agg [i64 r4, i64 r5, oref 1 1 0 r6.length]) (fs := []) (Γ' := [⟨1, some [i64 0, i64 0, nilsl]⟩, ⟨1, some (L24.map f32)⟩, ⟨1, some [i64 r4, i64 r5, oref 1 1 0 r6.length]⟩]) rfl rfl rfl (TOp.loadAgg_o rfl agg26 siz26 rfl rfl rfl rfl) rfl ?_
     refine ROps.store_le (r := agg [i64 r4, i64 r5, oref 1 1 0 r6.length]) (l' := [i64 r4, i64 r5, oref 1 1 0 r6.length]) (Γ' := [⟨1, some [i64 r4, i64 r5, oref 1 1 0 r6.length]⟩, ⟨1, some (L24.map f32)⟩, ⟨1, some [i64 r4, i64 r5, oref 1 1 0 r6.length]⟩]) rfl siz26 rfl rfl rfl aR rfl rfl rfl rfl (Nat.le_of_ble_eq_true rfl) rfl rfl ?_
     refine zA (r := b true) rfl rfl rfl rfl rfl ?_
     refine zN ?_
     refine RunC.ret ?_
     have hq := Option.some.inj h
     obtain ⟨hq0, hq⟩ := Prod.mk.inj hq
     obtain ⟨hq1, hq⟩ := Prod.mk.inj hq
     obtain ⟨hq2, hq⟩ := Prod.mk.inj hq
     subst q0
     subst q1
     subst q2
     subst q3
     exact bodyQ.mk (r' := tup [agg [i64 r4, i64 r5, oref 1 1 0 L24.length], b true]) [(1, 1)] (.inr rfl) rfl (show List.Nodup [1] from by decide) rfl rfl (Res.eq (Res.two rfl (RV.cell agg26 siz26 rfl rfl rfl rfl) (RV.tmp rfl)) (by rw [(show L24.length = r6.length from hl25)] <;> rfl)) (SelL.arr0 (f := f32) (fun _ => rfl) rfl trivial)
   ·refine RunC.regionW ?_
    refine zL (r := agg [i64 a0, i64 a1, sl a2.length (a2.map f32)]) rfl rfl rfl (LOp.loadAgg agg26 siz26 rfl rfl rfl rfl) ?_
    refine ROps.d (r := b true) (fs := []) (Γ' := [⟨1, some [i64 0, i64 0, nilsl]⟩, ⟨0, none⟩, ⟨0, none⟩]) rfl rfl rfl (TOp.eqb (TOp.callB (CallAs.func ent66 rfl rfl) (Bors.cons (Bor.agg (Bors.cons (Bor.pure rfl) (Bors.cons (Bor.pure rfl) (Bors.cons (Bor.sl (fun _ => rfl)) Bors.nil)))) Bors.nil) rfl rfl (i_ValidMatrix_ok a0 a1 a2 r1 hf1)) hc2) rfl ?_
    refine zL (r := b false) rfl rfl rfl (LOp.eqb (LOp.not rfl rfl) rfl) ?_
    refine zM (r := b false) rfl rfl rfl rfl rfl ?_
    refine zL (r := agg [i64 a3, i64 a4, sl a5.length (a5.map f32)]) rfl rfl rfl (LOp.loadAgg agg26 siz26 rfl rfl rfl rfl) ?_
    refine ROps.d (r := b true) (fs := []) (Γ' := [⟨1, some [i64 0, i64 0, nilsl]⟩, ⟨0, none⟩, ⟨0, none⟩]) rfl rfl rfl (TOp.eqb (TOp.callB (CallAs.func ent66 rfl rfl) (Bors.cons (Bor.agg (Bors.cons (Bor.pure rfl) (Bors.cons (Bor.pure rfl) (Bors.cons (Bor.sl (fun _ => rfl)) Bors.nil)))) Bors.nil) rfl rfl (i_ValidMatrix_ok a3 a4 a5 r2 hf3)) hc4) rfl ?_
    refine zL (r := b false) rfl rfl rfl (LOp.eqb (LOp.not rfl rfl) rfl) ?_
    refine zL (r := b false) rfl rfl rfl (LOp.pick_false rfl rfl rfl) ?_
    refine zM (r := b false) rfl rfl rfl rfl rfl ?_
    refine zL (r := agg [i64 a0, i64 a1, sl a2.length (a2.map f32)]) rfl rfl rfl (LOp.loadAgg agg26 siz26 rfl rfl rfl rfl) ?_
    refine zM (r := i64 a6) rfl rfl rfl rfl rfl ?_
    refine zM (r := i64 a7) rfl rfl rfl rfl rfl ?_
    refine zL (r := ptr [i64 a3, i64 a4, sl a5.length (a5.map f32)]) rfl rfl rfl (LOp.fap und26 rfl siz2 rfl rfl rfl) ?_
    refine zL (r := i64 a3) rfl rfl rfl (LOp.load1 agg2 rfl rfl) ?_
    refine zL (r := ptr [i64 a4, sl a5.length (a5.map f32)]) rfl rfl rfl (LOp.fap und26 rfl siz2 rfl rfl rfl) ?_
    refine zL (r := i64 a4) rfl rfl rfl (LOp.load1 agg2 rfl rfl) ?_
    refine ROps.d (r := b false) (fs := []) (Γ' := [⟨1, some [i64 0, i64 0, nilsl]⟩, ⟨0, none⟩, ⟨0, none⟩]) rfl rfl rfl (TOp.eqb (TOp.callB (CallAs.func ent74 rfl rfl) (Bors.cons (Bor.agg (Bors.cons (Bor.pure rfl) (Bors.cons (Bor.pure rfl) (Bors.cons (Bor.sl (fun _ => rfl)) Bors.nil)))) (Bors.cons (Bor.pure rfl) (Bors.cons (Bor.pure rfl) (Bors.cons (Bor.pure rfl) (Bors.cons (Bor.pure rfl) Bors.nil))))) rfl rfl (i_Matrix_liesIn_ok a0 a1 a2 a6 a7 a3 a4 r3 hf5)) hc6) rfl ?_
    refine zL (r := b true) rfl rfl rfl (LOp.eqb (LOp.not rfl rfl) rfl) ?_
    refine zL (r := b true) rfl rfl rfl (LOp.pick_false rfl rfl rfl) ?_
    refine zN ?_
    refine RunC.wl (τ' := [(2, i64 a6), (3, i64 a7), (4, ptr [i64 a0, i64 a1, sl a2.length (a2.map f32)]), (5, ptr [i64 a3, i64 a4, sl a5.length (a5.map f32)]), (8, optr 0 1 0), (31, b true)]) (Γ' := [⟨1, some [i64 0, i64 0, nilsl]⟩, ⟨0, none⟩, ⟨0, none⟩]) ⟨aR, aR, aR, aR, aR, aR, trivial⟩ ⟨⟨rfl, .inr rfl⟩, ⟨rfl, .inr rfl⟩, ⟨rfl, .inr rfl⟩, trivial⟩ ?_
    refine RunC.cond_true rfl rfl ?_
    refine zQ ?_
    refine zL (r := agg [i64 0, i64 0, nilsl]) rfl rfl rfl (LOp.build (qs := []) zer26 zok26 und26 plc26 rfl trivial rfl) ?_
    refine ROps.store_le (r := agg [i64 0, i64 0, nilsl]) (l' := [i64 0, i64 0, nilsl]) (Γ' := [⟨1, some [i64 0, i64 0, nilsl]⟩, ⟨0, none⟩, ⟨0, none⟩]) rfl siz26 rfl rfl rfl aR rfl rfl rfl rfl (Nat.le_of_ble_eq_true rfl) rfl rfl ?_
    refine zA (r := b false) rfl rfl rfl rfl rfl ?_
    refine zN ?_
    refine RunC.nil_cell (l' := [i64 0, i64 0, oref 1 1 0 0]) (Γ' := [⟨1, some [i64 0, i64 0, oref 1 1 0 0]⟩, ⟨1, some (([] : List F).map f32)⟩, ⟨0, none⟩]) 0 2 1 rfl rfl rfl rfl rfl ?_
    refine RunC.ret ?_
    have hq := Option.some.inj h
    obtain ⟨hq0, hq⟩ := Prod.mk.inj hq
    obtain ⟨hq1, hq⟩ := Prod.mk.inj hq
    obtain ⟨hq2, hq⟩ := Prod.mk.inj hq
    subst q0
    subst q1
    subst q2
    subst q3
    exact bodyQ.mk (r' := tup [agg [i64 0, i64 0, oref 1 1 0 (([] : List F).length)], b false]) [(1, 1)] (.inr rfl) rfl (show List.Nodup [1] from by decide) rfl rfl (Res.eq (Res.two rfl (RV.cell agg26 siz26 rfl rfl rfl rfl) (RV.tmp rfl)) (by rw [(show ([] : List F).length = 0 from rfl)] <;> rfl)) (SelL.arr0 (f := f32) (fun _ => rfl) rfl trivial)
  ·refine RunC.regionW ?_
   refine zL (r := agg [i64 a0, i64 a1, sl a2.length (a2.map f32)]) rfl rfl rfl (LOp.loadAgg agg26 siz26 rfl rfl rfl rfl) ?_
   refine ROps.d (r := b true) (fs := []) (Γ' := [⟨1, some [i64 0, i64 0, nilsl]⟩, ⟨0, none⟩, ⟨0, none⟩]) rfl rfl rfl (TOp.eqb (TOp.callB (CallAs.func ent66 rfl rfl) (Bors.cons (Bor.agg (Bors.cons (Bor.pure rfl) (Bors.cons (Bor.pure rfl) (Bors.cons (Bor.sl (fun _ => rfl)) Bors.nil)))) Bors.nil) rfl rfl (i_ValidMatrix_ok a0 a1 a2 r1 hf1)) hc2) rfl ?_
   refine zL (r := b false) rfl rfl rfl (LOp.eqb (LOp.not rfl rfl) rfl) ?_
   refine zM (r := b false) rfl rfl rfl rfl rfl ?_
   refine zL (r := agg [i64 a3, i64 a4, sl a5.length (a5.map f32)]) rfl rfl rfl (LOp.loadAgg agg26 siz26 rfl rfl rfl rfl) ?_
   refine ROps.d (r := b false) (fs := []) (Γ' := [⟨1, some [i64 0, i64 0, nilsl]⟩, ⟨0, none⟩, ⟨0, none⟩]) rfl rfl rfl (TOp.eqb (TOp.callB (CallAs.func ent66 rfl rfl) (Bors.cons (Bor.agg (Bors.cons (Bor.pure rfl) (Bors.cons (Bor.pure rfl) (Bors.cons (Bor.sl (fun _ => rfl)) Bors.nil)))) Bors.nil) rfl rfl (i_ValidMatrix_ok a3 a4 a5 r2 hf3)) hc4) rfl ?_
   refine zL (r := b true) rfl rfl rfl (LOp.eqb (LOp.not rfl rfl) rfl) ?_
   refine zL (r := b true) rfl rfl rfl (LOp.pick_false rfl rfl rfl) ?_
   refine zM (r := b true) rfl rfl rfl rfl rfl ?_
   iterate 9 (refine ROps.s rfl rfl rfl ?_)
   refine zL (r := b true) rfl rfl rfl (LOp.pick_true rfl rfl rfl) ?_
   refine zN ?_
   refine RunC.wl (τ' := [(2, i64 a6), (3, i64 a7), (4, ptr [i64 a0, i64 a1, sl a2.length (a2.map f32)]), (5, ptr [i64 a3, i64 a4, sl a5.length (a5.map f32)]), (8, optr 0 1 0), (31, b true)]) (Γ' := [⟨1, some [i64 0, i64 0, nilsl]⟩, ⟨0, none⟩, ⟨0, none⟩]) ⟨aR, aR, aR, aR, aR, aR, trivial⟩ ⟨⟨rfl, .inr rfl⟩, ⟨rfl, .inr rfl⟩, ⟨rfl, .inr rfl⟩, trivial⟩ ?_
   refine RunC.cond_true rfl rfl ?_
   refine zQ ?_
   refine zL (r := agg [i64 0, i64 0, nilsl]) rfl rfl rfl (LOp.build (qs := []) zer26 zok26 und26 plc26 rfl trivial rfl) ?_
   refine ROps.store_le (r := agg [i64 0, i64 0, nilsl]) (l' := [i64 0, i64 0, nilsl]) (Γ' := [⟨1, some [i64 0, i64 0, nilsl]⟩, ⟨0, none⟩, ⟨0, none⟩]) rfl siz26 rfl rfl rfl aR rfl rfl rfl rfl (Nat.le_of_ble_eq_true rfl) rfl rfl ?_
   refine zA (r := b false) rfl rfl rfl rfl rfl ?_
   refine zN ?_
   refine RunC.nil_cell (l' := [i64 0, i64 0, oref 1 1 0 0]) (Γ' := [⟨1, some [i64 0, i64 0, oref 1 1 0 0]⟩, ⟨1, some (([] : List F).map f32)⟩, ⟨0, none⟩]) 0 2 1 rfl rfl rfl rfl rfl ?_
   refine RunC.ret ?_
   have hq := Option.some.inj h
   obtain ⟨hq0, hq⟩ := Prod.mk.inj hq
   obtain ⟨hq1, hq⟩ := Prod.mk.inj hq
   obtain ⟨hq2, hq⟩ := Prod.mk.inj hq
   subst q0
   subst q1
   subst q2
   subst q3
   exact bodyQ.mk (r' := tup [agg [i64 0, i64 0, oref 1 1 0 (([] : List F).length)], b false]) [(1, 1)] (.inr rfl) rfl (show List.Nodup [1] from by decide) rfl rfl (Res.eq (Res.two rfl (RV.cell agg26 siz26 rfl rfl rfl rfl) (RV.tmp rfl)) (by rw [(show ([] : List F).length = 0 from rfl)] <;> rfl)) (SelL.arr0 (f := f32) (fun _ => rfl) rfl trivial)
 ·refine RunC.regionW ?_
  refine zL (r := agg [i64 a0, i64 a1, sl a2.length (a2.map f32)]) rfl rfl rfl (LOp.loadAgg agg26 siz26 rfl rfl rfl rfl) ?_
  refine ROps.d (r := b false) (fs := []) (Γ' := [⟨1, some [i64 0, i64 0, nilsl]⟩, ⟨0, none⟩, ⟨0, none⟩]) rfl rfl rfl (TOp.eqb (TOp.callB (CallAs.func ent66 rfl rfl) (Bors.cons (Bor.agg (Bors.cons (Bor.pure rfl) (Bors.cons (Bor.pure rfl) (Bors.cons (Bor.sl (fun _ => rfl)) Bors.nil)))) Bors.nil) rfl rfl (i_ValidMatrix_ok a0 a1 a2 r1 hf1)) hc2) rfl ?_
  refine zL (r := b true) rfl rfl rfl (LOp.eqb (LOp.not rfl rfl) rfl) ?_
  refine zM (r := b true) rfl rfl rfl rfl rfl ?_
  iterate 3 (refine ROps.s rfl rfl rfl ?_)
  refine zL (r := b true) rfl rfl rfl (LOp.pick_true rfl rfl rfl) ?_
  refine zM (r := b true) rfl rfl rfl rfl rfl ?_
  iterate 9 (refine ROps.s rfl rfl rfl ?_)
  refine zL (r := b true) rfl rfl rfl (LOp.pick_true rfl rfl rfl) ?_
  refine zN ?_
  refine RunC.wl (τ' := [(2, i64 a6), (3, i64 a7), (4, ptr [i64 a0, i64 a1, sl a2.length (a2.map f32)]), (5, ptr [i64 a3, i64 a4, sl a5.length (a5.map f32)]), (8, optr 0 1 0), (31, b true)]) (Γ' := [⟨1, some [i64 0, i64 0, nilsl]⟩, ⟨0, none⟩, ⟨0, none⟩]) ⟨aR, aR, aR, aR, aR, aR, trivial⟩ ⟨⟨rfl, .inr rfl⟩, ⟨rfl, .inr rfl⟩, ⟨rfl, .inr rfl⟩, trivial⟩ ?_
  refine RunC.cond_true rfl rfl ?_
  refine zQ ?_
  refine zL (r := agg [i64 0, i64 0, nilsl]) rfl rfl rfl (LOp.build (qs := []) zer26 zok26 und26 plc26 rfl trivial rfl) ?_
  refine ROps.store_le (r := agg [i64 0, i64 0, nilsl]) (l' := [i64 0, i64 0, nilsl]) (Γ' := [⟨1, some [i64 0, i64 0, nilsl]⟩, ⟨0, none⟩, ⟨0, none⟩]) rfl siz26 rfl rfl rfl aR rfl rfl rfl rfl (Nat.le_of_ble_eq_true rfl) rfl rfl ?_
  refine zA (r := b false) rfl rfl rfl rfl rfl ?_
  refine zN ?_
  refine RunC.nil_cell (l' := [i64 0, i64 0, oref 1 1 0 0]) (Γ' := [⟨1, some [i64 0, i64 0, oref 1 1 0 0]⟩, ⟨1, some (([] : List F).map f32)⟩, ⟨0, none⟩]) 0 2 1 rfl rfl rfl rfl rfl ?_
  refine RunC.ret ?_
  have hq := Option.some.inj h
  obtain ⟨hq0, hq⟩ := Prod.mk.inj hq
  obtain ⟨hq1, hq⟩ := Prod.mk.inj hq
  obtain ⟨hq2, hq⟩ := Prod.mk.inj hq
  subst q0
  subst q1
  subst q2
  subst q3
  exact bodyQ.mk (r' := tup [agg [i64 0, i64 0, oref 1 1 0 (([] : List F).length)], b false]) [(1, 1)] (.inr rfl) rfl (show List.Nodup [1] from by decide) rfl rfl (Res.eq (Res.two rfl (RV.cell agg26 siz26 rfl rfl rfl rfl) (RV.tmp rfl)) (by rw [(show ([] : List F).length = 0 from rfl)] <;> rfl)) (SelL.arr0 (f := f32) (fun _ => rfl) rfl trivial)
noncomputable def i_weigh_1 (a0 : Int) (a1 : Int) (a2 : F) (a3 : Int) (a4 : Int) (a5 : List F) (a6 : F) (a7 : Int) (a8 : Int) (a9 : List F) : Option (F) :=
 obind (i_Matrix_at a3 a4 a5 a0 a1) fun (r1 : F) =>
 obind (i_mul a2 r1) fun (r2 : F) =>
 obind (i_Matrix_at a7 a8 a9 a0 a1) fun (r3 : F) =>
 obind (i_mul a6 r3) fun (r4 : F) =>
 olet (fop .add .f32 r2 r4) fun (x5 : F) =>
 some x5
theorem i_weigh_1_ok (a0 : Int) (a1 : Int) (a2 : F) (a3 : Int) (a4 : Int) (a5 : List F) (a6 : F) (a7 : Int) (a8 : Int) (a9 : List F) (q0 : F) (h : i_weigh_1 a0 a1 a2 a3 a4 a5 a6 a7 a8 a9 = some q0) : Ev Try.prog 134 [i64 a0, i64 a1, ptr [f32 a2], ptr [i64 a3, i64 a4, sl a5.length (a5.map f32)], ptr [f32 a6], ptr [i64 a7, i64 a8, sl a9.length (a9.map f32)]] [] (f32 q0) [] := by
 refine Ev.start Try.func134 rfl rfl 0 (τ := [(0, i64 a0), (1, i64 a1), (2, ptr [f32 a2]), (3, ptr [i64 a3, i64 a4, sl a5.length (a5.map f32)]), (4, ptr [f32 a6]), (5, ptr [i64 a7, i64 a8, sl a9.length (a9.map f32)])]) rfl (Γ' := []) rfl (n := 45) rfl (g := 0) rfl (fun _ => rfl) ?_
 unfold i_weigh_1 at h
 refine zQ ?_
 refine zL (r := f32 (some 0)) rfl rfl rfl (LOp.le (LOp.assign rfl rfl) (ALe.fl (by kernel_rfl) (by kernel_rfl))) ?_
 refine zN ?_
 refine RunC.seq ?_
 obtain ⟨r1, hf1, h⟩ := obind_some h
 obtain ⟨r2, hf2, h⟩ := obind_some h
 obtain ⟨r3, hf3, h⟩ := obind_some h
 obtain ⟨r4, hf4, h⟩ := obind_some h
 obtain ⟨x5, hx5, h⟩ := olet_some h
 refine RunC.region_draw (Γ' := []) 14 mixed 
  (TR.l (r := f32 a2) rfl rfl (LOp.load1 agg36 rfl rfl) <|
  (TR.l (r := agg [i64 a3, i64 a4, sl a5.length (a5.map f32)]) rfl rfl (LOp.loadAgg agg26 siz26 rfl rfl rfl rfl) <|
  (TR.l (r := i64 a0) rfl rfl (LOp.move rfl rfl) <|
  (TR.l (r := i64 a1) rfl rfl (LOp.move rfl rfl) <|
  (TR.d (r := f32 r1) (fs := []) rfl rfl (TOp.callB (CallAs.func ent76 rfl rfl) (Bors.cons (Bor.agg (Bors.cons (Bor.pure rfl) (Bors.cons (Bor.pure rfl) (Bors.cons (Bor.sl (fun _ => rfl)) Bors.nil)))) (Bors.cons (Bor.pure rfl) (Bors.cons (Bor.pure rfl) Bors.nil))) rfl rfl (i_Matrix_at_ok a3 a4 a5 a0 a1 r1 hf1)) <|
  (TR.d (r := f32 r2) (fs := []) rfl rfl (TOp.callB (CallAs.func ent109 rfl rfl) (Bors.cons (Bor.pure rfl) (Bors.cons (Bor.pure rfl) Bors.nil)) rfl rfl (i_mul_ok a2 r1 r2 hf2)) <|
  (TR.l (r := f32 a6) rfl rfl (LOp.load1 agg36 rfl rfl) <|
  (TR.l (r := agg [i64 a7, i64 a8, sl a9.length (a9.map f32)]) rfl rfl (LOp.loadAgg agg26 siz26 rfl rfl rfl rfl) <|
  (TR.l (r := i64 a0) rfl rfl (LOp.move rfl rfl) <|
  (TR.l (r := i64 a1) rfl rfl (LOp.move rfl rfl) <|
  (TR.d (r := f32 r3) (fs := []) rfl rfl (TOp.callB (CallAs.func ent76 rfl rfl) (Bors.cons (Bor.agg (Bors.cons (Bor.pure rfl) (Bors.cons (Bor.pure rfl) (Bors.cons (Bor.sl (fun _ => rfl)) Bors.nil)))) (Bors.cons (Bor.pure rfl) (Bors.cons (Bor.pure rfl) Bors.nil))) rfl rfl (i_Matrix_at_ok a7 a8 a9 a0 a1 r3 hf3)) <|
  (TR.d (r := f32 r4) (fs := []) rfl rfl (TOp.callB (CallAs.func ent109 rfl rfl) (Bors.cons (Bor.pure rfl) (Bors.cons (Bor.pure rfl) Bors.nil)) rfl rfl (i_mul_ok a6 r3 r4 hf4)) <|
  (TR.d (r := f32 x5) (fs := []) rfl rfl (TOp.eqr (TOp.fop (.inl rfl) rfl (OpF.tmp rfl) (OpF.tmp rfl)) (congrArg (f .f32) hx5)) <|
  (TR.l (r := f32 x5) rfl rfl (LOp.assign rfl rfl) <|
  TR.nil)))))))))))))) rfl (by kernel_rfl) rfl fills_nil rfl ?_
 iterate 14 refine ROps.dropS ?_
 refine ROps.drop0 ?_
 refine zN ?_
 refine RunC.ret ?_
 have hq := Option.some.inj h
 subst q0
 exact bodyQ.pure (.inr rfl) rfl (Res.one rfl (RV.tmp rfl))
end Go.Proofs.Ytcjbfpoaidjpaaa
