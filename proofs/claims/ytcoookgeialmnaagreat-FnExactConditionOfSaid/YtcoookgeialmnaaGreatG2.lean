/- Generated. -/
import Derived.Test.YtcoookgeialmnaaGreatG1
namespace Go.Proofs.YtcoookgeialmnaaGreat
open Go Go.AM Go.AM.AV
set_option maxRecDepth 20000
set_option maxHeartbeats 4000000
set_option linter.unusedVariables false
set_option linter.unusedSimpArgs false
noncomputable def i_isPermutation_b1 (r2 : List Int) (v3 : Int) : Option (LR (Int) (Unit) (Bool)) :=
 bsel (decide (v3 < ((r2.length : Nat) : Int))) (
  obind (at? r2 v3) fun (e4 : Int) =>
  bsel (!decide (e4 = v3)) (
   some (LR.ret false)) (
   olet (IntKind.i64.wrap (v3 + 1)) fun (x5 : Int) =>
   some (LR.next x5))) (
  some (LR.out ()))
noncomputable def i_isPermutation_s1 (r2 : List Int) : (Int) → Option (LR (Int) (Unit) (Bool)) := fun s => i_isPermutation_b1 r2 s
noncomputable def i_isPermutation_k1  : Option (Bool) :=
 some true
noncomputable def i_isPermutation (a0 : List Int) : Option (Bool) :=
 obind (x_slices_Values_int64_int64 a0) fun (r1 : List Int) =>
 obind (x_slices_Sorted_int64_0Fx_slices_Values_int64_int64_1 r1) fun (r2 : List Int) =>
 obind (loopM (i_isPermutation_s1 r2) 0) fun z => osum z (fun _ => i_isPermutation_k1) (fun r => some r)
theorem i_isPermutation_ok (a0 : List Int) (q0 : Bool) (h : i_isPermutation a0 = some q0) : Ev Tryz.prog 142 [sl a0.length (a0.map i64)] [] (b q0) [] := by
 refine Ev.start Tryz.func142 rfl rfl 1 (τ := [(0, sl a0.length (a0.map i64))]) rfl (Γ' := [⟨0, none⟩]) rfl (n := 37) rfl (g := 0) rfl (fun _ => rfl) ?_
 unfold i_isPermutation at h
 refine zQ ?_
 refine zA (r := b false) rfl rfl rfl rfl rfl ?_
 refine zN ?_
 refine RunC.seq ?_
 refine RunC.seq ?_
 obtain ⟨r1, hf1, h⟩ := obind_some h
 obtain ⟨r2, hf2, h⟩ := obind_some h
 refine RunC.regionW ?_
 refine zM (r := sl a0.length (a0.map i64)) rfl rfl rfl rfl rfl ?_
 refine ROps.d (r := fn (.func 151) [] [ptr [sl r1.length (r1.map i64)]]) (fs := []) (Γ' := [⟨0, none⟩]) rfl rfl rfl (TOp.call (CallAs.func ent149 rfl rfl) (lts_cons (lt_sl (fun _ => rfl)) lts_nil) (lt_fn lts_nil (lts_cons (lt_ptr (lts_cons (lt_sl (fun _ => rfl)) lts_nil)) lts_nil)) (x_slices_Values_int64_int64_ok a0 r1 hf1)) rfl ?_
 refine ROps.d (r := oref 0 1 0 r2.length) (fs := [(0, (r2.map i64))]) (Γ' := [⟨1, some (r2.map i64)⟩]) rfl rfl rfl (TOp.callBN (ls := [(r2.map i64)]) [0] (CallAs.func ent148 rfl rfl) (Bors.cons (Bor.fn Bors.nil (Bors.cons (Bor.ptr (Bors.cons (Bor.sl (fun _ => rfl)) Bors.nil)) Bors.nil)) Bors.nil) rfl (x_slices_Sorted_int64_0Fx_slices_Values_int64_int64_1_ok r1 r2 hf2) (and_all (lts0_map (f := i64) (fun _ => rfl) _) rfl) (and_all (noss_map (f := i64) (fun _ => rfl) _) rfl) rfl (by decide) (ns_of ⟨⟨_, rfl⟩, trivial⟩)) rfl ?_
 refine zL (r := i64 ((r2.length : Nat) : Int)) rfl rfl rfl (LOp.len_oref und53 rfl rfl) ?_
 refine zM (r := i64 0) rfl rfl rfl rfl rfl ?_
 refine zN ?_
 obtain ⟨z2, hz_2, h⟩ := obind_some h
 refine RunC.cutN (fun τ Γ => WeakLe τ [] ∧ DeadLe Γ [⟨1, none⟩] ∧ z2 = .inl ()) ?_ ?_
 ·refine RunC.block (RunC.loop (RunL.loopM (x := z2) (i_isPermutation_s1 r2) (fun (s : Int) τ Γ => WeakLe τ [(7, oref 0 1 0 r2.length), (8, i64 ((r2.length : Nat) : Int)), (9, i64 s)] ∧ DeadLe Γ [⟨1, some (r2.map i64)⟩]) ?_ _ _ _ hz_2 ⟨⟨aR, aR, aR, trivial⟩, ⟨⟨rfl, .inr rfl⟩, trivial⟩⟩))
  rintro v3 τ2 Γ2 y2_ ⟨hw2, hd2⟩ h2_ ho2 hr2
  refine RunC.wl (τ' := [(7, oref 0 1 0 r2.length), (8, i64 ((r2.length : Nat) : Int)), (9, i64 v3)]) (Γ' := [⟨1, some (r2.map i64)⟩]) hw2 hd2 ?_
  replace h2_ : i_isPermutation_b1 r2 v3 = some y2_ := h2_
  unfold i_isPermutation_b1 at h2_
  refine RunC.seq ?_
  rcases bsel_some h2_ with ⟨hc3, h2_⟩ | ⟨hc3, h2_⟩
  ·refine RunC.regionW ?_
   refine zL (r := b true) rfl rfl rfl (LOp.eqb (LOp.lss rfl rfl rfl) hc3) ?_
   refine zN ?_
   refine RunC.seq ?_
   refine RunC.cond_true rfl rfl ?_
   refine RunC.skip ?_
   refine RunC.seq ?_
   refine RunC.block ?_
   refine RunC.seq ?_
   obtain ⟨e4, he4, h2_⟩ := obind_some h2_
   refine RunC.regionW ?_
   refine zM (r := i64 v3) rfl rfl rfl rfl rfl ?_
   refine ROps.d (r := optr 0 1 v3.toNat) (fs := []) (Γ' := [⟨1, some (r2.map i64)⟩]) rfl rfl rfl (TOp.ixo und53 siz2 rfl rfl rfl (at_in he4 rfl) rfl) rfl ?_
   refine ROps.d (r := i64 e4) (fs := []) (Γ' := [⟨1, some (r2.map i64)⟩]) rfl rfl rfl (TOp.load1_o rfl (at_cell he4) agg2 rfl rfl) rfl ?_
   refine zA (r := i64 v3) rfl rfl rfl rfl rfl ?_
   refine zA (r := i64 e4) rfl rfl rfl rfl rfl ?_
   refine zN ?_
   refine RunC.seq ?_
   rcases bsel_some h2_ with ⟨hc5, h2_⟩ | ⟨hc5, h2_⟩
   ·refine RunC.regionW ?_
    refine zM (r := i64 e4) rfl rfl rfl rfl rfl ?_
    refine zM (r := i64 v3) rfl rfl rfl rfl rfl ?_
    refine zL (r := b true) rfl rfl rfl (LOp.eqb (LOp.neq rfl rfl rfl) hc5) ?_
    refine zN ?_
    refine RunC.cond_true rfl rfl ?_
    refine zQ ?_
    refine zA (r := b false) rfl rfl rfl rfl rfl ?_
    refine zN ?_
    refine RunC.ret ?_
    cases Option.some.inj h2_
    have hx3_ := hr2 _ rfl
    subst hx3_
    have hq := Option.some.inj h
    subst q0
    exact bodyQ.pure (.inr rfl) rfl (Res.one rfl (RV.tmp rfl))
   ·refine RunC.regionW ?_
    refine zM (r := i64 e4) rfl rfl rfl rfl rfl ?_
    refine zM (r := i64 v3) rfl rfl rfl rfl rfl ?_
    refine zL (r := b false) rfl rfl rfl (LOp.eqb (LOp.neq rfl rfl rfl) hc5) ?_
    refine zN ?_
    refine RunC.cond_false rfl rfl ?_
    refine RunC.skip ?_
    obtain ⟨x5, hx6, h2_⟩ := olet_some h2_
    refine RunC.regionW ?_
    refine zL (r := i64 x5) rfl rfl rfl (LOp.eqr (LOp.add rfl rfl rfl) (congrArg (ik .i64) hx6)) ?_
    refine zM (r := i64 x5) rfl rfl rfl rfl rfl ?_
    refine zN ?_
    cases Option.some.inj h2_
    exact ⟨_, rfl, ⟨aR, aR, aR, trivial⟩, ⟨⟨rfl, .inr rfl⟩, trivial⟩⟩
  ·refine RunC.regionW ?_
   refine zL (r := b false) rfl rfl rfl (LOp.eqb (LOp.lss rfl rfl rfl) hc3) ?_
   refine zN ?_
   refine RunC.seq ?_
   refine RunC.cond_false rfl rfl ?_
   refine RunC.exit ?_
   cases Option.some.inj h2_
   have hx := ho2 _ rfl
   exact ⟨trivial, ⟨⟨rfl, .inl rfl⟩, trivial⟩, hx⟩
 ·rintro τ4 Γ4 ⟨hw4, hd4, rfl⟩
  refine RunC.wl hw4 hd4 ?_
  replace h : i_isPermutation_k1 = some q0 := h
  unfold i_isPermutation_k1 at h
  refine zQ ?_
  refine zA (r := b true) rfl rfl rfl rfl rfl ?_
  refine zN ?_
  refine RunC.ret ?_
  have hq := Option.some.inj h
  subst q0
  exact bodyQ.pure (.inr rfl) rfl (Res.one rfl (RV.tmp rfl))
noncomputable def i_IsOrder (a0 : List Int) : Option (Bool) :=
 obind (i_length_int64 a0) fun (r1 : Int) =>
 obind (i_isSide r1) fun (r2 : Bool) =>
 bsel r2 (
  obind (i_isPermutation a0) fun (r3 : Bool) =>
  some r3) (
  some false)
theorem i_IsOrder_ok (a0 : List Int) (q0 : Bool) (h : i_IsOrder a0 = some q0) : Ev Tryz.prog 123 [sl a0.length (a0.map i64)] [] (b q0) [] := by
 refine Ev.start Tryz.func123 rfl rfl 0 (τ := [(0, sl a0.length (a0.map i64))]) rfl (Γ' := []) rfl (n := 21) rfl (g := 0) rfl (fun _ => rfl) ?_
 unfold i_IsOrder at h
 refine zQ ?_
 refine zA (r := b false) rfl rfl rfl rfl rfl ?_
 refine zN ?_
 refine RunC.seq ?_
 obtain ⟨r1, hf1, h⟩ := obind_some h
 obtain ⟨r2, hf2, h⟩ := obind_some h
 rcases bsel_some h with ⟨hc3, h⟩ | ⟨hc3, h⟩
 ·obtain ⟨r3, hf4, h⟩ := obind_some h
  refine RunC.regionW ?_
  refine zM (r := sl a0.length (a0.map i64)) rfl rfl rfl rfl rfl ?_
  refine ROps.d (r := i64 r1) (fs := []) (Γ' := []) rfl rfl rfl (TOp.callB (CallAs.func ent124 rfl rfl) (Bors.cons (Bor.sl (fun _ => rfl)) Bors.nil) rfl rfl (i_length_int64_ok a0 r1 hf1)) rfl ?_
  refine ROps.d (r := b true) (fs := []) (Γ' := []) rfl rfl rfl (TOp.eqb (TOp.callB (CallAs.func ent102 rfl rfl) (Bors.cons (Bor.pure rfl) Bors.nil) rfl rfl (i_isSide_ok r1 r2 hf2)) hc3) rfl ?_
  refine zM (r := b true) rfl rfl rfl rfl rfl ?_
  refine zM (r := sl a0.length (a0.map i64)) rfl rfl rfl rfl rfl ?_
  refine ROps.d (r := b r3) (fs := []) (Γ' := []) rfl rfl rfl (TOp.callB (CallAs.func ent142 rfl rfl) (Bors.cons (Bor.sl (fun _ => rfl)) Bors.nil) rfl rfl (i_isPermutation_ok a0 r3 hf4)) rfl ?_
  refine zL (r := b r3) rfl rfl rfl (LOp.pick_true rfl rfl rfl) ?_
  refine zA (r := b r3) rfl rfl rfl rfl rfl ?_
  refine zN ?_
  refine RunC.ret ?_
  have hq := Option.some.inj h
  subst q0
  exact bodyQ.pure (.inr rfl) rfl (Res.one rfl (RV.tmp rfl))
 ·refine RunC.regionW ?_
  refine zM (r := sl a0.length (a0.map i64)) rfl rfl rfl rfl rfl ?_
  refine ROps.d (r := i64 r1) (fs := []) (Γ' := []) rfl rfl rfl (TOp.callB (CallAs.func ent124 rfl rfl) (Bors.cons (Bor.sl (fun _ => rfl)) Bors.nil) rfl rfl (i_length_int64_ok a0 r1 hf1)) rfl ?_
  refine ROps.d (r := b false) (fs := []) (Γ' := []) rfl rfl rfl (TOp.eqb (TOp.callB (CallAs.func ent102 rfl rfl) (Bors.cons (Bor.pure rfl) Bors.nil) rfl rfl (i_isSide_ok r1 r2 hf2)) hc3) rfl ?_
  refine zM (r := b false) rfl rfl rfl rfl rfl ?_
  refine ROps.s rfl rfl rfl ?_
  refine ROps.s rfl rfl rfl ?_
  refine zL (r := b false) rfl rfl rfl (LOp.pick_false rfl rfl rfl) ?_
  refine zA (r := b false) rfl rfl rfl rfl rfl ?_
  refine zN ?_
  refine RunC.ret ?_
  have hq := Option.some.inj h
  subst q0
  exact bodyQ.pure (.inr rfl) rfl (Res.one rfl (RV.tmp rfl))
noncomputable def i_ValidFactor (a0 : Int) (a1 : Int) (a2 : List F) (a3 : List Int) : Option (Bool) :=
 obind (i_isSquare a0 a1 a2) fun (r1 : Bool) =>
 bsel r1 (
  obind (i_Matrix_middle a0 a1 a2) fun (r2 : List F) =>
  obind (x_slices_Contains_float32_float32 r2 (some 0)) fun (r3 : Bool) =>
  bsel r3 (
   some false) (
   obind (i_IsOrder a3) fun (r4 : Bool) =>
   bsel r4 (
    obind (i_length_int64 a3) fun (r5 : Int) =>
    some (decide (r5 = a0))) (
    some false))) (
  some false)
theorem i_ValidFactor_ok (a0 : Int) (a1 : Int) (a2 : List F) (a3 : List Int) (q0 : Bool) (h : i_ValidFactor a0 a1 a2 a3 = some q0) : Ev Tryz.prog 87 [agg [i64 a0, i64 a1, sl a2.length (a2.map f32), sl a3.length (a3.map i64)]] [] (b q0) [] := by
 refine Ev.start Tryz.func87 rfl rfl 0 (τ := [(0, agg [i64 a0, i64 a1, sl a2.length (a2.map f32), sl a3.length (a3.map i64)])]) rfl (Γ' := []) rfl (n := 55) rfl (g := 0) rfl (fun _ => rfl) ?_
 unfold i_ValidFactor at h
 refine zQ ?_
 refine ROps.d (r := ptr [i64 a0, i64 a1, sl a2.length (a2.map f32), sl a3.length (a3.map i64)]) (fs := []) (Γ' := []) rfl rfl rfl (TOp.box_s rfl rfl rfl) rfl ?_
 refine zA (r := b false) rfl rfl rfl rfl rfl ?_
 refine zN ?_
 refine RunC.seq ?_
 obtain ⟨r1, hf1, h⟩ := obind_some h
 rcases bsel_some h with ⟨hc2, h⟩ | ⟨hc2, h⟩
 ·obtain ⟨r2, hf3, h⟩ := obind_some h
  obtain ⟨r3, hf4, h⟩ := obind_some h
  rcases bsel_some h with ⟨hc5, h⟩ | ⟨hc5, h⟩
  ·refine RunC.region_draw (Γ' := []) 25 mixed 
    (TR.l (r := ptr [i64 a0, i64 a1, sl a2.length (a2.map f32), sl a3.length (a3.map i64)]) rfl rfl (LOp.fap und65 rfl siz26 rfl rfl rfl) <|
    (TR.l (r := agg [i64 a0, i64 a1, sl a2.length (a2.map f32)]) rfl rfl (LOp.loadAgg agg26 siz26 rfl rfl rfl rfl) <|
    (TR.d (r := b true) (fs := []) rfl rfl (TOp.eqb (TOp.callB (CallAs.func ent82 rfl rfl) (Bors.cons (Bor.agg (Bors.cons (Bor.pure rfl) (Bors.cons (Bor.pure rfl) (Bors.cons (Bor.sl (fun _ => rfl)) Bors.nil)))) Bors.nil) rfl rfl (i_isSquare_ok a0 a1 a2 r1 hf1)) hc2) <|
    (TR.l (r := b true) rfl rfl (LOp.move rfl rfl) <|
    (TR.l (r := ptr [i64 a0, i64 a1, sl a2.length (a2.map f32), sl a3.length (a3.map i64)]) rfl rfl (LOp.fap und65 rfl siz26 rfl rfl rfl) <|
    (TR.l (r := agg [i64 a0, i64 a1, sl a2.length (a2.map f32)]) rfl rfl (LOp.loadAgg agg26 siz26 rfl rfl rfl rfl) <|
    (TR.d (r := sl r2.length (r2.map f32)) (fs := []) rfl rfl (TOp.callS (CallAs.func ent122 rfl rfl) (ALes.cons aR ALes.nil) (lts_cons (lt_agg (lts_cons rfl (lts_cons rfl (lts_cons (lt_sl (fun _ => rfl)) lts_nil)))) lts_nil) (lt_sl (fun _ => rfl)) (i_Matrix_middle_ok a0 a1 a2 r2 hf3) (Bor.own (f := f32) (fun _ => rfl) rfl rfl)) <|
    (TR.d (r := b true) (fs := []) rfl rfl (TOp.eqb (TOp.callB (CallAs.func ent121 rfl rfl) (Bors.cons (Bor.sl (fun _ => rfl)) (Bors.cons (Bor.le (ALe.fl (by kernel_rfl) (by kernel_rfl)) (Bor.pure rfl)) Bors.nil)) rfl rfl (x_slices_Contains_float32_float32_ok r2 (some 0) r3 hf4)) hc5) <|
    (TR.l (r := b false) rfl rfl (LOp.eqb (LOp.not rfl rfl) rfl) <|
    (TR.l (r := b false) rfl rfl (LOp.pick_true rfl rfl rfl) <|
    (TR.l (r := b false) rfl rfl (LOp.move rfl rfl) <|
    (TR.s rfl rfl <|
    (TR.s rfl rfl <|
    (TR.s rfl rfl <|
    (TR.l (r := b false) rfl rfl (LOp.pick_false rfl rfl rfl) <|
    (TR.l (r := b false) rfl rfl (LOp.move rfl rfl) <|
    (TR.s rfl rfl <|
    (TR.s rfl rfl <|
    (TR.s rfl rfl <|
    (TR.s rfl rfl <|
    (TR.s rfl rfl <|
    (TR.s rfl rfl <|
    (TR.s rfl rfl <|
    (TR.l (r := b false) rfl rfl (LOp.pick_false rfl rfl rfl) <|
    (TR.l (r := b false) rfl rfl (LOp.assign rfl rfl) <|
    TR.nil))))))))))))))))))))))))) rfl (by kernel_rfl) rfl fills_nil rfl ?_
   iterate 25 refine ROps.dropS ?_
   refine ROps.drop0 ?_
   refine zN ?_
   refine RunC.ret ?_
   have hq := Option.some.inj h
   subst q0
   exact bodyQ.pure (.inr rfl) rfl (Res.one rfl (RV.tmp rfl))
  ·obtain ⟨r4, hf6, h⟩ := obind_some h
   rcases bsel_some h with ⟨hc7, h⟩ | ⟨hc7, h⟩
   ·obtain ⟨r5, hf8, h⟩ := obind_some h
    refine RunC.region_draw (Γ' := []) 25 mixed 
     (TR.l (r := ptr [i64 a0, i64 a1, sl a2.length (a2.map f32), sl a3.length (a3.map i64)]) rfl rfl (LOp.fap und65 rfl siz26 rfl rfl rfl) <|
     (TR.l (r := agg [i64 a0, i64 a1, sl a2.length (a2.map f32)]) rfl rfl (LOp.loadAgg agg26 siz26 rfl rfl rfl rfl) <|
     (TR.d (r := b true) (fs := []) rfl rfl (TOp.eqb (TOp.callB (CallAs.func ent82 rfl rfl) (Bors.cons (Bor.agg (Bors.cons (Bor.pure rfl) (Bors.cons (Bor.pure rfl) (Bors.cons (Bor.sl (fun _ => rfl)) Bors.nil)))) Bors.nil) rfl rfl (i_isSquare_ok a0 a1 a2 r1 hf1)) hc2) <|
     (TR.l (r := b true) rfl rfl (LOp.move rfl rfl) <|
     (TR.l (r := ptr [i64 a0, i64 a1, sl a2.length (a2.map f32), sl a3.length (a3.map i64)]) rfl rfl (LOp.fap und65 rfl siz26 rfl rfl rfl) <|
     (TR.l (r := agg [i64 a0, i64 a1, sl a2.length (a2.map f32)]) rfl rfl (LOp.loadAgg agg26 siz26 rfl rfl rfl rfl) <|
     (TR.d (r := sl r2.length (r2.map f32)) (fs := []) rfl rfl (TOp.callS (CallAs.func ent122 rfl rfl) (ALes.cons aR ALes.nil) (lts_cons (lt_agg (lts_cons rfl (lts_cons rfl (lts_cons (lt_sl (fun _ => rfl)) lts_nil)))) lts_nil) (lt_sl (fun _ => rfl)) (i_Matrix_middle_ok a0 a1 a2 r2 hf3) (Bor.own (f := f32) (fun _ => rfl) rfl rfl)) <|
     (TR.d (r := b false) (fs := []) rfl rfl (TOp.eqb (TOp.callB (CallAs.func ent121 rfl rfl) (Bors.cons (Bor.sl (fun _ => rfl)) (Bors.cons (Bor.le (ALe.fl (by kernel_rfl) (by kernel_rfl)) (Bor.pure rfl)) Bors.nil)) rfl rfl (x_slices_Contains_float32_float32_ok r2 (some 0) r3 hf4)) hc5) <|
     (TR.l (r := b true) rfl rfl (LOp.eqb (LOp.not rfl rfl) rfl) <|
     (TR.l (r := b true) rfl rfl (LOp.pick_true rfl rfl rfl) <|
     (TR.l (r := b true) rfl rfl (LOp.move rfl rfl) <|
     (TR.l (r := ptr [sl a3.length (a3.map i64)]) rfl rfl (LOp.fap und65 rfl siz53 rfl rfl rfl) <|
     (TR.l (r := sl a3.length (a3.map i64)) rfl rfl (LOp.load1 agg53 rfl rfl) <|
     (TR.d (r := b true) (fs := []) rfl rfl (TOp.eqb (TOp.callB (CallAs.func ent123 rfl rfl) (Bors.cons (Bor.sl (fun _ => rfl)) Bors.nil) rfl rfl (i_IsOrder_ok a3 r4 hf6)) hc7) <|
     (TR.l (r := b true) rfl rfl (LOp.pick_true rfl rfl rfl) <|
     (TR.l (r := b true) rfl rfl (LOp.move rfl rfl) <|
     (TR.l (r := ptr [sl a3.length (a3.map i64)]) rfl rfl (LOp.fap und65 rfl siz53 rfl rfl rfl) <|
     (TR.l (r := sl a3.length (a3.map i64)) rfl rfl (LOp.load1 agg53 rfl rfl) <|
     (TR.d (r := i64 r5) (fs := []) rfl rfl (TOp.callB (CallAs.func ent124 rfl rfl) (Bors.cons (Bor.sl (fun _ => rfl)) Bors.nil) rfl rfl (i_length_int64_ok a3 r5 hf8)) <|
     (TR.l (r := ptr [i64 a0, i64 a1, sl a2.length (a2.map f32), sl a3.length (a3.map i64)]) rfl rfl (LOp.fap und65 rfl siz26 rfl rfl rfl) <|
     (TR.l (r := ptr [i64 a0, i64 a1, sl a2.length (a2.map f32), sl a3.length (a3.map i64)]) rfl rfl (LOp.fap und26 rfl siz2 rfl rfl rfl) <|
     (TR.l (r := i64 a0) rfl rfl (LOp.load1 agg2 rfl rfl) <|
     (TR.l (r := b (decide (r5 = a0))) rfl rfl (LOp.eql rfl rfl rfl) <|
     (TR.l (r := b (decide (r5 = a0))) rfl rfl (LOp.pick_true rfl rfl rfl) <|
     (TR.l (r := b (decide (r5 = a0))) rfl rfl (LOp.assign rfl rfl) <|
     TR.nil))))))))))))))))))))))))) rfl (by kernel_rfl) rfl fills_nil rfl ?_
    iterate 25 refine ROps.dropS ?_
    refine ROps.drop0 ?_
    refine zN ?_
    refine RunC.ret ?_
    have hq := Option.some.inj h
    subst q0
    exact bodyQ.pure (.inr rfl) rfl (Res.one rfl (RV.tmp rfl))
   ·refine RunC.region_draw (Γ' := []) 25 mixed 
     (TR.l (r := ptr [i64 a0, i64 a1, sl a2.length (a2.map f32), sl a3.length (a3.map i64)]) rfl rfl (LOp.fap und65 rfl siz26 rfl rfl rfl) <|
     (TR.l (r := agg [i64 a0, i64 a1, sl a2.length (a2.map f32)]) rfl rfl (LOp.loadAgg agg26 siz26 rfl rfl rfl rfl) <|
     (TR.d (r := b true) (fs := []) rfl rfl (TOp.eqb (TOp.callB (CallAs.func ent82 rfl rfl) (Bors.cons (Bor.agg (Bors.cons (Bor.pure rfl) (Bors.cons (Bor.pure rfl) (Bors.cons (Bor.sl (fun _ => rfl)) Bors.nil)))) Bors.nil) rfl rfl (i_isSquare_ok a0 a1 a2 r1 hf1)) hc2) <|
     (TR.l (r := b true) rfl rfl (LOp.move rfl rfl) <|
     (TR.l (r := ptr [i64 a0, i64 a1, sl a2.length (a2.map f32), sl a3.length (a3.map i64)]) rfl rfl (LOp.fap und65 rfl siz26 rfl rfl rfl) <|
     (TR.l (r := agg [i64 a0, i64 a1, sl a2.length (a2.map f32)]) rfl rfl (LOp.loadAgg agg26 siz26 rfl rfl rfl rfl) <|
     (TR.d (r := sl r2.length (r2.map f32)) (fs := []) rfl rfl (TOp.callS (CallAs.func ent122 rfl rfl) (ALes.cons aR ALes.nil) (lts_cons (lt_agg (lts_cons rfl (lts_cons rfl (lts_cons (lt_sl (fun _ => rfl)) lts_nil)))) lts_nil) (lt_sl (fun _ => rfl)) (i_Matrix_middle_ok a0 a1 a2 r2 hf3) (Bor.own (f := f32) (fun _ => rfl) rfl rfl)) <|
     (TR.d (r := b false) (fs := []) rfl rfl (TOp.eqb (TOp.callB (CallAs.func ent121 rfl rfl) (Bors.cons (Bor.sl (fun _ => rfl)) (Bors.cons (Bor.le (ALe.fl (by kernel_rfl) (by kernel_rfl)) (Bor.pure rfl)) Bors.nil)) rfl rfl (x_slices_Contains_float32_float32_ok r2 (some 0) r3 hf4)) hc5) <|
     (TR.l (r := b true) rfl rfl (LOp.eqb (LOp.not rfl rfl) rfl) <|
     (TR.l (r := b true) rfl rfl (LOp.pick_true rfl rfl rfl) <|
     (TR.l (r := b true) rfl rfl (LOp.move rfl rfl) <|
     (TR.l (r := ptr [sl a3.length (a3.map i64)]) rfl rfl (LOp.fap und65 rfl siz53 rfl rfl rfl) <|
     (TR.l (r := sl a3.length (a3.map i64)) rfl rfl (LOp.load1 agg53 rfl rfl) <|
     (TR.d (r := b false) (fs := []) rfl rfl (TOp.eqb (TOp.callB (CallAs.func ent123 rfl rfl) (Bors.cons (Bor.sl (fun _ => rfl)) Bors.nil) rfl rfl (i_IsOrder_ok a3 r4 hf6)) hc7) <|
     (TR.l (r := b false) rfl rfl (LOp.pick_true rfl rfl rfl) <|
     (TR.l (r := b false) rfl rfl (LOp.move rfl rfl) <|
     (TR.s rfl rfl <|
     (TR.s rfl rfl <|
     (TR.s rfl rfl <|
     (TR.s rfl rfl <|
     (TR.s rfl rfl <|
     (TR.s rfl rfl <|
     (TR.s rfl rfl <|
     (TR.l (r := b false) rfl rfl (LOp.pick_false rfl rfl rfl) <|
     (TR.l (r := b false) rfl rfl (LOp.assign rfl rfl) <|
     TR.nil))))))))))))))))))))))))) rfl (by kernel_rfl) rfl fills_nil rfl ?_
    iterate 25 refine ROps.dropS ?_
    refine ROps.drop0 ?_
    refine zN ?_
    refine RunC.ret ?_
    have hq := Option.some.inj h
    subst q0
    exact bodyQ.pure (.inr rfl) rfl (Res.one rfl (RV.tmp rfl))
 ·refine RunC.region_draw (Γ' := []) 25 mixed 
   (TR.l (r := ptr [i64 a0, i64 a1, sl a2.length (a2.map f32), sl a3.length (a3.map i64)]) rfl rfl (LOp.fap und65 rfl siz26 rfl rfl rfl) <|
   (TR.l (r := agg [i64 a0, i64 a1, sl a2.length (a2.map f32)]) rfl rfl (LOp.loadAgg agg26 siz26 rfl rfl rfl rfl) <|
   (TR.d (r := b false) (fs := []) rfl rfl (TOp.eqb (TOp.callB (CallAs.func ent82 rfl rfl) (Bors.cons (Bor.agg (Bors.cons (Bor.pure rfl) (Bors.cons (Bor.pure rfl) (Bors.cons (Bor.sl (fun _ => rfl)) Bors.nil)))) Bors.nil) rfl rfl (i_isSquare_ok a0 a1 a2 r1 hf1)) hc2) <|
   (TR.l (r := b false) rfl rfl (LOp.move rfl rfl) <|
   (TR.s rfl rfl <|
   (TR.s rfl rfl <|
   (TR.s rfl rfl <|
   (TR.s rfl rfl <|
   (TR.s rfl rfl <|
   (TR.l (r := b false) rfl rfl (LOp.pick_false rfl rfl rfl) <|
   (TR.l (r := b false) rfl rfl (LOp.move rfl rfl) <|
   (TR.s rfl rfl <|
   (TR.s rfl rfl <|
   (TR.s rfl rfl <|
   (TR.l (r := b false) rfl rfl (LOp.pick_false rfl rfl rfl) <|
   (TR.l (r := b false) rfl rfl (LOp.move rfl rfl) <|
   (TR.s rfl rfl <|
   (TR.s rfl rfl <|
   (TR.s rfl rfl <|
   (TR.s rfl rfl <|
   (TR.s rfl rfl <|
   (TR.s rfl rfl <|
   (TR.s rfl rfl <|
   (TR.l (r := b false) rfl rfl (LOp.pick_false rfl rfl rfl) <|
   (TR.l (r := b false) rfl rfl (LOp.assign rfl rfl) <|
   TR.nil))))))))))))))))))))))))) rfl (by kernel_rfl) rfl fills_nil rfl ?_
  iterate 25 refine ROps.dropS ?_
  refine ROps.drop0 ?_
  refine zN ?_
  refine RunC.ret ?_
  have hq := Option.some.inj h
  subst q0
  exact bodyQ.pure (.inr rfl) rfl (Res.one rfl (RV.tmp rfl))
noncomputable def i_newMatrix (a0 : Int) (a1 : Int) : Option (Int × Int × (List F)) :=
 olet (IntKind.i64.wrap (a0 * a1)) fun (x1 : Int) =>
 need (mkok 4 x1) <|
 some (a0, a1, (List.replicate x1.toNat (some 0)))
theorem i_newMatrix_ok (a0 : Int) (a1 : Int) (q0 : Int) (q1 : Int) (q2 : List F) (h : i_newMatrix a0 a1 = some (q0, q1, q2)) : Ev Tryz.prog 70 [i64 a0, i64 a1] [] (agg [i64 q0, i64 q1, oref 0 0 0 q2.length]) [⟨0, some (q2.map f32)⟩] := by
 refine Ev.start Tryz.func70 rfl rfl 2 (τ := [(0, i64 a0), (1, i64 a1)]) rfl (Γ' := [⟨0, none⟩, ⟨0, none⟩]) rfl (n := 25) rfl (g := 0) rfl (fun _ => rfl) ?_
 unfold i_newMatrix at h
 refine zQ ?_
 refine ROps.d (r := optr 0 1 0) (fs := [(0, [i64 0, i64 0, nilsl])]) (Γ' := [⟨1, some [i64 0, i64 0, nilsl]⟩, ⟨0, none⟩]) rfl rfl rfl (TOp.alloc_o (g := ⟨0, none⟩) 0 rfl zer26 zok26 rfl) rfl ?_
 refine zN ?_
 refine RunC.seq ?_
 obtain ⟨x1, hx1, h⟩ := olet_some h
 obtain ⟨hm2, h⟩ := need_some h
 refine RunC.regionW ?_
 refine zM (r := i64 a0) rfl rfl rfl rfl rfl ?_
 refine zM (r := i64 a1) rfl rfl rfl rfl rfl ?_
 refine zM (r := i64 a0) rfl rfl rfl rfl rfl ?_
 refine zM (r := i64 a1) rfl rfl rfl rfl rfl ?_
 refine zL (r := i64 x1) rfl rfl rfl (LOp.eqr (LOp.mul rfl rfl rfl) (congrArg (ik .i64) hx1)) ?_
 refine ROps.d (r := oref 1 1 0 x1.toNat) (fs := [(1, ((List.replicate x1.toNat (some 0)).map f32))]) (Γ' := [⟨1, some [i64 0, i64 0, nilsl]⟩, ⟨1, some ((List.replicate x1.toNat (some 0)).map f32)⟩]) rfl rfl rfl (TOp.mkS (g := ⟨0, none⟩) (t := 22) (e := 33) (by_ := 4) (f := f32) (zv := some 0) 1 rfl und22 tin33 rfl siz33 zer33 rfl zel33 rfl rfl rfl hm2) rfl ?_
 refine zL (r := agg [i64 a0, i64 a1, oref 1 1 0 x1.toNat]) rfl rfl rfl (LOp.build (qs := [(0, [i64 a0]), (1, [i64 a1]), (2, [oref 1 1 0 x1.toNat])]) zer26 zok26 und26 plc26 rfl ⟨rfl, ⟨_, ALe.refl _, rfl⟩, ⟨rfl, ⟨_, ALe.refl _, rfl⟩, ⟨rfl, ⟨_, ALe.refl _, rfl⟩, trivial⟩⟩⟩ rfl) ?_
 refine ROps.store_le (r := agg [i64 a0, i64 a1, oref 1 1 0 x1.toNat]) (l' := [i64 a0, i64 a1, oref 1 1 0 x1.toNat]) (Γ' := [⟨1, some [i64 a0, i64 a1, oref 1 1 0 x1.toNat]⟩, ⟨1, some ((List.replicate x1.toNat (some 0)).map f32)⟩]) rfl siz26 rfl rfl rfl aR rfl rfl rfl rfl (Nat.le_of_ble_eq_true rfl) rfl rfl ?_
 refine zN ?_
 refine RunC.ret ?_
 have hq := Option.some.inj h
 obtain ⟨hq0, hq⟩ := Prod.mk.inj hq
 obtain ⟨hq1, hq⟩ := Prod.mk.inj hq
 subst q0
 subst q1
 subst q2
 exact bodyQ.mk (r' := agg [i64 a0, i64 a1, oref 1 1 0 ((List.replicate x1.toNat (some 0)).length)]) [(1, 1)] (.inr rfl) rfl (show List.Nodup [1] from by decide) rfl rfl (Res.eq (Res.one rfl (RV.cell agg26 siz26 rfl rfl rfl rfl)) (by rw [(show (List.replicate x1.toNat (some 0)).length = x1.toNat from by simp)] <;> rfl)) (SelL.arr0 (f := f32) (fun _ => rfl) rfl trivial)
noncomputable def i_unit_1 (a0 : Int) (a1 : Int) : Option (F) :=
 bsel (decide (a0 = a1)) (
  some (some 1065353216)) (
  some (some 0))
theorem i_unit_1_ok (a0 : Int) (a1 : Int) (q0 : F) (h : i_unit_1 a0 a1 = some q0) : Ev Tryz.prog 98 [i64 a0, i64 a1] [] (f32 q0) [] := by
 refine Ev.start Tryz.func98 rfl rfl 0 (τ := [(0, i64 a0), (1, i64 a1)]) rfl (Γ' := []) rfl (n := 17) rfl (g := 0) rfl (fun _ => rfl) ?_
 unfold i_unit_1 at h
 refine zQ ?_
 refine zL (r := f32 (some 0)) rfl rfl rfl (LOp.le (LOp.assign rfl rfl) (ALe.fl (by kernel_rfl) (by kernel_rfl))) ?_
 refine zN ?_
 refine RunC.seq ?_
 refine RunC.seq ?_
 rcases bsel_some h with ⟨hc1, h⟩ | ⟨hc1, h⟩
 ·refine RunC.regionW ?_
  refine zM (r := i64 a0) rfl rfl rfl rfl rfl ?_
  refine zM (r := i64 a1) rfl rfl rfl rfl rfl ?_
  refine zL (r := b true) rfl rfl rfl (LOp.eqb (LOp.eql rfl rfl rfl) hc1) ?_
  refine zN ?_
  refine RunC.cond_true rfl rfl ?_
  refine zQ ?_
  refine zL (r := f32 (some 1065353216)) rfl rfl rfl (LOp.le (LOp.assign rfl rfl) (ALe.fl (by kernel_rfl) (by kernel_rfl))) ?_
  refine zN ?_
  refine RunC.ret ?_
  have hq := Option.some.inj h
  subst q0
  exact bodyQ.pure (.inr rfl) rfl (Res.one rfl (RV.tmp rfl))
 ·refine RunC.regionW ?_
  refine zM (r := i64 a0) rfl rfl rfl rfl rfl ?_
  refine zM (r := i64 a1) rfl rfl rfl rfl rfl ?_
  refine zL (r := b false) rfl rfl rfl (LOp.eqb (LOp.eql rfl rfl rfl) hc1) ?_
  refine zN ?_
  refine RunC.cond_false rfl rfl ?_
  refine RunC.skip ?_
  refine zQ ?_
  refine zL (r := f32 (some 0)) rfl rfl rfl (LOp.le (LOp.assign rfl rfl) (ALe.fl (by kernel_rfl) (by kernel_rfl))) ?_
  refine zN ?_
  refine RunC.ret ?_
  have hq := Option.some.inj h
  subst q0
  exact bodyQ.pure (.inr rfl) rfl (Res.one rfl (RV.tmp rfl))
noncomputable def i_made_2Fi_unit_1_b2 (a1 : Int) (r1 : Int) (r2 : Int) (r3 : List F) (v6 : Int) (L7 : List F) (v9 : Int) : Option (LR ((List F) × Int) ((List F)) (Int × Int × (List F))) :=
 bsel (decide (v9 < a1)) (
  obind (i_unit_1 v6 v9) fun (r11 : F) =>
  obind (i_Matrix_set_02o r1 r2 v6 v9 r11 L7) fun (r12 : List F) =>
  need (decide (r12.length = r3.length)) <|
  olet (IntKind.i64.wrap (v9 + 1)) fun (x13 : Int) =>
  some (LR.next (r12, x13))) (
  some (LR.out L7))
noncomputable def i_made_2Fi_unit_1_s2 (a1 : Int) (r1 : Int) (r2 : Int) (r3 : List F) (v6 : Int) : ((List F) × Int) → Option (LR ((List F) × Int) ((List F)) (Int × Int × (List F))) := fun s => i_made_2Fi_unit_1_b2 a1 r1 r2 r3 v6 s.1 s.2
noncomputable def i_made_2Fi_unit_1_k2 (v6 : Int) (L14 : List F) : Option (LR ((List F) × Int) ((List F)) (Int × Int × (List F))) :=
 olet (IntKind.i64.wrap (v6 + 1)) fun (x16 : Int) =>
 some (LR.next (L14, x16))
noncomputable def i_made_2Fi_unit_1_b3 (a0 : Int) (a1 : Int) (r1 : Int) (r2 : Int) (r3 : List F) (L4 : List F) (v6 : Int) : Option (LR ((List F) × Int) ((List F)) (Int × Int × (List F))) :=
 bsel (decide (v6 < a0)) (
  obind (loopM (i_made_2Fi_unit_1_s2 a1 r1 r2 r3 v6) (L4, 0)) fun z => osum z (fun e => i_made_2Fi_unit_1_k2 v6 e) (fun r => some (LR.ret r))) (
  some (LR.out L4))
noncomputable def i_made_2Fi_unit_1_s3 (a0 : Int) (a1 : Int) (r1 : Int) (r2 : Int) (r3 : List F) : ((List F) × Int) → Option (LR ((List F) × Int) ((List F)) (Int × Int × (List F))) := fun s => i_made_2Fi_unit_1_b3 a0 a1 r1 r2 r3 s.1 s.2
noncomputable def i_made_2Fi_unit_1_k3 (r1 : Int) (r2 : Int) (L17 : List F) : Option (Int × Int × (List F)) :=
 some (r1, r2, L17)
noncomputable def i_made_2Fi_unit_1 (a0 : Int) (a1 : Int) : Option (Int × Int × (List F)) :=
 obind3 (i_newMatrix a0 a1) fun (r1 : Int) (r2 : Int) (r3 : List F) =>
 obind (loopM (i_made_2Fi_unit_1_s3 a0 a1 r1 r2 r3) (r3, 0)) fun z => osum z (fun e => i_made_2Fi_unit_1_k3 r1 r2 e) (fun r => some r)
theorem i_made_2Fi_unit_1_ok (a0 : Int) (a1 : Int) (q0 : Int) (q1 : Int) (q2 : List F) (h : i_made_2Fi_unit_1 a0 a1 = some (q0, q1, q2)) : Ev Tryz.prog 32 [i64 a0, i64 a1, fn (.func 98) [] []] [] (agg [i64 q0, i64 q1, oref 0 0 0 q2.length]) [⟨0, some (q2.map f32)⟩] := by
 refine Ev.start Tryz.func32 rfl rfl 3 (τ := [(0, i64 a0), (1, i64 a1), (2, fn (.func 98) [] [])]) rfl (Γ' := [⟨0, none⟩, ⟨0, none⟩, ⟨0, none⟩]) rfl (n := 65) rfl (g := 0) rfl (fun _ => rfl) ?_
 unfold i_made_2Fi_unit_1 at h
 refine zQ ?_
 refine ROps.d (r := optr 0 1 0) (fs := [(0, [i64 0, i64 0, nilsl])]) (Γ' := [⟨1, some [i64 0, i64 0, nilsl]⟩, ⟨0, none⟩, ⟨0, none⟩]) rfl rfl rfl (TOp.alloc_o (g := ⟨0, none⟩) 0 rfl zer26 zok26 rfl) rfl ?_
 refine zN ?_
 refine RunC.seq ?_
 obtain ⟨r1, r2, r3, hf1, h⟩ := obind3_some h
 refine RunC.regionW ?_
 refine zM (r := i64 a0) rfl rfl rfl rfl rfl ?_
 refine zM (r := i64 a1) rfl rfl rfl rfl rfl ?_
 refine ROps.d (r := agg [i64 r1, i64 r2, oref 1 1 0 r3.length]) (fs := [(1, (r3.map f32))]) (Γ' := [⟨1, some [i64 0, i64 0, nilsl]⟩, ⟨1, some (r3.map f32)⟩, ⟨0, none⟩]) rfl rfl rfl (TOp.callBN (ls := [(r3.map f32)]) [1] (CallAs.func ent70 rfl rfl) (Bors.cons (Bor.pure rfl) (Bors.cons (Bor.pure rfl) Bors.nil)) rfl (i_newMatrix_ok a0 a1 r1 r2 r3 hf1) (and_all (lts0_map (f := f32) (fun _ => rfl) _) rfl) (and_all (noss_map (f := f32) (fun _ => rfl) _) rfl) rfl (by decide) (ns_of ⟨⟨_, rfl⟩, trivial⟩)) rfl ?_
 refine ROps.d (r := optr 2 1 0) (fs := [(2, [i64 0, i64 0, nilsl])]) (Γ' := [⟨1, some [i64 0, i64 0, nilsl]⟩, ⟨1, some (r3.map f32)⟩, ⟨1, some [i64 0, i64 0, nilsl]⟩]) rfl rfl rfl (TOp.alloc_o (g := ⟨0, none⟩) 2 rfl zer26 zok26 rfl) rfl ?_
 refine ROps.store_le (r := agg [i64 r1, i64 r2, oref 1 1 0 r3.length]) (l' := [i64 r1, i64 r2, oref 1 1 0 r3.length]) (Γ' := [⟨1, some [i64 0, i64 0, nilsl]⟩, ⟨1, some (r3.map f32)⟩, ⟨1, some [i64 r1, i64 r2, oref 1 1 0 r3.length]⟩]) rfl siz26 rfl rfl rfl aR rfl rfl rfl rfl (Nat.le_of_ble_eq_true rfl) rfl rfl ?_
 refine zN ?_
 refine RunC.seq ?_
 refine zQ ?_
 refine zM (r := i64 a0) rfl rfl rfl rfl rfl ?_
 refine zM (r := i64 0) rfl rfl rfl rfl rfl ?_
 refine zN ?_
 obtain ⟨z4, hz_4, h⟩ := obind_some h
 refine RunC.cutN (fun τ Γ => ∃ (L17 : List F), L17.length = r3.length ∧ WeakLe τ [(6, optr 0 1 0), (7, optr 2 1 0)] ∧ DeadLe Γ [⟨1, some [i64 0, i64 0, nilsl]⟩, ⟨1, some (L17.map f32)⟩, ⟨1, some [i64 r1, i64 r2, oref 1 1 0 r3.length]⟩] ∧ z4 = .inl L17) ?_ ?_
 ·refine RunC.block (RunC.loop (RunL.loopM (x := z4) (i_made_2Fi_unit_1_s3 a0 a1 r1 r2 r3) (fun (s : (List F) × Int) τ Γ => s.1.length = r3.length ∧ WeakLe τ [(1, i64 a1), (2, fn (.func 98) [] []), (6, optr 0 1 0), (7, optr 2 1 0), (13, i64 a0), (14, i64 s.2)] ∧ DeadLe Γ [⟨1, some [i64 0, i64 0, nilsl]⟩, ⟨1, some (s.1.map f32)⟩, ⟨1, some [i64 r1, i64 r2, oref 1 1 0 r3.length]⟩]) ?_ _ _ _ hz_4 ⟨rfl, ⟨aR, aR, aR, aR, aR, aR, trivial⟩, ⟨⟨rfl, .inr rfl⟩, ⟨rfl, .inr rfl⟩, ⟨rfl, .inr rfl⟩, trivial⟩⟩))
  rintro ⟨L4, v6⟩ τ4 Γ4 y4_ ⟨hl5, hw4, hd4⟩ h4_ ho4 hr4
  refine RunC.wl (τ' := [(1, i64 a1), (2, fn (.func 98) [] []), (6, optr 0 1 0), (7, optr 2 1 0), (13, i64 a0), (14, i64 v6)]) (Γ' := [⟨1, some [i64 0, i64 0, nilsl]⟩, ⟨1, some (L4.map f32)⟩, ⟨1, some [i64 r1, i64 r2, oref 1 1 0 r3.length]⟩]) hw4 hd4 ?_
  replace hl5 : L4.length = r3.length := hl5
  replace h4_ : i_made_2Fi_unit_1_b3 a0 a1 r1 r2 r3 L4 v6 = some y4_ := h4_
  unfold i_made_2Fi_unit_1_b3 at h4_
  refine RunC.seq ?_
  rcases bsel_some h4_ with ⟨hc2, h4_⟩ | ⟨hc2, h4_⟩
  ·refine RunC.regionW ?_
   refine zL (r := b true) rfl rfl rfl (LOp.eqb (LOp.lss rfl rfl rfl) hc2) ?_
   refine zN ?_
   refine RunC.seq ?_
   refine RunC.cond_true rfl rfl ?_
   refine RunC.skip ?_
   refine RunC.seq ?_
   refine RunC.block ?_
   refine zQ ?_
   refine zM (r := i64 v6) rfl rfl rfl rfl rfl ?_
   refine zA (r := i64 v6) rfl rfl rfl rfl rfl ?_
   refine zN ?_
   refine zQ ?_
   refine zM (r := i64 a1) rfl rfl rfl rfl rfl ?_
   refine zM (r := i64 0) rfl rfl rfl rfl rfl ?_
   refine zN ?_
   obtain ⟨z5, hz_5, h4_⟩ := obind_some h4_
   refine RunC.cutN (fun τ Γ => ∃ (L14 : List F), L14.length = r3.length ∧ WeakLe τ [(1, i64 a1), (2, fn (.func 98) [] []), (6, optr 0 1 0), (7, optr 2 1 0), (13, i64 a0), (14, i64 v6)] ∧ DeadLe Γ [⟨1, some [i64 0, i64 0, nilsl]⟩, ⟨1, some (L14.map f32)⟩, ⟨1, some [i64 r1, i64 r2, oref 1 1 0 r3.length]⟩] ∧ z5 = .inl L14) ?_ ?_
   ·refine RunC.block (RunC.loop (RunL.loopM (x := z5) (i_made_2Fi_unit_1_s2 a1 r1 r2 r3 v6) (fun (s : (List F) × Int) τ Γ => s.1.length = r3.length ∧ WeakLe τ [(1, i64 a1), (2, fn (.func 98) [] []), (6, optr 0 1 0), (7, optr 2 1 0), (8, i64 v6), (13, i64 a0), (14, i64 v6), (17, i64 a1), (18, i64 s.2)] ∧ DeadLe Γ [⟨1, some [i64 0, i64 0, nilsl]⟩, ⟨1, some (s.1.map f32)⟩, ⟨1, some [i64 r1, i64 r2, oref 1 1 0 r3.length]⟩]) ?_ _ _ _ hz_5 ⟨hl5, ⟨aR, aR, aR, aR, aR, aR, aR, aR, aR, trivial⟩, ⟨⟨rfl, .inr rfl⟩, ⟨rfl, .inr rfl⟩, ⟨rfl, .inr rfl⟩, trivial⟩⟩))
    rintro ⟨L7, v9⟩ τ5 Γ5 y5_ ⟨hl8, hw5, hd5⟩ h5_ ho5 hr5
    refine RunC.wl (τ' := [(1, i64 a1), (2, fn (.func 98) [] []), (6, optr 0 1 0), (7, optr 2 1 0), (8, i64 v6), (13, i64 a0), (14, i64 v6), (17, i64 a1), (18, i64 v9)]) (Γ' := [⟨1, some [i64 0, i64 0, nilsl]⟩, ⟨1, some (L7.map f32)⟩, ⟨1, some [i64 r1, i64 r2, oref 1 1 0 r3.length]⟩]) hw5 hd5 ?_
    replace hl8 : L7.length = r3.length := hl8
    replace h5_ : i_made_2Fi_unit_1_b2 a1 r1 r2 r3 v6 L7 v9 = some y5_ := h5_
    unfold i_made_2Fi_unit_1_b2 at h5_
    refine RunC.seq ?_
    rcases bsel_some h5_ with ⟨hc3, h5_⟩ | ⟨hc3, h5_⟩
    ·refine RunC.regionW ?_
     refine zL (r := b true) rfl rfl rfl (LOp.eqb (LOp.lss rfl rfl rfl) hc3) ?_
     refine zN ?_
     refine RunC.seq ?_
     refine RunC.cond_true rfl rfl ?_
     refine RunC.skip ?_
     refine RunC.seq ?_
     refine RunC.block ?_
     refine zQ ?_
     refine zM (r := i64 v9) rfl rfl rfl rfl rfl ?_
     refine zA (r := i64 v9) rfl rfl rfl rfl rfl ?_
     refine zN ?_
     obtain ⟨r11, hf5, h5_⟩ := obind_some h5_
     obtain ⟨r12, hf6, h5_⟩ := obind_some h5_
     obtain ⟨hn7, h5_⟩ := need_some h5_
     refine RunC.region_draw (Γ' := [⟨1, some [i64 0, i64 0, nilsl]⟩, ⟨1, some (L7.map f32)⟩, ⟨1, some [i64 r1, i64 r2, oref 1 1 0 r3.length]⟩]) 7 mixed 
      (TR.d (r := agg [i64 r1, i64 r2, oref 1 1 0 r3.length]) (fs := []) rfl rfl (TOp.loadAgg_o rfl agg26 siz26 rfl rfl rfl rfl) <|
      (TR.l (r := i64 v6) rfl rfl (LOp.move rfl rfl) <|
      (TR.l (r := i64 v9) rfl rfl (LOp.move rfl rfl) <|
      (TR.l (r := fn (.func 98) [] []) rfl rfl (LOp.move rfl rfl) <|
      (TR.l (r := i64 v6) rfl rfl (LOp.move rfl rfl) <|
      (TR.l (r := i64 v9) rfl rfl (LOp.move rfl rfl) <|
      (TR.d (r := f32 r11) (fs := []) rfl rfl (TOp.callB (CallAs.fn ent98 rfl rfl rfl rfl) (Bors.cons (Bor.pure rfl) (Bors.cons (Bor.pure rfl) Bors.nil)) rfl rfl (i_unit_1_ok v6 v9 r11 hf5)) <|
      TR.nil))))))) rfl (by kernel_rfl) rfl fills_nil rfl ?_
     iterate 7 refine ROps.dropS ?_
     refine ROps.drop0 ?_
     refine ROps.callO (A := [agg [i64 r1, i64 r2, oref 1 1 0 r3.length], i64 v6, i64 v9, f32 r11]) (args := [agg [i64 r1, i64 r2, oref 0 0 0 L7.length], i64 v6, i64 v9, f32 r11]) (Γc := [⟨0, some (L7.map f32)⟩]) (Γc' := [⟨0, some (r12.map f32)⟩]) (r' := tup []) (Γ' := [⟨1, some [i64 0, i64 0, nilsl]⟩, ⟨1, some (r12.map f32)⟩, ⟨1, some [i64 r1, i64 r2, oref 1 1 0 r3.length]⟩]) [(1, 1)] [] rfl (CallAs.func ent71 rfl rfl) rfl rfl (SelOk.of (show List.Nodup [1] from by decide) (SelL.arr0 (f := f32) (fun _ => rfl) rfl trivial)) (live_of ⟨⟨_, _, rfl⟩, trivial⟩) (by simp [ren, rens, sigma, rens_f32, rens_f64, rens_i64, rens_ik, rens_str, rens_cp, hl8]) rfl (i_Matrix_set_02o_ok r1 r2 v6 v9 r11 L7 r12 hf6) rfl (news_of trivial) (show List.Nodup [1] from by decide) (by simp [ren, rens, sigma, of_decide_eq_true hn7]) (by simp [backOb, sigma, ren, rens, rens_f32, rens_f64, rens_i64, rens_ik, rens_str, rens_cp]) ?_
     refine zN ?_
     obtain ⟨x13, hx8, h5_⟩ := olet_some h5_
     refine RunC.regionW ?_
     refine zL (r := i64 x13) rfl rfl rfl (LOp.eqr (LOp.add rfl rfl rfl) (congrArg (ik .i64) hx8)) ?_
     refine zM (r := i64 x13) rfl rfl rfl rfl rfl ?_
     refine zN ?_
     cases Option.some.inj h5_
     exact ⟨_, rfl, (of_decide_eq_true hn7), ⟨aR, aR, aR, aR, aR, aR, aR, aR, aR, trivial⟩, ⟨⟨rfl, .inr rfl⟩, ⟨rfl, .inr rfl⟩, ⟨rfl, .inr rfl⟩, trivial⟩⟩
    ·refine RunC.regionW ?_
     refine zL (r := b false) rfl rfl rfl (LOp.eqb (LOp.lss rfl rfl rfl) hc3) ?_
     refine zN ?_
     refine RunC.seq ?_
     refine RunC.cond_false rfl rfl ?_
     refine RunC.exit ?_
     cases Option.some.inj h5_
     have hx := ho5 _ rfl
     exact ⟨L7, hl8, ⟨aR, aR, aR, aR, aR, aR, trivial⟩, ⟨⟨rfl, .inr rfl⟩, ⟨rfl, .inr rfl⟩, ⟨rfl, .inr rfl⟩, trivial⟩, hx⟩
   ·rintro τ6 Γ6 ⟨L14, hl15, hw6, hd6, rfl⟩
    refine RunC.wl hw6 hd6 ?_
    replace h4_ : i_made_2Fi_unit_1_k2 v6 L14 = some y4_ := h4_
    unfold i_made_2Fi_unit_1_k2 at h4_
    obtain ⟨x16, hx9, h4_⟩ := olet_some h4_
    refine RunC.regionW ?_
    refine zL (r := i64 x16) rfl rfl rfl (LOp.eqr (LOp.add rfl rfl rfl) (congrArg (ik .i64) hx9)) ?_
    refine zM (r := i64 x16) rfl rfl rfl rfl rfl ?_
    refine zN ?_
    cases Option.some.inj h4_
    exact ⟨_, rfl, hl15, ⟨aR, aR, aR, aR, aR, aR, trivial⟩, ⟨⟨rfl, .inr rfl⟩, ⟨rfl, .inr rfl⟩, ⟨rfl, .inr rfl⟩, trivial⟩⟩
  ·refine RunC.regionW ?_
   refine zL (r := b false) rfl rfl rfl (LOp.eqb (LOp.lss rfl rfl rfl) hc2) ?_
   refine zN ?_
   refine RunC.seq ?_
   refine RunC.cond_false rfl rfl ?_
   refine RunC.exit ?_
   cases Option.some.inj h4_
   have hx := ho4 _ rfl
   exact ⟨L4, hl5, ⟨aR, aR, trivial⟩, ⟨⟨rfl, .inr rfl⟩, ⟨rfl, .inr rfl⟩, ⟨rfl, .inr rfl⟩, trivial⟩, hx⟩
 ·rintro τ7 Γ7 ⟨L17, hl18, hw7, hd7, rfl⟩
  refine RunC.wl hw7 hd7 ?_
  replace h : i_made_2Fi_unit_1_k3 r1 r2 L17 = some (q0, q1, q2) := h
  unfold i_made_2Fi_unit_1_k3 at h
  refine zQ ?_
  refine ROps.d (r := agg [i64 r1, i64 r2, oref 1 1 0 r3.length]) (fs := []) (Γ' := [⟨1, some [i64 0, i64 0, nilsl]⟩, ⟨1, some (L17.map f32)⟩, ⟨1, some [i64 r1, i64 r2, oref 1 1 0 r3.length]⟩]) rfl rfl rfl (TOp.loadAgg_o rfl agg26 siz26 rfl rfl rfl rfl) rfl ?_
  refine ROps.store_le (r := agg [i64 r1, i64 r2, oref 1 1 0 r3.length]) (l' := [i64 r1, i64 r2, oref 1 1 0 r3.length]) (Γ' := [⟨1, some [i64 r1, i64 r2, oref 1 1 0 r3.length]⟩, ⟨1, some (L17.map f32)⟩, ⟨1, some [i64 r1, i64 r2, oref 1 1 0 r3.length]⟩]) rfl siz26 rfl rfl rfl aR rfl rfl rfl rfl (Nat.le_of_ble_eq_true rfl) rfl rfl ?_
  refine zN ?_
  refine RunC.ret ?_
  have hq := Option.some.inj h
  obtain ⟨hq0, hq⟩ := Prod.mk.inj hq
  obtain ⟨hq1, hq⟩ := Prod.mk.inj hq
  subst q0
  subst q1
  subst q2
  exact bodyQ.mk (r' := agg [i64 r1, i64 r2, oref 1 1 0 L17.length]) [(1, 1)] (.inr rfl) rfl (show List.Nodup [1] from by decide) rfl rfl (Res.eq (Res.one rfl (RV.cell agg26 siz26 rfl rfl rfl rfl)) (by rw [(show L17.length = r3.length from hl18)] <;> rfl)) (SelL.arr0 (f := f32) (fun _ => rfl) rfl trivial)
noncomputable def i_unit (a0 : Int) : Option (Int × Int × (List F)) :=
 obind3 (i_made_2Fi_unit_1 a0 a0) fun (r1 : Int) (r2 : Int) (r3 : List F) =>
 some (r1, r2, r3)
theorem i_unit_ok (a0 : Int) (q0 : Int) (q1 : Int) (q2 : List F) (h : i_unit a0 = some (q0, q1, q2)) : Ev Tryz.prog 59 [i64 a0] [] (agg [i64 q0, i64 q1, oref 0 0 0 q2.length]) [⟨0, some (q2.map f32)⟩] := by
 refine Ev.start Tryz.func59 rfl rfl 2 (τ := [(0, i64 a0)]) rfl (Γ' := [⟨0, none⟩, ⟨0, none⟩]) rfl (n := 13) rfl (g := 0) rfl (fun _ => rfl) ?_
 unfold i_unit at h
 refine zQ ?_
 refine ROps.d (r := optr 0 1 0) (fs := [(0, [i64 0, i64 0, nilsl])]) (Γ' := [⟨1, some [i64 0, i64 0, nilsl]⟩, ⟨0, none⟩]) rfl rfl rfl (TOp.alloc_o (g := ⟨0, none⟩) 0 rfl zer26 zok26 rfl) rfl ?_
 refine zN ?_
 refine RunC.seq ?_
 obtain ⟨r1, r2, r3, hf1, h⟩ := obind3_some h
 refine RunC.regionW ?_
 refine zM (r := i64 a0) rfl rfl rfl rfl rfl ?_
 refine zM (r := i64 a0) rfl rfl rfl rfl rfl ?_
 refine ROps.d (r := agg [i64 r1, i64 r2, oref 1 1 0 r3.length]) (fs := [(1, (r3.map f32))]) (Γ' := [⟨1, some [i64 0, i64 0, nilsl]⟩, ⟨1, some (r3.map f32)⟩]) rfl rfl rfl (TOp.callBN (ls := [(r3.map f32)]) [1] (CallAs.func ent32 rfl rfl) (Bors.cons (Bor.pure rfl) (Bors.cons (Bor.pure rfl) (Bors.cons (Bor.fn Bors.nil Bors.nil) Bors.nil))) rfl (i_made_2Fi_unit_1_ok a0 a0 r1 r2 r3 hf1) (and_all (lts0_map (f := f32) (fun _ => rfl) _) rfl) (and_all (noss_map (f := f32) (fun _ => rfl) _) rfl) rfl (by decide) (ns_of ⟨⟨_, rfl⟩, trivial⟩)) rfl ?_
 refine ROps.store_le (r := agg [i64 r1, i64 r2, oref 1 1 0 r3.length]) (l' := [i64 r1, i64 r2, oref 1 1 0 r3.length]) (Γ' := [⟨1, some [i64 r1, i64 r2, oref 1 1 0 r3.length]⟩, ⟨1, some (r3.map f32)⟩]) rfl siz26 rfl rfl rfl aR rfl rfl rfl rfl (Nat.le_of_ble_eq_true rfl) rfl rfl ?_
 refine zN ?_
 refine RunC.ret ?_
 have hq := Option.some.inj h
 obtain ⟨hq0, hq⟩ := Prod.mk.inj hq
 obtain ⟨hq1, hq⟩ := Prod.mk.inj hq
 subst q0
 subst q1
 subst q2
 exact bodyQ.mk (r' := agg [i64 r1, i64 r2, oref 1 1 0 r3.length]) [(1, 1)] (.inr rfl) rfl (show List.Nodup [1] from by decide) rfl rfl (Res.one rfl (RV.cell agg26 siz26 rfl rfl rfl rfl)) (SelL.arr0 (f := f32) (fun _ => rfl) rfl trivial)
noncomputable def i_Matrix_column_b1 (a0 : Int) (a1 : Int) (a2 : List F) (a3 : Int) (L3 : List F) (v4 : Int) : Option (LR ((List F) × Int) ((List F)) ((List F))) :=
 bsel (decide (v4 < a0)) (
  obind (i_Matrix_at a0 a1 a2 v4 a3) fun (r5 : F) =>
  need (apok 4 L3.length 1) <|
  olet (IntKind.i64.wrap (v4 + 1)) fun (x6 : Int) =>
  some (LR.next ((L3 ++ ([r5] : List F)), x6))) (
  some (LR.out L3))
noncomputable def i_Matrix_column_s1 (a0 : Int) (a1 : Int) (a2 : List F) (a3 : Int) : ((List F) × Int) → Option (LR ((List F) × Int) ((List F)) ((List F))) := fun s => i_Matrix_column_b1 a0 a1 a2 a3 s.1 s.2
noncomputable def i_Matrix_column_k1 (L9 : List F) : Option ((List F)) :=
 some L9
noncomputable def i_Matrix_column (a0 : Int) (a1 : Int) (a2 : List F) (a3 : Int) : Option ((List F)) :=
 obind (loopM (i_Matrix_column_s1 a0 a1 a2 a3) (([] : List F), 0)) fun z => osum z (fun e => i_Matrix_column_k1 e) (fun r => some r)
theorem i_Matrix_column_ok (a0 : Int) (a1 : Int) (a2 : List F) (a3 : Int) (q0 : List F) (h : i_Matrix_column a0 a1 a2 a3 = some q0) : Ev Tryz.prog 60 [agg [i64 a0, i64 a1, sl a2.length (a2.map f32)], i64 a3] [] (oref 0 0 0 q0.length) [⟨0, some (q0.map f32)⟩] := by
 refine Ev.start Tryz.func60 rfl rfl 2 (τ := [(0, agg [i64 a0, i64 a1, sl a2.length (a2.map f32)]), (1, i64 a3)]) rfl (Γ' := [⟨0, none⟩, ⟨0, none⟩]) rfl (n := 45) rfl (g := 0) rfl (fun _ => rfl) ?_
 unfold i_Matrix_column at h
 refine zQ ?_
 refine ROps.d (r := ptr [i64 a0, i64 a1, sl a2.length (a2.map f32)]) (fs := []) (Γ' := [⟨0, none⟩, ⟨0, none⟩]) rfl rfl rfl (TOp.box_s rfl rfl rfl) rfl ?_
 refine zA (r := nilsl) rfl rfl rfl rfl rfl ?_
 refine zN ?_
 refine zQ ?_
 refine ROps.d (r := oref 0 1 0 0) (fs := [(0, (([] : List F).map f32))]) (Γ' := [⟨1, some (([] : List F).map f32)⟩, ⟨0, none⟩]) rfl rfl rfl (TOp.buildSlice_o (g := ⟨0, none⟩) (za := f32 (some 0)) (qs := []) 0 rfl und22 siz33 zer33 rfl zel33 rfl rfl trivial rfl) rfl ?_
 refine zA (r := oref 0 1 0 0) rfl rfl rfl rfl rfl ?_
 refine zN ?_
 refine RunC.seq ?_
 refine zQ ?_
 refine zL (r := ptr [i64 a0, i64 a1, sl a2.length (a2.map f32)]) rfl rfl rfl (LOp.fap und26 rfl siz2 rfl rfl rfl) ?_
 refine zL (r := i64 a0) rfl rfl rfl (LOp.load1 agg2 rfl rfl) ?_
 refine zM (r := i64 0) rfl rfl rfl rfl rfl ?_
 refine zN ?_
 obtain ⟨z2, hz_2, h⟩ := obind_some h
 refine RunC.cutN (fun τ Γ => ∃ (L9 : List F) (u7 : Nat) (u8 : Nat), WeakLe τ [(5, oref 0 u7 0 L9.length)] ∧ DeadLe Γ [⟨u7, some (L9.map f32)⟩, ⟨u8, none⟩] ∧ z2 = .inl L9) ?_ ?_
 ·refine RunC.block (RunC.loop (RunL.loopM (x := z2) (i_Matrix_column_s1 a0 a1 a2 a3) (fun (s : (List F) × Int) τ Γ => ∃ (u1 : Nat) (u2 : Nat), WeakLe τ [(1, i64 a3), (2, ptr [i64 a0, i64 a1, sl a2.length (a2.map f32)]), (5, oref 0 u1 0 s.1.length), (9, i64 a0), (10, i64 s.2)] ∧ DeadLe Γ [⟨u1, some (s.1.map f32)⟩, ⟨u2, none⟩]) ?_ _ _ _ hz_2 ⟨1, 0, ⟨aR, aR, aR, aR, aR, trivial⟩, ⟨⟨rfl, .inr rfl⟩, ⟨rfl, .inl rfl⟩, trivial⟩⟩))
  rintro ⟨L3, v4⟩ τ2 Γ2 y2_ ⟨u1, u2, hw2, hd2⟩ h2_ ho2 hr2
  refine RunC.wl (τ' := [(1, i64 a3), (2, ptr [i64 a0, i64 a1, sl a2.length (a2.map f32)]), (5, oref 0 u1 0 L3.length), (9, i64 a0), (10, i64 v4)]) (Γ' := [⟨u1, some (L3.map f32)⟩, ⟨u2, none⟩]) hw2 hd2 ?_
  replace h2_ : i_Matrix_column_b1 a0 a1 a2 a3 L3 v4 = some y2_ := h2_
  unfold i_Matrix_column_b1 at h2_
  refine RunC.seq ?_
  rcases bsel_some h2_ with ⟨hc1, h2_⟩ | ⟨hc1, h2_⟩
  ·refine RunC.regionW ?_
   refine zL (r := b true) rfl rfl rfl (LOp.eqb (LOp.lss rfl rfl rfl) hc1) ?_
   refine zN ?_
   refine RunC.seq ?_
   refine RunC.cond_true rfl rfl ?_
   refine RunC.skip ?_
   refine RunC.seq ?_
   refine RunC.block ?_
   refine zQ ?_
   refine zM (r := i64 v4) rfl rfl rfl rfl rfl ?_
   refine zA (r := i64 v4) rfl rfl rfl rfl rfl ?_
   refine zN ?_
   obtain ⟨r5, hf2, h2_⟩ := obind_some h2_
   obtain ⟨hm3, h2_⟩ := need_some h2_
   refine RunC.regionW ?_
   refine zM (r := oref 0 u1 0 L3.length) rfl rfl rfl rfl rfl ?_
   refine zL (r := agg [i64 a0, i64 a1, sl a2.length (a2.map f32)]) rfl rfl rfl (LOp.loadAgg agg26 siz26 rfl rfl rfl rfl) ?_
   refine zM (r := i64 v4) rfl rfl rfl rfl rfl ?_
   refine zM (r := i64 a3) rfl rfl rfl rfl rfl ?_
   refine ROps.d (r := f32 r5) (fs := []) (Γ' := [⟨u1, some (L3.map f32)⟩, ⟨u2, none⟩]) rfl rfl rfl (TOp.callB (CallAs.func ent35 rfl rfl) (Bors.cons (Bor.agg (Bors.cons (Bor.pure rfl) (Bors.cons (Bor.pure rfl) (Bors.cons (Bor.sl (fun _ => rfl)) Bors.nil)))) (Bors.cons (Bor.pure rfl) (Bors.cons (Bor.pure rfl) Bors.nil))) rfl rfl (i_Matrix_at_ok a0 a1 a2 v4 a3 r5 hf2)) rfl ?_
   refine ROps.d (r := oref 1 (u2 + 1) 0 1) (fs := [(1, (([r5] : List F).map f32))]) (Γ' := [⟨u1, some (L3.map f32)⟩, ⟨(u2 + 1), some (([r5] : List F).map f32)⟩]) rfl rfl rfl (TOp.buildSlice_o (g := ⟨u2, none⟩) (za := f32 (some 0)) (qs := [(0, [f32 r5])]) 1 rfl und22 siz33 zer33 rfl zel33 rfl rfl ⟨rfl, ⟨_, ALe.refl _, rfl⟩, trivial⟩ rfl) rfl ?_
   refine ROps.app (f := f32) (xs := L3) (ys := ([r5] : List F)) (Γ' := [⟨(u1 + 1), some ((L3 ++ ([r5] : List F)).map f32)⟩, ⟨(u2 + 1), some (([r5] : List F).map f32)⟩]) rfl pun22 inf33 rfl rfl rfl rfl rfl rfl rfl rfl rfl (by simp) (ReadAs.own rfl (by simp)) (ones_map (fun _ => rfl)) (ap_by hm3) (ap_mx hm3) rfl ?_
   refine zA (r := oref 0 (u1 + 1) 0 (L3.length + 1)) rfl rfl rfl rfl rfl ?_
   refine zN ?_
   refine RunC.wl (τ' := [(1, i64 a3), (2, ptr [i64 a0, i64 a1, sl a2.length (a2.map f32)]), (5, oref 0 (u1 + 1) 0 (L3.length + 1)), (9, i64 a0), (10, i64 v4)]) (Γ' := [⟨(u1 + 1), some ((L3 ++ ([r5] : List F)).map f32)⟩, ⟨(u2 + 1), none⟩]) ⟨aR, aR, aR, aR, aR, trivial⟩ ⟨⟨rfl, .inr rfl⟩, ⟨rfl, .inl rfl⟩, trivial⟩ ?_
   obtain ⟨x6, hx4, h2_⟩ := olet_some h2_
   refine RunC.regionW ?_
   refine zL (r := i64 x6) rfl rfl rfl (LOp.eqr (LOp.add rfl rfl rfl) (congrArg (ik .i64) hx4)) ?_
   refine zM (r := i64 x6) rfl rfl rfl rfl rfl ?_
   refine zN ?_
   cases Option.some.inj h2_
   exact ⟨_, rfl, (u1 + 1), (u2 + 1), ⟨aR, aR, (ALe.eq (by rw [(app_len rfl rfl)] <;> rfl)), aR, aR, trivial⟩, ⟨⟨rfl, .inr rfl⟩, ⟨rfl, .inl rfl⟩, trivial⟩⟩
  ·refine RunC.regionW ?_
   refine zL (r := b false) rfl rfl rfl (LOp.eqb (LOp.lss rfl rfl rfl) hc1) ?_
   refine zN ?_
   refine RunC.seq ?_
   refine RunC.cond_false rfl rfl ?_
   refine RunC.exit ?_
   cases Option.some.inj h2_
   have hx := ho2 _ rfl
   exact ⟨L3, u1, u2, ⟨aR, trivial⟩, ⟨⟨rfl, .inr rfl⟩, ⟨rfl, .inl rfl⟩, trivial⟩, hx⟩
 ·rintro τ3 Γ3 ⟨L9, u7, u8, hw3, hd3, rfl⟩
  refine RunC.wl hw3 hd3 ?_
  replace h : i_Matrix_column_k1 L9 = some q0 := h
  unfold i_Matrix_column_k1 at h
  refine zQ ?_
  refine zM (r := oref 0 u7 0 L9.length) rfl rfl rfl rfl rfl ?_
  refine zA (r := oref 0 u7 0 L9.length) rfl rfl rfl rfl rfl ?_
  refine zN ?_
  refine RunC.ret ?_
  have hq := Option.some.inj h
  subst q0
  exact bodyQ.mk (r' := oref 0 u7 0 L9.length) [(0, u7)] (.inr rfl) rfl (show List.Nodup [0] from by decide) (by simp [ren, rens, sigma]) rfl (Res.one rfl (RV.tmp rfl)) (SelL.arr0 (f := f32) (fun _ => rfl) rfl trivial)
noncomputable def i_Matrix_lessRow_b1 (a0 : Int) (a1 : Int) (a2 : List F) (a4 : Int) (a6 : Int) (a7 : List F) (y1 : F) (v2 : Int) : Option (LR (F × Int) (F) (F)) :=
 bsel (decide (v2 < a6)) (
  obind (i_Matrix_at a0 a1 a2 a4 v2) fun (r3 : F) =>
  obind (at? a7 v2) fun (e4 : F) =>
  obind (i_mul r3 e4) fun (r5 : F) =>
  olet (fop .sub .f32 y1 r5) fun (x6 : F) =>
  olet (IntKind.i64.wrap (v2 + 1)) fun (x7 : Int) =>
  some (LR.next (x6, x7))) (
  some (LR.out y1))
noncomputable def i_Matrix_lessRow_s1 (a0 : Int) (a1 : Int) (a2 : List F) (a4 : Int) (a6 : Int) (a7 : List F) : (F × Int) → Option (LR (F × Int) (F) (F)) := fun s => i_Matrix_lessRow_b1 a0 a1 a2 a4 a6 a7 s.1 s.2
noncomputable def i_Matrix_lessRow_k1 (y8 : F) : Option (F) :=
 some y8
noncomputable def i_Matrix_lessRow (a0 : Int) (a1 : Int) (a2 : List F) (a3 : F) (a4 : Int) (a5 : Int) (a6 : Int) (a7 : List F) : Option (F) :=
 obind (loopM (i_Matrix_lessRow_s1 a0 a1 a2 a4 a6 a7) (a3, a5)) fun z => osum z (fun e => i_Matrix_lessRow_k1 e) (fun r => some r)
theorem i_Matrix_lessRow_ok (a0 : Int) (a1 : Int) (a2 : List F) (a3 : F) (a4 : Int) (a5 : Int) (a6 : Int) (a7 : List F) (q0 : F) (h : i_Matrix_lessRow a0 a1 a2 a3 a4 a5 a6 a7 = some q0) : Ev Tryz.prog 125 [agg [i64 a0, i64 a1, sl a2.length (a2.map f32)], f32 a3, i64 a4, i64 a5, i64 a6, sl a7.length (a7.map f32)] [] (f32 q0) [] := by
 refine Ev.start Tryz.func125 rfl rfl 0 (τ := [(0, agg [i64 a0, i64 a1, sl a2.length (a2.map f32)]), (1, f32 a3), (2, i64 a4), (3, i64 a5), (4, i64 a6), (5, sl a7.length (a7.map f32))]) rfl (Γ' := []) rfl (n := 65) rfl (g := 0) rfl (fun _ => rfl) ?_
 unfold i_Matrix_lessRow at h
 refine zQ ?_
 refine ROps.d (r := ptr [i64 a0, i64 a1, sl a2.length (a2.map f32)]) (fs := []) (Γ' := []) rfl rfl rfl (TOp.box_s rfl rfl rfl) rfl ?_
 refine zL (r := f32 (some 0)) rfl rfl rfl (LOp.le (LOp.assign rfl rfl) (ALe.fl (by kernel_rfl) (by kernel_rfl))) ?_
 refine zN ?_
 refine RunC.seq ?_
 refine zQ ?_
 refine zM (r := i64 a5) rfl rfl rfl rfl rfl ?_
 refine zA (r := i64 a5) rfl rfl rfl rfl rfl ?_
 refine zN ?_
 obtain ⟨z2, hz_2, h⟩ := obind_some h
 refine RunC.cutN (fun τ Γ => ∃ (y8 : F), WeakLe τ [(1, f32 y8)] ∧ DeadLe Γ [] ∧ z2 = .inl y8) ?_ ?_
 ·refine RunC.block (RunC.loop (RunL.loopM (x := z2) (i_Matrix_lessRow_s1 a0 a1 a2 a4 a6 a7) (fun (s : F × Int) τ Γ => WeakLe τ [(1, f32 s.1), (2, i64 a4), (4, i64 a6), (5, sl a7.length (a7.map f32)), (6, ptr [i64 a0, i64 a1, sl a2.length (a2.map f32)]), (13, i64 s.2)] ∧ DeadLe Γ []) ?_ _ _ _ hz_2 ⟨⟨aR, aR, aR, aR, aR, aR, trivial⟩, trivial⟩))
  rintro ⟨y1, v2⟩ τ2 Γ2 y2_ ⟨hw2, hd2⟩ h2_ ho2 hr2
  refine RunC.wl (τ' := [(1, f32 y1), (2, i64 a4), (4, i64 a6), (5, sl a7.length (a7.map f32)), (6, ptr [i64 a0, i64 a1, sl a2.length (a2.map f32)]), (13, i64 v2)]) (Γ' := []) hw2 hd2 ?_
  replace h2_ : i_Matrix_lessRow_b1 a0 a1 a2 a4 a6 a7 y1 v2 = some y2_ := h2_
  unfold i_Matrix_lessRow_b1 at h2_
  refine RunC.seq ?_
  refine RunC.seq ?_
  rcases bsel_some h2_ with ⟨hc1, h2_⟩ | ⟨hc1, h2_⟩
  ·refine RunC.regionW ?_
   refine zM (r := i64 v2) rfl rfl rfl rfl rfl ?_
   refine zM (r := i64 a6) rfl rfl rfl rfl rfl ?_
   refine zL (r := b true) rfl rfl rfl (LOp.eqb (LOp.lss rfl rfl rfl) hc1) ?_
   refine zN ?_
   refine RunC.cond_true rfl rfl ?_
   refine RunC.skip ?_
   refine RunC.seq ?_
   refine RunC.block ?_
   obtain ⟨r3, hf2, h2_⟩ := obind_some h2_
   obtain ⟨e4, he3, h2_⟩ := obind_some h2_
   obtain ⟨r5, hf4, h2_⟩ := obind_some h2_
   obtain ⟨x6, hx5, h2_⟩ := olet_some h2_
   refine RunC.region_draw (Γ' := []) 12 mixed 
    (TR.l (r := f32 y1) rfl rfl (LOp.move rfl rfl) <|
    (TR.l (r := agg [i64 a0, i64 a1, sl a2.length (a2.map f32)]) rfl rfl (LOp.loadAgg agg26 siz26 rfl rfl rfl rfl) <|
    (TR.l (r := i64 a4) rfl rfl (LOp.move rfl rfl) <|
    (TR.l (r := i64 v2) rfl rfl (LOp.move rfl rfl) <|
    (TR.d (r := f32 r3) (fs := []) rfl rfl (TOp.callB (CallAs.func ent35 rfl rfl) (Bors.cons (Bor.agg (Bors.cons (Bor.pure rfl) (Bors.cons (Bor.pure rfl) (Bors.cons (Bor.sl (fun _ => rfl)) Bors.nil)))) (Bors.cons (Bor.pure rfl) (Bors.cons (Bor.pure rfl) Bors.nil))) rfl rfl (i_Matrix_at_ok a0 a1 a2 a4 v2 r3 hf2)) <|
    (TR.l (r := sl a7.length (a7.map f32)) rfl rfl (LOp.move rfl rfl) <|
    (TR.l (r := i64 v2) rfl rfl (LOp.move rfl rfl) <|
    (TR.l (r := ptr [f32 e4]) rfl rfl (LOp.le (LOp.ix (f := f32) und22 siz33 rfl rfl rfl rfl he3) ALe.ptr) <|
    (TR.l (r := f32 e4) rfl rfl (LOp.load1 agg33 rfl rfl) <|
    (TR.d (r := f32 r5) (fs := []) rfl rfl (TOp.callB (CallAs.func ent34 rfl rfl) (Bors.cons (Bor.pure rfl) (Bors.cons (Bor.pure rfl) Bors.nil)) rfl rfl (i_mul_ok r3 e4 r5 hf4)) <|
    (TR.d (r := f32 x6) (fs := []) rfl rfl (TOp.eqr (TOp.fop (.inr (.inl rfl)) rfl (OpF.tmp rfl) (OpF.tmp rfl)) (congrArg (f .f32) hx5)) <|
    (TR.l (r := f32 x6) rfl rfl (LOp.assign rfl rfl) <|
    TR.nil)))))))))))) rfl (by kernel_rfl) rfl fills_nil rfl ?_
   iterate 12 refine ROps.dropS ?_
   refine ROps.drop0 ?_
   refine zN ?_
   refine RunC.wl (τ' := [(1, f32 x6), (2, i64 a4), (4, i64 a6), (5, sl a7.length (a7.map f32)), (6, ptr [i64 a0, i64 a1, sl a2.length (a2.map f32)]), (13, i64 v2)]) (Γ' := []) ⟨aR, aR, aR, aR, aR, aR, trivial⟩ trivial ?_
   obtain ⟨x7, hx6, h2_⟩ := olet_some h2_
   refine RunC.regionW ?_
   refine zM (r := i64 v2) rfl rfl rfl rfl rfl ?_
   refine zL (r := i64 x7) rfl rfl rfl (LOp.eqr (LOp.add rfl rfl rfl) (congrArg (ik .i64) hx6)) ?_
   refine zA (r := i64 x7) rfl rfl rfl rfl rfl ?_
   refine zN ?_
   cases Option.some.inj h2_
   exact ⟨_, rfl, ⟨aR, aR, aR, aR, aR, aR, trivial⟩, trivial⟩
  ·refine RunC.regionW ?_
   refine zM (r := i64 v2) rfl rfl rfl rfl rfl ?_
   refine zM (r := i64 a6) rfl rfl rfl rfl rfl ?_
   refine zL (r := b false) rfl rfl rfl (LOp.eqb (LOp.lss rfl rfl rfl) hc1) ?_
   refine zN ?_
   refine RunC.cond_false rfl rfl ?_
   refine RunC.exit ?_
   cases Option.some.inj h2_
   have hx := ho2 _ rfl
   exact ⟨y1, ⟨aR, trivial⟩, trivial, hx⟩
 ·rintro τ3 Γ3 ⟨y8, hw3, hd3, rfl⟩
  refine RunC.wl hw3 hd3 ?_
  replace h : i_Matrix_lessRow_k1 y8 = some q0 := h
  unfold i_Matrix_lessRow_k1 at h
  refine zQ ?_
  refine zM (r := f32 y8) rfl rfl rfl rfl rfl ?_
  refine zA (r := f32 y8) rfl rfl rfl rfl rfl ?_
  refine zN ?_
  refine RunC.ret ?_
  have hq := Option.some.inj h
  subst q0
  exact bodyQ.pure (.inr rfl) rfl (Res.one rfl (RV.tmp rfl))
noncomputable def i_Matrix_upperSolve_b1 (a0 : Int) (a1 : Int) (a2 : List F) (L3 : List F) (v5 : Int) : Option (LR ((List F) × Int) ((List F)) ((List F))) :=
 bsel (decide (0 ≤ v5)) (
  obind (at? L3 v5) fun (e6 : F) =>
  olet (IntKind.i64.wrap (v5 + 1)) fun (x7 : Int) =>
  obind (i_Matrix_lessRow a0 a1 a2 e6 v5 x7 a1 L3) fun (r8 : F) =>
  obind (i_Matrix_at a0 a1 a2 v5 v5) fun (r9 : F) =>
  olet (fop .quo .f32 r8 r9) fun (x10 : F) =>
  obind (setAt? L3 v5 x10) fun (L11 : List F) =>
  olet (IntKind.i64.wrap (v5 - 1)) fun (x12 : Int) =>
  some (LR.next (L11, x12))) (
  some (LR.out L3))
noncomputable def i_Matrix_upperSolve_s1 (a0 : Int) (a1 : Int) (a2 : List F) : ((List F) × Int) → Option (LR ((List F) × Int) ((List F)) ((List F))) := fun s => i_Matrix_upperSolve_b1 a0 a1 a2 s.1 s.2
noncomputable def i_Matrix_upperSolve_k1 (L13 : List F) : Option ((List F)) :=
 some L13
noncomputable def i_Matrix_upperSolve (a0 : Int) (a1 : Int) (a2 : List F) (a3 : List F) : Option ((List F)) :=
 obind (x_slices_Clone_float32_float32 a3) fun (r1 : List F) =>
 olet (IntKind.i64.wrap (a0 - 1)) fun (x2 : Int) =>
 obind (loopM (i_Matrix_upperSolve_s1 a0 a1 a2) (r1, x2)) fun z => osum z (fun e => i_Matrix_upperSolve_k1 e) (fun r => some r)
theorem i_Matrix_upperSolve_ok (a0 : Int) (a1 : Int) (a2 : List F) (a3 : List F) (q0 : List F) (h : i_Matrix_upperSolve a0 a1 a2 a3 = some q0) : Ev Tryz.prog 126 [agg [i64 a0, i64 a1, sl a2.length (a2.map f32)], sl a3.length (a3.map f32)] [] (oref 0 0 0 q0.length) [⟨0, some (q0.map f32)⟩] := by
 refine Ev.start Tryz.func126 rfl rfl 1 (τ := [(0, agg [i64 a0, i64 a1, sl a2.length (a2.map f32)]), (1, sl a3.length (a3.map f32))]) rfl (Γ' := [⟨0, none⟩]) rfl (n := 75) rfl (g := 0) rfl (fun _ => rfl) ?_
 unfold i_Matrix_upperSolve at h
 refine zQ ?_
 refine ROps.d (r := ptr [i64 a0, i64 a1, sl a2.length (a2.map f32)]) (fs := []) (Γ' := [⟨0, none⟩]) rfl rfl rfl (TOp.box_s rfl rfl rfl) rfl ?_
 refine zA (r := nilsl) rfl rfl rfl rfl rfl ?_
 refine zN ?_
 refine RunC.seq ?_
 obtain ⟨r1, hf1, h⟩ := obind_some h
 refine RunC.regionW ?_
 refine zM (r := sl a3.length (a3.map f32)) rfl rfl rfl rfl rfl ?_
 refine ROps.d (r := oref 0 1 0 r1.length) (fs := [(0, (r1.map f32))]) (Γ' := [⟨1, some (r1.map f32)⟩]) rfl rfl rfl (TOp.callBN (ls := [(r1.map f32)]) [0] (CallAs.func ent97 rfl rfl) (Bors.cons (Bor.sl (fun _ => rfl)) Bors.nil) rfl (x_slices_Clone_float32_float32_ok a3 r1 hf1) (and_all (lts0_map (f := f32) (fun _ => rfl) _) rfl) (and_all (noss_map (f := f32) (fun _ => rfl) _) rfl) rfl (by decide) (ns_of ⟨⟨_, rfl⟩, trivial⟩)) rfl ?_
 refine zA (r := oref 0 1 0 r1.length) rfl rfl rfl rfl rfl ?_
 refine zN ?_
 refine RunC.seq ?_
 refine RunC.seq ?_
 obtain ⟨x2, hx2, h⟩ := olet_some h
 refine RunC.regionW ?_
 refine zL (r := ptr [i64 a0, i64 a1, sl a2.length (a2.map f32)]) rfl rfl rfl (LOp.fap und26 rfl siz2 rfl rfl rfl) ?_
 refine zL (r := i64 a0) rfl rfl rfl (LOp.load1 agg2 rfl rfl) ?_
 refine zL (r := i64 x2) rfl rfl rfl (LOp.eqr (LOp.sub rfl rfl rfl) (congrArg (ik .i64) hx2)) ?_
 refine zA (r := i64 x2) rfl rfl rfl rfl rfl ?_
 refine zN ?_
 obtain ⟨z2, hz_2, h⟩ := obind_some h
 refine RunC.cutN (fun τ Γ => ∃ (L13 : List F), L13.length = r1.length ∧ WeakLe τ [(5, oref 0 1 0 r1.length)] ∧ DeadLe Γ [⟨1, some (L13.map f32)⟩] ∧ z2 = .inl L13) ?_ ?_
 ·refine RunC.block (RunC.loop (RunL.loopM (x := z2) (i_Matrix_upperSolve_s1 a0 a1 a2) (fun (s : (List F) × Int) τ Γ => s.1.length = r1.length ∧ WeakLe τ [(2, ptr [i64 a0, i64 a1, sl a2.length (a2.map f32)]), (5, oref 0 1 0 r1.length), (6, i64 s.2)] ∧ DeadLe Γ [⟨1, some (s.1.map f32)⟩]) ?_ _ _ _ hz_2 ⟨rfl, ⟨aR, aR, aR, trivial⟩, ⟨⟨rfl, .inr rfl⟩, trivial⟩⟩))
  rintro ⟨L3, v5⟩ τ2 Γ2 y2_ ⟨hl4, hw2, hd2⟩ h2_ ho2 hr2
  refine RunC.wl (τ' := [(2, ptr [i64 a0, i64 a1, sl a2.length (a2.map f32)]), (5, oref 0 1 0 r1.length), (6, i64 v5)]) (Γ' := [⟨1, some (L3.map f32)⟩]) hw2 hd2 ?_
  replace hl4 : L3.length = r1.length := hl4
  replace h2_ : i_Matrix_upperSolve_b1 a0 a1 a2 L3 v5 = some y2_ := h2_
  unfold i_Matrix_upperSolve_b1 at h2_
  refine RunC.seq ?_
  refine RunC.seq ?_
  rcases bsel_some h2_ with ⟨hc3, h2_⟩ | ⟨hc3, h2_⟩
  ·refine RunC.regionW ?_
   refine zM (r := i64 v5) rfl rfl rfl rfl rfl ?_
   refine zL (r := b true) rfl rfl rfl (LOp.eqb (LOp.geq rfl rfl rfl) hc3) ?_
   refine zN ?_
   refine RunC.cond_true rfl rfl ?_
   refine RunC.skip ?_
   refine RunC.seq ?_
   refine RunC.block ?_
   obtain ⟨e6, he4, h2_⟩ := obind_some h2_
   obtain ⟨x7, hx5, h2_⟩ := olet_some h2_
   obtain ⟨r8, hf6, h2_⟩ := obind_some h2_
   obtain ⟨r9, hf7, h2_⟩ := obind_some h2_
   obtain ⟨x10, hx8, h2_⟩ := olet_some h2_
   obtain ⟨L11, he9, h2_⟩ := obind_some h2_
   refine RunC.region_draw (Γ' := [⟨1, some (L3.map f32)⟩]) 20 mixed 
    (TR.l (r := oref 0 1 0 r1.length) rfl rfl (LOp.move rfl rfl) <|
    (TR.l (r := i64 v5) rfl rfl (LOp.move rfl rfl) <|
    (TR.l (r := agg [i64 a0, i64 a1, sl a2.length (a2.map f32)]) rfl rfl (LOp.loadAgg agg26 siz26 rfl rfl rfl rfl) <|
    (TR.l (r := oref 0 1 0 r1.length) rfl rfl (LOp.move rfl rfl) <|
    (TR.l (r := i64 v5) rfl rfl (LOp.move rfl rfl) <|
    (TR.d (r := optr 0 1 v5.toNat) (fs := []) rfl rfl (TOp.ixo und22 siz33 rfl rfl rfl (at_in he4 hl4) rfl) <|
    (TR.d (r := f32 e6) (fs := []) rfl rfl (TOp.load1_o rfl (at_cell he4) agg33 rfl rfl) <|
    (TR.l (r := i64 v5) rfl rfl (LOp.move rfl rfl) <|
    (TR.l (r := i64 v5) rfl rfl (LOp.move rfl rfl) <|
    (TR.l (r := i64 x7) rfl rfl (LOp.eqr (LOp.add rfl rfl rfl) (congrArg (ik .i64) hx5)) <|
    (TR.l (r := ptr [i64 a1, sl a2.length (a2.map f32)]) rfl rfl (LOp.fap und26 rfl siz2 rfl rfl rfl) <|
    (TR.l (r := i64 a1) rfl rfl (LOp.load1 agg2 rfl rfl) <|
    (TR.l (r := oref 0 1 0 r1.length) rfl rfl (LOp.move rfl rfl) <|
    (TR.d (r := f32 r8) (fs := []) rfl rfl (TOp.callB (CallAs.func ent125 rfl rfl) (Bors.cons (Bor.agg (Bors.cons (Bor.pure rfl) (Bors.cons (Bor.pure rfl) (Bors.cons (Bor.sl (fun _ => rfl)) Bors.nil)))) (Bors.cons (Bor.pure rfl) (Bors.cons (Bor.pure rfl) (Bors.cons (Bor.pure rfl) (Bors.cons (Bor.pure rfl) (Bors.cons (Bor.own (f := f32) (fun _ => rfl) rfl hl4) Bors.nil)))))) rfl rfl (i_Matrix_lessRow_ok a0 a1 a2 e6 v5 x7 a1 L3 r8 hf6)) <|
    (TR.l (r := agg [i64 a0, i64 a1, sl a2.length (a2.map f32)]) rfl rfl (LOp.loadAgg agg26 siz26 rfl rfl rfl rfl) <|
    (TR.l (r := i64 v5) rfl rfl (LOp.move rfl rfl) <|
    (TR.l (r := i64 v5) rfl rfl (LOp.move rfl rfl) <|
    (TR.d (r := f32 r9) (fs := []) rfl rfl (TOp.callB (CallAs.func ent35 rfl rfl) (Bors.cons (Bor.agg (Bors.cons (Bor.pure rfl) (Bors.cons (Bor.pure rfl) (Bors.cons (Bor.sl (fun _ => rfl)) Bors.nil)))) (Bors.cons (Bor.pure rfl) (Bors.cons (Bor.pure rfl) Bors.nil))) rfl rfl (i_Matrix_at_ok a0 a1 a2 v5 v5 r9 hf7)) <|
    (TR.d (r := f32 x10) (fs := []) rfl rfl (TOp.eqr (TOp.fop (.inr (.inr (.inr rfl))) rfl (OpF.tmp rfl) (OpF.tmp rfl)) (congrArg (f .f32) hx8)) <|
    (TR.d (r := optr 0 1 v5.toNat) (fs := []) rfl rfl (TOp.ixo und22 siz33 rfl rfl rfl (set_in he9 hl4) rfl) <|
    TR.nil)))))))))))))))))))) rfl (by kernel_rfl) rfl fills_nil rfl ?_
   iterate 20 refine ROps.dropS ?_
   refine ROps.drop0 ?_
   refine ROps.st (f := f32) (i := v5) (Γ' := [⟨1, some (L11.map f32)⟩]) rfl siz33 rfl rfl rfl aR rfl rfl rfl he9 rfl ?_
   refine zN ?_
   refine RunC.wl (τ' := [(2, ptr [i64 a0, i64 a1, sl a2.length (a2.map f32)]), (5, oref 0 1 0 r1.length), (6, i64 v5)]) (Γ' := [⟨1, some (L11.map f32)⟩]) ⟨aR, aR, aR, trivial⟩ ⟨⟨rfl, .inr rfl⟩, trivial⟩ ?_
   obtain ⟨x12, hx10, h2_⟩ := olet_some h2_
   refine RunC.regionW ?_
   refine zM (r := i64 v5) rfl rfl rfl rfl rfl ?_
   refine zL (r := i64 x12) rfl rfl rfl (LOp.eqr (LOp.sub rfl rfl rfl) (congrArg (ik .i64) hx10)) ?_
   refine zA (r := i64 x12) rfl rfl rfl rfl rfl ?_
   refine zN ?_
   cases Option.some.inj h2_
   exact ⟨_, rfl, ((setAt?_len he9).trans hl4), ⟨aR, aR, aR, trivial⟩, ⟨⟨rfl, .inr rfl⟩, trivial⟩⟩
  ·refine RunC.regionW ?_
   refine zM (r := i64 v5) rfl rfl rfl rfl rfl ?_
   refine zL (r := b false) rfl rfl rfl (LOp.eqb (LOp.geq rfl rfl rfl) hc3) ?_
   refine zN ?_
   refine RunC.cond_false rfl rfl ?_
   refine RunC.exit ?_
   cases Option.some.inj h2_
   have hx := ho2 _ rfl
   exact ⟨L3, hl4, ⟨aR, trivial⟩, ⟨⟨rfl, .inr rfl⟩, trivial⟩, hx⟩
 ·rintro τ3 Γ3 ⟨L13, hl14, hw3, hd3, rfl⟩
  refine RunC.wl hw3 hd3 ?_
  replace h : i_Matrix_upperSolve_k1 L13 = some q0 := h
  unfold i_Matrix_upperSolve_k1 at h
  refine zQ ?_
  refine zM (r := oref 0 1 0 r1.length) rfl rfl rfl rfl rfl ?_
  refine zA (r := oref 0 1 0 r1.length) rfl rfl rfl rfl rfl ?_
  refine zN ?_
  refine RunC.ret ?_
  have hq := Option.some.inj h
  subst q0
  exact bodyQ.mk (r' := oref 0 1 0 L13.length) [(0, 1)] (.inr rfl) rfl (show List.Nodup [0] from by decide) rfl rfl (Res.eq (Res.one rfl (RV.tmp rfl)) (by rw [(show L13.length = r1.length from hl14)] <;> rfl)) (SelL.arr0 (f := f32) (fun _ => rfl) rfl trivial)
noncomputable def i_Factor_solve_b1 (a3 : List Int) (a4 : List F) (L3 : List F) (v4 : Int) : Option (LR ((List F) × Int) ((List F)) ((List F))) :=
 bsel (decide (v4 < (a3.length : Int))) (
  obind (at? a3 v4) fun (e5 : Int) =>
  obind (at? a4 e5) fun (e6 : F) =>
  need (apok 4 L3.length 1) <|
  olet (IntKind.i64.wrap (v4 + 1)) fun (x7 : Int) =>
  some (LR.next ((L3 ++ ([e6] : List F)), x7))) (
  some (LR.out L3))
noncomputable def i_Factor_solve_s1 (a3 : List Int) (a4 : List F) : ((List F) × Int) → Option (LR ((List F) × Int) ((List F)) ((List F))) := fun s => i_Factor_solve_b1 a3 a4 s.1 s.2
noncomputable def i_Factor_solve_b2 (a0 : Int) (a1 : Int) (a2 : List F) (L11 : List F) (v13 : Int) : Option (LR ((List F) × Int) ((List F)) ((List F))) :=
 bsel (decide (v13 < a0)) (
  obind (at? L11 v13) fun (e14 : F) =>
  obind (i_Matrix_lessRow a0 a1 a2 e14 v13 0 v13 L11) fun (r15 : F) =>
  obind (setAt? L11 v13 r15) fun (L16 : List F) =>
  olet (IntKind.i64.wrap (v13 + 1)) fun (x17 : Int) =>
  some (LR.next (L16, x17))) (
  some (LR.out L11))
noncomputable def i_Factor_solve_s2 (a0 : Int) (a1 : Int) (a2 : List F) : ((List F) × Int) → Option (LR ((List F) × Int) ((List F)) ((List F))) := fun s => i_Factor_solve_b2 a0 a1 a2 s.1 s.2
noncomputable def i_Factor_solve_k2 (a0 : Int) (a1 : Int) (a2 : List F) (L18 : List F) : Option ((List F)) :=
 obind (i_Matrix_upperSolve a0 a1 a2 L18) fun (r20 : List F) =>
 some r20
noncomputable def i_Factor_solve_k1 (a0 : Int) (a1 : Int) (a2 : List F) (L10 : List F) : Option ((List F)) :=
 obind (loopM (i_Factor_solve_s2 a0 a1 a2) (L10, 1)) fun z => osum z (fun e => i_Factor_solve_k2 a0 a1 a2 e) (fun r => some r)
noncomputable def i_Factor_solve (a0 : Int) (a1 : Int) (a2 : List F) (a3 : List Int) (a4 : List F) : Option ((List F)) :=
 obind (loopM (i_Factor_solve_s1 a3 a4) (([] : List F), 0)) fun z => osum z (fun e => i_Factor_solve_k1 a0 a1 a2 e) (fun r => some r)
theorem i_Factor_solve_ok (a0 : Int) (a1 : Int) (a2 : List F) (a3 : List Int) (a4 : List F) (q0 : List F) (h : i_Factor_solve a0 a1 a2 a3 a4 = some q0) : Ev Tryz.prog 89 [agg [i64 a0, i64 a1, sl a2.length (a2.map f32), sl a3.length (a3.map i64)], sl a4.length (a4.map f32)] [] (oref 0 0 0 q0.length) [⟨0, some (q0.map f32)⟩] := by
 refine Ev.start Tryz.func89 rfl rfl 2 (τ := [(0, agg [i64 a0, i64 a1, sl a2.length (a2.map f32), sl a3.length (a3.map i64)]), (1, sl a4.length (a4.map f32))]) rfl (Γ' := [⟨0, none⟩, ⟨0, none⟩]) rfl (n := 103) rfl (g := 0) rfl (fun _ => rfl) ?_
 unfold i_Factor_solve at h
 refine zQ ?_
 refine ROps.d (r := ptr [i64 a0, i64 a1, sl a2.length (a2.map f32), sl a3.length (a3.map i64)]) (fs := []) (Γ' := [⟨0, none⟩, ⟨0, none⟩]) rfl rfl rfl (TOp.box_s rfl rfl rfl) rfl ?_
 refine zA (r := nilsl) rfl rfl rfl rfl rfl ?_
 refine zN ?_
 refine zQ ?_
 refine zL (r := ptr [i64 a0, i64 a1, sl a2.length (a2.map f32), sl a3.length (a3.map i64)]) rfl rfl rfl (LOp.fap und65 rfl siz26 rfl rfl rfl) ?_
 refine zL (r := ptr [i64 a0, i64 a1, sl a2.length (a2.map f32), sl a3.length (a3.map i64)]) rfl rfl rfl (LOp.fap und26 rfl siz2 rfl rfl rfl) ?_
 refine zL (r := i64 a0) rfl rfl rfl (LOp.load1 agg2 rfl rfl) ?_
 refine ROps.d (r := oref 0 1 0 0) (fs := [(0, (([] : List F).map f32))]) (Γ' := [⟨1, some (([] : List F).map f32)⟩, ⟨0, none⟩]) rfl rfl rfl (TOp.buildSlice_o (g := ⟨0, none⟩) (za := f32 (some 0)) (qs := []) 0 rfl und22 siz33 zer33 rfl zel33 rfl rfl trivial rfl) rfl ?_
 refine zA (r := i64 a0) rfl rfl rfl rfl rfl ?_
 refine zA (r := oref 0 1 0 0) rfl rfl rfl rfl rfl ?_
 refine zN ?_
 refine RunC.seq ?_
 refine zQ ?_
 refine zL (r := ptr [sl a3.length (a3.map i64)]) rfl rfl rfl (LOp.fap und65 rfl siz53 rfl rfl rfl) ?_
 refine zL (r := sl a3.length (a3.map i64)) rfl rfl rfl (LOp.load1 agg53 rfl rfl) ?_
 refine zL (r := i64 (a3.length : Int)) rfl rfl rfl (LOp.len_sl und53 rfl rfl) ?_
 refine zM (r := i64 0) rfl rfl rfl rfl rfl ?_
 refine zN ?_
 obtain ⟨z3, hz_3, h⟩ := obind_some h
 refine RunC.cutN (fun τ Γ => ∃ (L10 : List F) (u8 : Nat) (u9 : Nat), WeakLe τ [(2, ptr [i64 a0, i64 a1, sl a2.length (a2.map f32), sl a3.length (a3.map i64)]), (5, i64 a0), (6, oref 0 u8 0 L10.length)] ∧ DeadLe Γ [⟨u8, some (L10.map f32)⟩, ⟨u9, none⟩] ∧ z3 = .inl L10) ?_ ?_
 ·refine RunC.block (RunC.loop (RunL.loopM (x := z3) (i_Factor_solve_s1 a3 a4) (fun (s : (List F) × Int) τ Γ => ∃ (u1 : Nat) (u2 : Nat), WeakLe τ [(1, sl a4.length (a4.map f32)), (2, ptr [i64 a0, i64 a1, sl a2.length (a2.map f32), sl a3.length (a3.map i64)]), (5, i64 a0), (6, oref 0 u1 0 s.1.length), (15, sl a3.length (a3.map i64)), (16, i64 (a3.length : Int)), (17, i64 s.2)] ∧ DeadLe Γ [⟨u1, some (s.1.map f32)⟩, ⟨u2, none⟩]) ?_ _ _ _ hz_3 ⟨1, 0, ⟨aR, aR, aR, aR, aR, aR, aR, trivial⟩, ⟨⟨rfl, .inr rfl⟩, ⟨rfl, .inl rfl⟩, trivial⟩⟩))
  rintro ⟨L3, v4⟩ τ3 Γ3 y3_ ⟨u1, u2, hw3, hd3⟩ h3_ ho3 hr3
  refine RunC.wl (τ' := [(1, sl a4.length (a4.map f32)), (2, ptr [i64 a0, i64 a1, sl a2.length (a2.map f32), sl a3.length (a3.map i64)]), (5, i64 a0), (6, oref 0 u1 0 L3.length), (15, sl a3.length (a3.map i64)), (16, i64 (a3.length : Int)), (17, i64 v4)]) (Γ' := [⟨u1, some (L3.map f32)⟩, ⟨u2, none⟩]) hw3 hd3 ?_
  replace h3_ : i_Factor_solve_b1 a3 a4 L3 v4 = some y3_ := h3_
  unfold i_Factor_solve_b1 at h3_
  refine RunC.seq ?_
  rcases bsel_some h3_ with ⟨hc1, h3_⟩ | ⟨hc1, h3_⟩
  ·refine RunC.regionW ?_
   refine zL (r := b true) rfl rfl rfl (LOp.eqb (LOp.lss rfl rfl rfl) hc1) ?_
   refine zN ?_
   refine RunC.seq ?_
   refine RunC.cond_true rfl rfl ?_
   refine RunC.skip ?_
   refine RunC.seq ?_
   refine RunC.block ?_
   refine RunC.seq ?_
   obtain ⟨e5, he2, h3_⟩ := obind_some h3_
   refine RunC.regionW ?_
   refine zL (r := ptr [i64 e5]) rfl rfl rfl (LOp.le (LOp.ix (f := i64) und53 siz2 rfl rfl rfl rfl he2) ALe.ptr) ?_
   refine zL (r := i64 e5) rfl rfl rfl (LOp.load1 agg2 rfl rfl) ?_
   refine zA (r := i64 e5) rfl rfl rfl rfl rfl ?_
   refine zN ?_
   obtain ⟨e6, he3, h3_⟩ := obind_some h3_
   obtain ⟨hm4, h3_⟩ := need_some h3_
   refine RunC.regionW ?_
   refine zM (r := oref 0 u1 0 L3.length) rfl rfl rfl rfl rfl ?_
   refine zM (r := sl a4.length (a4.map f32)) rfl rfl rfl rfl rfl ?_
   refine zM (r := i64 e5) rfl rfl rfl rfl rfl ?_
   refine zL (r := ptr [f32 e6]) rfl rfl rfl (LOp.le (LOp.ix (f := f32) und22 siz33 rfl rfl rfl rfl he3) ALe.ptr) ?_
   refine zL (r := f32 e6) rfl rfl rfl (LOp.load1 agg33 rfl rfl) ?_
   refine ROps.d (r := oref 1 (u2 + 1) 0 1) (fs := [(1, (([e6] : List F).map f32))]) (Γ' := [⟨u1, some (L3.map f32)⟩, ⟨(u2 + 1), some (([e6] : List F).map f32)⟩]) rfl rfl rfl (TOp.buildSlice_o (g := ⟨u2, none⟩) (za := f32 (some 0)) (qs := [(0, [f32 e6])]) 1 rfl und22 siz33 zer33 rfl zel33 rfl rfl ⟨rfl, ⟨_, ALe.refl _, rfl⟩, trivial⟩ rfl) rfl ?_
   refine ROps.app (f := f32) (xs := L3) (ys := ([e6] : List F)) (Γ' := [⟨(u1 + 1), some ((L3 ++ ([e6] : List F)).map f32)⟩, ⟨(u2 + 1), some (([e6] : List F).map f32)⟩]) rfl pun22 inf33 rfl rfl rfl rfl rfl rfl rfl rfl rfl (by simp) (ReadAs.own rfl (by simp)) (ones_map (fun _ => rfl)) (ap_by hm4) (ap_mx hm4) rfl ?_
   refine zA (r := oref 0 (u1 + 1) 0 (L3.length + 1)) rfl rfl rfl rfl rfl ?_
   refine zN ?_
   refine RunC.wl (τ' := [(1, sl a4.length (a4.map f32)), (2, ptr [i64 a0, i64 a1, sl a2.length (a2.map f32), sl a3.length (a3.map i64)]), (5, i64 a0), (6, oref 0 (u1 + 1) 0 (L3.length + 1)), (15, sl a3.length (a3.map i64)), (16, i64 (a3.length : Int)), (17, i64 v4)]) (Γ' := [⟨(u1 + 1), some ((L3 ++ ([e6] : List F)).map f32)⟩, ⟨(u2 + 1), none⟩]) ⟨aR, aR, aR, aR, aR, aR, aR, trivial⟩ ⟨⟨rfl, .inr rfl⟩, ⟨rfl, .inl rfl⟩, trivial⟩ ?_
   obtain ⟨x7, hx5, h3_⟩ := olet_some h3_
   refine RunC.regionW ?_
   refine zL (r := i64 x7) rfl rfl rfl (LOp.eqr (LOp.add rfl rfl rfl) (congrArg (ik .i64) hx5)) ?_
   refine zM (r := i64 x7) rfl rfl rfl rfl rfl ?_
   refine zN ?_
   cases Option.some.inj h3_
   exact ⟨_, rfl, (u1 + 1), (u2 + 1), ⟨aR, aR, aR, (ALe.eq (by rw [(app_len rfl rfl)] <;> rfl)), aR, aR, aR, trivial⟩, ⟨⟨rfl, .inr rfl⟩, ⟨rfl, .inl rfl⟩, trivial⟩⟩
  ·refine RunC.regionW ?_
   refine zL (r := b false) rfl rfl rfl (LOp.eqb (LOp.lss rfl rfl rfl) hc1) ?_
   refine zN ?_
   refine RunC.seq ?_
   refine RunC.cond_false rfl rfl ?_
   refine RunC.exit ?_
   cases Option.some.inj h3_
   have hx := ho3 _ rfl
   exact ⟨L3, u1, u2, ⟨aR, aR, aR, trivial⟩, ⟨⟨rfl, .inr rfl⟩, ⟨rfl, .inl rfl⟩, trivial⟩, hx⟩
 ·rintro τ4 Γ4 ⟨L10, u8, u9, hw4, hd4, rfl⟩
  refine RunC.wl hw4 hd4 ?_
  replace h : i_Factor_solve_k1 a0 a1 a2 L10 = some q0 := h
  unfold i_Factor_solve_k1 at h
  refine RunC.seq ?_
  refine zQ ?_
  refine zA (r := i64 1) rfl rfl rfl rfl rfl ?_
  refine zN ?_
  obtain ⟨z5, hz_5, h⟩ := obind_some h
  refine RunC.cutN (fun τ Γ => ∃ (L18 : List F), L18.length = L10.length ∧ WeakLe τ [(2, ptr [i64 a0, i64 a1, sl a2.length (a2.map f32), sl a3.length (a3.map i64)]), (6, oref 0 u8 0 L10.length)] ∧ DeadLe Γ [⟨u8, some (L18.map f32)⟩, ⟨u9, none⟩] ∧ z5 = .inl L18) ?_ ?_
  ·refine RunC.block (RunC.loop (RunL.loopM (x := z5) (i_Factor_solve_s2 a0 a1 a2) (fun (s : (List F) × Int) τ Γ => s.1.length = L10.length ∧ WeakLe τ [(2, ptr [i64 a0, i64 a1, sl a2.length (a2.map f32), sl a3.length (a3.map i64)]), (5, i64 a0), (6, oref 0 u8 0 L10.length), (9, i64 s.2)] ∧ DeadLe Γ [⟨u8, some (s.1.map f32)⟩, ⟨u9, none⟩]) ?_ _ _ _ hz_5 ⟨rfl, ⟨aR, aR, aR, aR, trivial⟩, ⟨⟨rfl, .inr rfl⟩, ⟨rfl, .inl rfl⟩, trivial⟩⟩))
   rintro ⟨L11, v13⟩ τ5 Γ5 y5_ ⟨hl12, hw5, hd5⟩ h5_ ho5 hr5
   refine RunC.wl (τ' := [(2, ptr [i64 a0, i64 a1, sl a2.length (a2.map f32), sl a3.length (a3.map i64)]), (5, i64 a0), (6, oref 0 u8 0 L10.length), (9, i64 v13)]) (Γ' := [⟨u8, some (L11.map f32)⟩, ⟨u9, none⟩]) hw5 hd5 ?_
   replace hl12 : L11.length = L10.length := hl12
   replace h5_ : i_Factor_solve_b2 a0 a1 a2 L11 v13 = some y5_ := h5_
   unfold i_Factor_solve_b2 at h5_
   refine RunC.seq ?_
   refine RunC.seq ?_
   rcases bsel_some h5_ with ⟨hc6, h5_⟩ | ⟨hc6, h5_⟩
   ·refine RunC.regionW ?_
    refine zM (r := i64 v13) rfl rfl rfl rfl rfl ?_
    refine zM (r := i64 a0) rfl rfl rfl rfl rfl ?_
    refine zL (r := b true) rfl rfl rfl (LOp.eqb (LOp.lss rfl rfl rfl) hc6) ?_
    refine zN ?_
    refine RunC.cond_true rfl rfl ?_
    refine RunC.skip ?_
    refine RunC.seq ?_
    refine RunC.block ?_
    obtain ⟨e14, he7, h5_⟩ := obind_some h5_
    obtain ⟨r15, hf8, h5_⟩ := obind_some h5_
    obtain ⟨L16, he9, h5_⟩ := obind_some h5_
    refine RunC.region_draw (Γ' := [⟨u8, some (L11.map f32)⟩, ⟨u9, none⟩]) 13 mixed 
     (TR.l (r := oref 0 u8 0 L10.length) rfl rfl (LOp.move rfl rfl) <|
     (TR.l (r := i64 v13) rfl rfl (LOp.move rfl rfl) <|
     (TR.l (r := ptr [i64 a0, i64 a1, sl a2.length (a2.map f32), sl a3.length (a3.map i64)]) rfl rfl (LOp.fap und65 rfl siz26 rfl rfl rfl) <|
     (TR.l (r := agg [i64 a0, i64 a1, sl a2.length (a2.map f32)]) rfl rfl (LOp.loadAgg agg26 siz26 rfl rfl rfl rfl) <|
     (TR.l (r := oref 0 u8 0 L10.length) rfl rfl (LOp.move rfl rfl) <|
     (TR.l (r := i64 v13) rfl rfl (LOp.move rfl rfl) <|
     (TR.d (r := optr 0 u8 v13.toNat) (fs := []) rfl rfl (TOp.ixo und22 siz33 rfl rfl rfl (at_in he7 hl12) rfl) <|
     (TR.d (r := f32 e14) (fs := []) rfl rfl (TOp.load1_o rfl (at_cell he7) agg33 rfl rfl) <|
     (TR.l (r := i64 v13) rfl rfl (LOp.move rfl rfl) <|
     (TR.l (r := i64 v13) rfl rfl (LOp.move rfl rfl) <|
     (TR.l (r := oref 0 u8 0 L10.length) rfl rfl (LOp.move rfl rfl) <|
     (TR.d (r := f32 r15) (fs := []) rfl rfl (TOp.callB (CallAs.func ent125 rfl rfl) (Bors.cons (Bor.agg (Bors.cons (Bor.pure rfl) (Bors.cons (Bor.pure rfl) (Bors.cons (Bor.sl (fun _ => rfl)) Bors.nil)))) (Bors.cons (Bor.pure rfl) (Bors.cons (Bor.pure rfl) (Bors.cons (Bor.pure rfl) (Bors.cons (Bor.pure rfl) (Bors.cons (Bor.own (f := f32) (fun _ => rfl) rfl hl12) Bors.nil)))))) rfl rfl (i_Matrix_lessRow_ok a0 a1 a2 e14 v13 0 v13 L11 r15 hf8)) <|
     (TR.d (r := optr 0 u8 v13.toNat) (fs := []) rfl rfl (TOp.ixo und22 siz33 rfl rfl rfl (set_in he9 hl12) rfl) <|
     TR.nil))))))))))))) rfl (by kernel_rfl) rfl fills_nil rfl ?_
    iterate 13 refine ROps.dropS ?_
    refine ROps.drop0 ?_
    refine ROps.st (f := f32) (i := v13) (Γ' := [⟨u8, some (L16.map f32)⟩, ⟨u9, none⟩]) rfl siz33 rfl rfl rfl aR rfl rfl rfl he9 rfl ?_
    refine zN ?_
    refine RunC.wl (τ' := [(2, ptr [i64 a0, i64 a1, sl a2.length (a2.map f32), sl a3.length (a3.map i64)]), (5, i64 a0), (6, oref 0 u8 0 L10.length), (9, i64 v13)]) (Γ' := [⟨u8, some (L16.map f32)⟩, ⟨u9, none⟩]) ⟨aR, aR, aR, aR, trivial⟩ ⟨⟨rfl, .inr rfl⟩, ⟨rfl, .inl rfl⟩, trivial⟩ ?_
    obtain ⟨x17, hx10, h5_⟩ := olet_some h5_
    refine RunC.regionW ?_
    refine zM (r := i64 v13) rfl rfl rfl rfl rfl ?_
    refine zL (r := i64 x17) rfl rfl rfl (LOp.eqr (LOp.add rfl rfl rfl) (congrArg (ik .i64) hx10)) ?_
    refine zA (r := i64 x17) rfl rfl rfl rfl rfl ?_
    refine zN ?_
    cases Option.some.inj h5_
    exact ⟨_, rfl, ((setAt?_len he9).trans hl12), ⟨aR, aR, aR, aR, trivial⟩, ⟨⟨rfl, .inr rfl⟩, ⟨rfl, .inl rfl⟩, trivial⟩⟩
   ·refine RunC.regionW ?_
    refine zM (r := i64 v13) rfl rfl rfl rfl rfl ?_
    refine zM (r := i64 a0) rfl rfl rfl rfl rfl ?_
    refine zL (r := b false) rfl rfl rfl (LOp.eqb (LOp.lss rfl rfl rfl) hc6) ?_
    refine zN ?_
    refine RunC.cond_false rfl rfl ?_
    refine RunC.exit ?_
    cases Option.some.inj h5_
    have hx := ho5 _ rfl
    exact ⟨L11, hl12, ⟨aR, aR, trivial⟩, ⟨⟨rfl, .inr rfl⟩, ⟨rfl, .inl rfl⟩, trivial⟩, hx⟩
  ·rintro τ6 Γ6 ⟨L18, hl19, hw6, hd6, rfl⟩
   refine RunC.wl hw6 hd6 ?_
   replace h : i_Factor_solve_k2 a0 a1 a2 L18 = some q0 := h
   unfold i_Factor_solve_k2 at h
   refine RunC.seq ?_
   obtain ⟨r20, hf11, h⟩ := obind_some h
   refine RunC.regionW ?_
   refine zL (r := ptr [i64 a0, i64 a1, sl a2.length (a2.map f32), sl a3.length (a3.map i64)]) rfl rfl rfl (LOp.fap und65 rfl siz26 rfl rfl rfl) ?_
   refine zL (r := agg [i64 a0, i64 a1, sl a2.length (a2.map f32)]) rfl rfl rfl (LOp.loadAgg agg26 siz26 rfl rfl rfl rfl) ?_
   refine zM (r := oref 0 u8 0 L10.length) rfl rfl rfl rfl rfl ?_
   refine ROps.d (r := oref 1 (u9 + 1) 0 r20.length) (fs := [(1, (r20.map f32))]) (Γ' := [⟨u8, some (L18.map f32)⟩, ⟨(u9 + 1), some (r20.map f32)⟩]) rfl rfl rfl (TOp.eqr (TOp.callBN (ls := [(r20.map f32)]) [1] (CallAs.func ent126 rfl rfl) (Bors.cons (Bor.agg (Bors.cons (Bor.pure rfl) (Bors.cons (Bor.pure rfl) (Bors.cons (Bor.sl (fun _ => rfl)) Bors.nil)))) (Bors.cons (Bor.own (f := f32) (fun _ => rfl) rfl hl19) Bors.nil)) rfl (i_Matrix_upperSolve_ok a0 a1 a2 L18 r20 hf11) (and_all (lts0_map (f := f32) (fun _ => rfl) _) rfl) (and_all (noss_map (f := f32) (fun _ => rfl) _) rfl) rfl (by decide) (ns_of ⟨⟨_, rfl⟩, trivial⟩)) (by simp [ren, rens, sigma, newNames])) rfl ?_
   refine zA (r := oref 1 (u9 + 1) 0 r20.length) rfl rfl rfl rfl rfl ?_
   refine zN ?_
   refine RunC.ret ?_
   have hq := Option.some.inj h
   subst q0
   exact bodyQ.mk (r' := oref 1 (u9 + 1) 0 r20.length) [(1, (u9 + 1))] (.inr rfl) rfl (show List.Nodup [1] from by decide) (by simp [ren, rens, sigma]) rfl (Res.one rfl (RV.tmp rfl)) (SelL.arr0 (f := f32) (fun _ => rfl) rfl trivial)
noncomputable def i_Matrix_setColumn_02o_b1 (a0 : Int) (a1 : Int) (a2 : Int) (a3 : List F) (a4 : List F) (L1 : List F) (v3 : Int) : Option (LR ((List F) × Int) ((List F)) ((List F))) :=
 bsel (decide (v3 < a0)) (
  obind (at? a3 v3) fun (e5 : F) =>
  obind (i_Matrix_set_02o a0 a1 v3 a2 e5 L1) fun (r6 : List F) =>
  need (decide (r6.length = a4.length)) <|
  olet (IntKind.i64.wrap (v3 + 1)) fun (x7 : Int) =>
  some (LR.next (r6, x7))) (
  some (LR.out L1))
noncomputable def i_Matrix_setColumn_02o_s1 (a0 : Int) (a1 : Int) (a2 : Int) (a3 : List F) (a4 : List F) : ((List F) × Int) → Option (LR ((List F) × Int) ((List F)) ((List F))) := fun s => i_Matrix_setColumn_02o_b1 a0 a1 a2 a3 a4 s.1 s.2
noncomputable def i_Matrix_setColumn_02o_k1 (L8 : List F) : Option ((List F)) :=
 some L8
noncomputable def i_Matrix_setColumn_02o (a0 : Int) (a1 : Int) (a2 : Int) (a3 : List F) (a4 : List F) : Option ((List F)) :=
 obind (loopM (i_Matrix_setColumn_02o_s1 a0 a1 a2 a3 a4) (a4, 0)) fun z => osum z (fun e => i_Matrix_setColumn_02o_k1 e) (fun r => some r)
theorem i_Matrix_setColumn_02o_ok (a0 : Int) (a1 : Int) (a2 : Int) (a3 : List F) (a4 : List F) (q0 : List F) (h : i_Matrix_setColumn_02o a0 a1 a2 a3 a4 = some q0) : Ev Tryz.prog 88 [agg [i64 a0, i64 a1, oref 0 0 0 a4.length], i64 a2, sl a3.length (a3.map f32)] [⟨0, some (a4.map f32)⟩] (tup []) [⟨0, some (q0.map f32)⟩] := by
 refine Ev.start Tryz.func88 rfl rfl 0 (τ := [(0, agg [i64 a0, i64 a1, oref 0 0 0 a4.length]), (1, i64 a2), (2, sl a3.length (a3.map f32))]) rfl (Γ' := [⟨0, some (a4.map f32)⟩]) rfl (n := 42) rfl (g := 1) rfl (by decide) ?_
 unfold i_Matrix_setColumn_02o at h
 refine zQ ?_
 refine ROps.d (r := ptr [i64 a0, i64 a1, oref 0 0 0 a4.length]) (fs := []) (Γ' := [⟨0, some (a4.map f32)⟩]) rfl rfl rfl (TOp.box_s rfl rfl rfl) rfl ?_
 refine zN ?_
 refine zQ ?_
 refine zL (r := ptr [i64 a0, i64 a1, oref 0 0 0 a4.length]) rfl rfl rfl (LOp.fap und26 rfl siz2 rfl rfl rfl) ?_
 refine zL (r := i64 a0) rfl rfl rfl (LOp.load1 agg2 rfl rfl) ?_
 refine zM (r := i64 0) rfl rfl rfl rfl rfl ?_
 refine zN ?_
 obtain ⟨z2, hz_2, h⟩ := obind_some h
 refine RunC.cutN (fun τ Γ => ∃ (L8 : List F), L8.length = a4.length ∧ WeakLe τ [] ∧ DeadLe Γ [⟨0, some (L8.map f32)⟩] ∧ z2 = .inl L8) ?_ ?_
 ·refine RunC.block (RunC.loop (RunL.loopM (x := z2) (i_Matrix_setColumn_02o_s1 a0 a1 a2 a3 a4) (fun (s : (List F) × Int) τ Γ => s.1.length = a4.length ∧ WeakLe τ [(1, i64 a2), (2, sl a3.length (a3.map f32)), (3, ptr [i64 a0, i64 a1, oref 0 0 0 a4.length]), (8, i64 a0), (9, i64 s.2)] ∧ DeadLe Γ [⟨0, some (s.1.map f32)⟩]) ?_ _ _ _ hz_2 ⟨rfl, ⟨aR, aR, aR, aR, aR, trivial⟩, ⟨⟨rfl, .inr rfl⟩, trivial⟩⟩))
  rintro ⟨L1, v3⟩ τ2 Γ2 y2_ ⟨hl2, hw2, hd2⟩ h2_ ho2 hr2
  refine RunC.wl (τ' := [(1, i64 a2), (2, sl a3.length (a3.map f32)), (3, ptr [i64 a0, i64 a1, oref 0 0 0 a4.length]), (8, i64 a0), (9, i64 v3)]) (Γ' := [⟨0, some (L1.map f32)⟩]) hw2 hd2 ?_
  replace hl2 : L1.length = a4.length := hl2
  replace h2_ : i_Matrix_setColumn_02o_b1 a0 a1 a2 a3 a4 L1 v3 = some y2_ := h2_
  unfold i_Matrix_setColumn_02o_b1 at h2_
  refine RunC.seq ?_
  rcases bsel_some h2_ with ⟨hc1, h2_⟩ | ⟨hc1, h2_⟩
  ·refine RunC.regionW ?_
   refine zL (r := b true) rfl rfl rfl (LOp.eqb (LOp.lss rfl rfl rfl) hc1) ?_
   refine zN ?_
   refine RunC.seq ?_
   refine RunC.cond_true rfl rfl ?_
   refine RunC.skip ?_
   refine RunC.seq ?_
   refine RunC.block ?_
   refine zQ ?_
   refine zM (r := i64 v3) rfl rfl rfl rfl rfl ?_
   refine zA (r := i64 v3) rfl rfl rfl rfl rfl ?_
   refine zN ?_
   obtain ⟨e5, he3, h2_⟩ := obind_some h2_
   obtain ⟨r6, hf4, h2_⟩ := obind_some h2_
   obtain ⟨hn5, h2_⟩ := need_some h2_
   refine RunC.region_draw (Γ' := [⟨0, some (L1.map f32)⟩]) 7 mixed 
    (TR.l (r := agg [i64 a0, i64 a1, oref 0 0 0 a4.length]) rfl rfl (LOp.loadAgg agg26 siz26 rfl rfl rfl rfl) <|
    (TR.l (r := i64 v3) rfl rfl (LOp.move rfl rfl) <|
    (TR.l (r := i64 a2) rfl rfl (LOp.move rfl rfl) <|
    (TR.l (r := sl a3.length (a3.map f32)) rfl rfl (LOp.move rfl rfl) <|
    (TR.l (r := i64 v3) rfl rfl (LOp.move rfl rfl) <|
    (TR.l (r := ptr [f32 e5]) rfl rfl (LOp.le (LOp.ix (f := f32) und22 siz33 rfl rfl rfl rfl he3) ALe.ptr) <|
    (TR.l (r := f32 e5) rfl rfl (LOp.load1 agg33 rfl rfl) <|
    TR.nil))))))) rfl (by kernel_rfl) rfl fills_nil rfl ?_
   iterate 7 refine ROps.dropS ?_
   refine ROps.drop0 ?_
   refine ROps.callO (A := [agg [i64 a0, i64 a1, oref 0 0 0 a4.length], i64 v3, i64 a2, f32 e5]) (args := [agg [i64 a0, i64 a1, oref 0 0 0 L1.length], i64 v3, i64 a2, f32 e5]) (Γc := [⟨0, some (L1.map f32)⟩]) (Γc' := [⟨0, some (r6.map f32)⟩]) (r' := tup []) (Γ' := [⟨0, some (r6.map f32)⟩]) [(0, 0)] [] rfl (CallAs.func ent71 rfl rfl) rfl rfl (SelOk.of (show List.Nodup [0] from by decide) (SelL.arr0 (f := f32) (fun _ => rfl) rfl trivial)) (live_of ⟨⟨_, _, rfl⟩, trivial⟩) (by simp [ren, rens, sigma, rens_f32, rens_f64, rens_i64, rens_ik, rens_str, rens_cp, hl2]) rfl (i_Matrix_set_02o_ok a0 a1 v3 a2 e5 L1 r6 hf4) rfl (news_of trivial) (show List.Nodup [0] from by decide) (by simp [ren, rens, sigma, of_decide_eq_true hn5]) (by simp [backOb, sigma, ren, rens, rens_f32, rens_f64, rens_i64, rens_ik, rens_str, rens_cp]) ?_
   refine zN ?_
   obtain ⟨x7, hx6, h2_⟩ := olet_some h2_
   refine RunC.regionW ?_
   refine zL (r := i64 x7) rfl rfl rfl (LOp.eqr (LOp.add rfl rfl rfl) (congrArg (ik .i64) hx6)) ?_
   refine zM (r := i64 x7) rfl rfl rfl rfl rfl ?_
   refine zN ?_
   cases Option.some.inj h2_
   exact ⟨_, rfl, (of_decide_eq_true hn5), ⟨aR, aR, aR, aR, aR, trivial⟩, ⟨⟨rfl, .inr rfl⟩, trivial⟩⟩
  ·refine RunC.regionW ?_
   refine zL (r := b false) rfl rfl rfl (LOp.eqb (LOp.lss rfl rfl rfl) hc1) ?_
   refine zN ?_
   refine RunC.seq ?_
   refine RunC.cond_false rfl rfl ?_
   refine RunC.exit ?_
   cases Option.some.inj h2_
   have hx := ho2 _ rfl
   exact ⟨L1, hl2, trivial, ⟨⟨rfl, .inr rfl⟩, trivial⟩, hx⟩
 ·rintro τ3 Γ3 ⟨L8, hl9, hw3, hd3, rfl⟩
  replace h : i_Matrix_setColumn_02o_k1 L8 = some q0 := h
  unfold i_Matrix_setColumn_02o_k1 at h
  refine bodyQ.wl hw3 hd3 ?_
  have hq := Option.some.inj h
  subst q0
  exact bodyQ.mk (r' := tup []) [(0, 0)] (.inl rfl) rfl (show List.Nodup [0] from by decide) rfl rfl (Res.zero rfl) (SelL.arr (f := f32) (fun _ => rfl) rfl trivial)
noncomputable def i_Matrix_valid_02o (a0 : Int) (a1 : Int) (a2 : List F) : Option ((Int × Int × Bool × (List F)) ⊕ (Int × Int × Bool × (List F) × (List F))) :=
 obind (i_ValidMatrix a0 a1 a2) fun (r1 : Bool) =>
 bsel r1 (
  some (Sum.inl (a0, a1, true, a2))) (
  some (Sum.inr (0, 0, false, a2, ([] : List F))))
theorem i_Matrix_valid_02o_ok0 (a0 : Int) (a1 : Int) (a2 : List F) (q0 : Int) (q1 : Int) (q2 : Bool) (q3 : List F) (h : i_Matrix_valid_02o a0 a1 a2 = some (Sum.inl (q0, q1, q2, q3))) : Ev Tryz.prog 36 [agg [i64 a0, i64 a1, oref 0 0 0 a2.length]] [⟨0, some (a2.map f32)⟩] (tup [agg [i64 q0, i64 q1, oref 0 0 0 q3.length], b q2]) [⟨0, some (q3.map f32)⟩] := by
 refine Ev.start Tryz.func36 rfl rfl 2 (τ := [(0, agg [i64 a0, i64 a1, oref 0 0 0 a2.length])]) rfl (Γ' := [⟨0, some (a2.map f32)⟩, ⟨0, none⟩, ⟨0, none⟩]) rfl (n := 18) rfl (g := 1) rfl (by decide) ?_
 unfold i_Matrix_valid_02o at h
 refine zQ ?_
 refine ROps.d (r := ptr [i64 a0, i64 a1, oref 0 0 0 a2.length]) (fs := []) (Γ' := [⟨0, some (a2.map f32)⟩, ⟨0, none⟩, ⟨0, none⟩]) rfl rfl rfl (TOp.box_s rfl rfl rfl) rfl ?_
 refine ROps.d (r := optr 1 1 0) (fs := [(1, [i64 0, i64 0, nilsl])]) (Γ' := [⟨0, some (a2.map f32)⟩, ⟨1, some [i64 0, i64 0, nilsl]⟩, ⟨0, none⟩]) rfl rfl rfl (TOp.alloc_o (g := ⟨0, none⟩) 1 rfl zer26 zok26 rfl) rfl ?_
 refine zA (r := b false) rfl rfl rfl rfl rfl ?_
 refine zN ?_
 refine RunC.seq ?_
 refine RunC.seq ?_
 obtain ⟨r1, hf1, h⟩ := obind_some h
 rcases bsel_some h with ⟨hc2, h⟩ | ⟨hc2, h⟩
 ·refine RunC.regionW ?_
  refine zL (r := agg [i64 a0, i64 a1, oref 0 0 0 a2.length]) rfl rfl rfl (LOp.loadAgg agg26 siz26 rfl rfl rfl rfl) ?_
  refine ROps.d (r := b true) (fs := []) (Γ' := [⟨0, some (a2.map f32)⟩, ⟨1, some [i64 0, i64 0, nilsl]⟩, ⟨0, none⟩]) rfl rfl rfl (TOp.eqb (TOp.callB (CallAs.func ent65 rfl rfl) (Bors.cons (Bor.agg (Bors.cons (Bor.pure rfl) (Bors.cons (Bor.pure rfl) (Bors.cons (Bor.own (f := f32) (fun _ => rfl) rfl rfl) Bors.nil)))) Bors.nil) rfl rfl (i_ValidMatrix_ok a0 a1 a2 r1 hf1)) hc2) rfl ?_
  refine zL (r := b false) rfl rfl rfl (LOp.eqb (LOp.not rfl rfl) rfl) ?_
  refine zN ?_
  refine RunC.cond_false rfl rfl ?_
  refine RunC.skip ?_
  refine zQ ?_
  refine zL (r := agg [i64 a0, i64 a1, oref 0 0 0 a2.length]) rfl rfl rfl (LOp.loadAgg agg26 siz26 rfl rfl rfl rfl) ?_
  refine ROps.store_le (r := agg [i64 a0, i64 a1, oref 0 0 0 a2.length]) (l' := [i64 a0, i64 a1, oref 0 0 0 a2.length]) (Γ' := [⟨0, some (a2.map f32)⟩, ⟨1, some [i64 a0, i64 a1, oref 0 0 0 a2.length]⟩, ⟨0, none⟩]) rfl siz26 rfl rfl rfl aR rfl rfl rfl rfl (Nat.le_of_ble_eq_true rfl) rfl rfl ?_
  refine zA (r := b true) rfl rfl rfl rfl rfl ?_
  refine zN ?_
  refine RunC.ret ?_
  have hq := Option.some.inj h
  have hq := Sum.inl.inj hq
  obtain ⟨hq0, hq⟩ := Prod.mk.inj hq
  obtain ⟨hq1, hq⟩ := Prod.mk.inj hq
  obtain ⟨hq2, hq⟩ := Prod.mk.inj hq
  subst q0
  subst q1
  subst q2
  subst q3
  exact bodyQ.mk (r' := tup [agg [i64 a0, i64 a1, oref 0 0 0 a2.length], b true]) [(0, 0)] (.inr rfl) rfl (show List.Nodup [0] from by decide) rfl rfl (Res.two rfl (RV.cell agg26 siz26 rfl rfl rfl rfl) (RV.tmp rfl)) (SelL.arr (f := f32) (fun _ => rfl) rfl trivial)
 ·refine RunC.regionW ?_
  refine zL (r := agg [i64 a0, i64 a1, oref 0 0 0 a2.length]) rfl rfl rfl (LOp.loadAgg agg26 siz26 rfl rfl rfl rfl) ?_
  refine ROps.d (r := b false) (fs := []) (Γ' := [⟨0, some (a2.map f32)⟩, ⟨1, some [i64 0, i64 0, nilsl]⟩, ⟨0, none⟩]) rfl rfl rfl (TOp.eqb (TOp.callB (CallAs.func ent65 rfl rfl) (Bors.cons (Bor.agg (Bors.cons (Bor.pure rfl) (Bors.cons (Bor.pure rfl) (Bors.cons (Bor.own (f := f32) (fun _ => rfl) rfl rfl) Bors.nil)))) Bors.nil) rfl rfl (i_ValidMatrix_ok a0 a1 a2 r1 hf1)) hc2) rfl ?_
  refine zL (r := b true) rfl rfl rfl (LOp.eqb (LOp.not rfl rfl) rfl) ?_
  refine zN ?_
  refine RunC.cond_true rfl rfl ?_
  refine zQ ?_
  refine zL (r := agg [i64 0, i64 0, nilsl]) rfl rfl rfl (LOp.build (qs := []) zer26 zok26 und26 plc26 rfl trivial rfl) ?_
  refine ROps.store_le (r := agg [i64 0, i64 0, nilsl]) (l' := [i64 0, i64 0, nilsl]) (Γ' := [⟨0, some (a2.map f32)⟩, ⟨1, some [i64 0, i64 0, nilsl]⟩, ⟨0, none⟩]) rfl siz26 rfl rfl rfl aR rfl rfl rfl rfl (Nat.le_of_ble_eq_true rfl) rfl rfl ?_
  refine zA (r := b false) rfl rfl rfl rfl rfl ?_
  refine zN ?_
  cases Option.some.inj h
theorem i_Matrix_valid_02o_ok1 (a0 : Int) (a1 : Int) (a2 : List F) (q0 : Int) (q1 : Int) (q2 : Bool) (q3 : List F) (q4 : List F) (h : i_Matrix_valid_02o a0 a1 a2 = some (Sum.inr (q0, q1, q2, q3, q4))) : Ev Tryz.prog 36 [agg [i64 a0, i64 a1, oref 0 0 0 a2.length]] [⟨0, some (a2.map f32)⟩] (tup [agg [i64 q0, i64 q1, oref 1 0 0 q4.length], b q2]) [⟨0, some (q3.map f32)⟩, ⟨0, some (q4.map f32)⟩] := by
 refine Ev.start Tryz.func36 rfl rfl 2 (τ := [(0, agg [i64 a0, i64 a1, oref 0 0 0 a2.length])]) rfl (Γ' := [⟨0, some (a2.map f32)⟩, ⟨0, none⟩, ⟨0, none⟩]) rfl (n := 18) rfl (g := 1) rfl (by decide) ?_
 unfold i_Matrix_valid_02o at h
 refine zQ ?_
 refine ROps.d (r := ptr [i64 a0, i64 a1, oref 0 0 0 a2.length]) (fs := []) (Γ' := [⟨0, some (a2.map f32)⟩, ⟨0, none⟩, ⟨0, none⟩]) rfl rfl rfl (TOp.box_s rfl rfl rfl) rfl ?_
 refine ROps.d (r := optr 1 1 0) (fs := [(1, [i64 0, i64 0, nilsl])]) (Γ' := [⟨0, some (a2.map f32)⟩, ⟨1, some [i64 0, i64 0, nilsl]⟩, ⟨0, none⟩]) rfl rfl rfl (TOp.alloc_o (g := ⟨0, none⟩) 1 rfl zer26 zok26 rfl) rfl ?_
 refine zA (r := b false) rfl rfl rfl rfl rfl ?_
 refine zN ?_
 refine RunC.seq ?_
 refine RunC.seq ?_
 obtain ⟨r1, hf1, h⟩ := obind_some h
 rcases bsel_some h with ⟨hc2, h⟩ | ⟨hc2, h⟩
 ·refine RunC.regionW ?_
  refine zL (r := agg [i64 a0, i64 a1, oref 0 0 0 a2.length]) rfl rfl rfl (LOp.loadAgg agg26 siz26 rfl rfl rfl rfl) ?_
  refine ROps.d (r := b true) (fs := []) (Γ' := [⟨0, some (a2.map f32)⟩, ⟨1, some [i64 0, i64 0, nilsl]⟩, ⟨0, none⟩]) rfl rfl rfl (TOp.eqb (TOp.callB (CallAs.func ent65 rfl rfl) (Bors.cons (Bor.agg (Bors.cons (Bor.pure rfl) (Bors.cons (Bor.pure rfl) (Bors.cons (Bor.own (f := f32) (fun _ => rfl) rfl rfl) Bors.nil)))) Bors.nil) rfl rfl (i_ValidMatrix_ok a0 a1 a2 r1 hf1)) hc2) rfl ?_
  refine zL (r := b false) rfl rfl rfl (LOp.eqb (LOp.not rfl rfl) rfl) ?_
  refine zN ?_
  refine RunC.cond_false rfl rfl ?_
  refine RunC.skip ?_
  refine zQ ?_
  refine zL (r := agg [i64 a0, i64 a1, oref 0 0 0 a2.length]) rfl rfl rfl (LOp.loadAgg agg26 siz26 rfl rfl rfl rfl) ?_
  refine ROps.store_le (r := agg [i64 a0, i64 a1, oref 0 0 0 a2.length]) (l' := [i64 a0, i64 a1, oref 0 0 0 a2.length]) (Γ' := [⟨0, some (a2.map f32)⟩, ⟨1, some [i64 a0, i64 a1, oref 0 0 0 a2.length]⟩, ⟨0, none⟩]) rfl siz26 rfl rfl rfl aR rfl rfl rfl rfl (Nat.le_of_ble_eq_true rfl) rfl rfl ?_
  refine zA (r := b true) rfl rfl rfl rfl rfl ?_
  refine zN ?_
  cases Option.some.inj h
 ·refine RunC.regionW ?_
  refine zL (r := agg [i64 a0, i64 a1, oref 0 0 0 a2.length]) rfl rfl rfl (LOp.loadAgg agg26 siz26 rfl rfl rfl rfl) ?_
  refine ROps.d (r := b false) (fs := []) (Γ' := [⟨0, some (a2.map f32)⟩, ⟨1, some [i64 0, i64 0, nilsl]⟩, ⟨0, none⟩]) rfl rfl rfl (TOp.eqb (TOp.callB (CallAs.func ent65 rfl rfl) (Bors.cons (Bor.agg (Bors.cons (Bor.pure rfl) (Bors.cons (Bor.pure rfl) (Bors.cons (Bor.own (f := f32) (fun _ => rfl) rfl rfl) Bors.nil)))) Bors.nil) rfl rfl (i_ValidMatrix_ok a0 a1 a2 r1 hf1)) hc2) rfl ?_
  refine zL (r := b true) rfl rfl rfl (LOp.eqb (LOp.not rfl rfl) rfl) ?_
  refine zN ?_
  refine RunC.cond_true rfl rfl ?_
  refine zQ ?_
  refine zL (r := agg [i64 0, i64 0, nilsl]) rfl rfl rfl (LOp.build (qs := []) zer26 zok26 und26 plc26 rfl trivial rfl) ?_
  refine ROps.store_le (r := agg [i64 0, i64 0, nilsl]) (l' := [i64 0, i64 0, nilsl]) (Γ' := [⟨0, some (a2.map f32)⟩, ⟨1, some [i64 0, i64 0, nilsl]⟩, ⟨0, none⟩]) rfl siz26 rfl rfl rfl aR rfl rfl rfl rfl (Nat.le_of_ble_eq_true rfl) rfl rfl ?_
  refine zA (r := b false) rfl rfl rfl rfl rfl ?_
  refine zN ?_
  refine RunC.nil_cell (l' := [i64 0, i64 0, oref 2 1 0 0]) (Γ' := [⟨0, some (a2.map f32)⟩, ⟨1, some [i64 0, i64 0, oref 2 1 0 0]⟩, ⟨1, some (([] : List F).map f32)⟩]) 1 2 2 rfl rfl rfl rfl rfl ?_
  refine RunC.ret ?_
  have hq := Option.some.inj h
  have hq := Sum.inr.inj hq
  obtain ⟨hq0, hq⟩ := Prod.mk.inj hq
  obtain ⟨hq1, hq⟩ := Prod.mk.inj hq
  obtain ⟨hq2, hq⟩ := Prod.mk.inj hq
  obtain ⟨hq3, hq⟩ := Prod.mk.inj hq
  subst q0
  subst q1
  subst q2
  subst q3
  subst q4
  exact bodyQ.mk (r' := tup [agg [i64 0, i64 0, oref 2 1 0 (([] : List F).length)], b false]) [(0, 0), (2, 1)] (.inr rfl) rfl (show List.Nodup [0, 2] from by decide) rfl rfl (Res.eq (Res.two rfl (RV.cell agg26 siz26 rfl rfl rfl rfl) (RV.tmp rfl)) (by rw [(show ([] : List F).length = 0 from rfl)] <;> rfl)) (SelL.arr (f := f32) (fun _ => rfl) rfl (SelL.arr0 (f := f32) (fun _ => rfl) rfl trivial))
noncomputable def i_FactorInverse_b1 (a0 : Int) (a1 : Int) (a2 : List F) (a3 : List Int) (r2 : Int) (r3 : Int) (r4 : List F) (L5 : List F) (v7 : Int) : Option (LR ((List F) × Int) ((List F)) (Int × Int × Bool × (List F))) :=
 bsel (decide (v7 < a0)) (
  obind3 (i_unit a0) fun (r13 : Int) (r14 : Int) (r15 : List F) =>
  obind (i_Matrix_column r13 r14 r15 v7) fun (r16 : List F) =>
  obind (i_Factor_solve a0 a1 a2 a3 r16) fun (r17 : List F) =>
  obind (i_Matrix_setColumn_02o r2 r3 v7 r17 L5) fun (r18 : List F) =>
  need (decide (r18.length = r4.length)) <|
  olet (IntKind.i64.wrap (v7 + 1)) fun (x19 : Int) =>
  some (LR.next (r18, x19))) (
  some (LR.out L5))
noncomputable def i_FactorInverse_s1 (a0 : Int) (a1 : Int) (a2 : List F) (a3 : List Int) (r2 : Int) (r3 : Int) (r4 : List F) : ((List F) × Int) → Option (LR ((List F) × Int) ((List F)) (Int × Int × Bool × (List F))) := fun s => i_FactorInverse_b1 a0 a1 a2 a3 r2 r3 r4 s.1 s.2
noncomputable def i_FactorInverse_k1 (r2 : Int) (r3 : Int) (r4 : List F) (L20 : List F) : Option (Int × Int × Bool × (List F)) :=
 obind (i_Matrix_valid_02o r2 r3 L20) (fun z => osum z (fun y => obind4 (some y) fun (r22 : Int) (r23 : Int) (r24 : Bool) (r25 : List F) =>
  need (decide (r25.length = r4.length)) <|
  some (r22, r23, r24, r25)) (fun y => obind5 (some y) fun (r26 : Int) (r27 : Int) (r28 : Bool) (r29 : List F) (r30 : List F) =>
  need (decide (r29.length = r4.length)) <|
  some (r26, r27, r28, r30)))
noncomputable def i_FactorInverse (a0 : Int) (a1 : Int) (a2 : List F) (a3 : List Int) : Option (Int × Int × Bool × (List F)) :=
 obind (i_ValidFactor a0 a1 a2 a3) fun (r1 : Bool) =>
 bsel r1 (
  obind3 (i_newMatrix a0 a0) fun (r2 : Int) (r3 : Int) (r4 : List F) =>
  obind (loopM (i_FactorInverse_s1 a0 a1 a2 a3 r2 r3 r4) (r4, 0)) fun z => osum z (fun e => i_FactorInverse_k1 r2 r3 r4 e) (fun r => some r)) (
  some (0, 0, false, ([] : List F)))
theorem i_FactorInverse_ok (a0 : Int) (a1 : Int) (a2 : List F) (a3 : List Int) (q0 : Int) (q1 : Int) (q2 : Bool) (q3 : List F) (h : i_FactorInverse a0 a1 a2 a3 = some (q0, q1, q2, q3)) : Ev Tryz.prog 45 [agg [i64 a0, i64 a1, sl a2.length (a2.map f32), sl a3.length (a3.map i64)]] [] (tup [agg [i64 q0, i64 q1, oref 0 0 0 q3.length], b q2]) [⟨0, some (q3.map f32)⟩] := by
 refine Ev.start Tryz.func45 rfl rfl 4 (τ := [(0, agg [i64 a0, i64 a1, sl a2.length (a2.map f32), sl a3.length (a3.map i64)])]) rfl (Γ' := [⟨0, none⟩, ⟨0, none⟩, ⟨0, none⟩, ⟨0, none⟩]) rfl (n := 71) rfl (g := 0) rfl (fun _ => rfl) ?_
 unfold i_FactorInverse at h
 refine zQ ?_
 refine ROps.d (r := ptr [i64 a0, i64 a1, sl a2.length (a2.map f32), sl a3.length (a3.map i64)]) (fs := []) (Γ' := [⟨0, none⟩, ⟨0, none⟩, ⟨0, none⟩, ⟨0, none⟩]) rfl rfl rfl (TOp.box_s rfl rfl rfl) rfl ?_
 refine ROps.d (r := optr 0 1 0) (fs := [(0, [i64 0, i64 0, nilsl])]) (Γ' := [⟨1, some [i64 0, i64 0, nilsl]⟩, ⟨0, none⟩, ⟨0, none⟩, ⟨0, none⟩]) rfl rfl rfl (TOp.alloc_o (g := ⟨0, none⟩) 0 rfl zer26 zok26 rfl) rfl ?_
 refine zA (r := b false) rfl rfl rfl rfl rfl ?_
 refine zN ?_
 refine RunC.seq ?_
 refine RunC.seq ?_
 obtain ⟨r1, hf1, h⟩ := obind_some h
 rcases bsel_some h with ⟨hc2, h⟩ | ⟨hc2, h⟩
 ·refine RunC.regionW ?_
  refine zL (r := agg [i64 a0, i64 a1, sl a2.length (a2.map f32), sl a3.length (a3.map i64)]) rfl rfl rfl (LOp.loadAgg agg65 siz65 rfl rfl rfl rfl) ?_
  refine ROps.d (r := b true) (fs := []) (Γ' := [⟨1, some [i64 0, i64 0, nilsl]⟩, ⟨0, none⟩, ⟨0, none⟩, ⟨0, none⟩]) rfl rfl rfl (TOp.eqb (TOp.callB (CallAs.func ent87 rfl rfl) (Bors.cons (Bor.agg (Bors.cons (Bor.pure rfl) (Bors.cons (Bor.pure rfl) (Bors.cons (Bor.sl (fun _ => rfl)) (Bors.cons (Bor.sl (fun _ => rfl)) Bors.nil))))) Bors.nil) rfl rfl (i_ValidFactor_ok a0 a1 a2 a3 r1 hf1)) hc2) rfl ?_
  refine zL (r := b false) rfl rfl rfl (LOp.eqb (LOp.not rfl rfl) rfl) ?_
  refine zN ?_
  refine RunC.cond_false rfl rfl ?_
  refine RunC.skip ?_
  refine zQ ?_
  refine zL (r := ptr [i64 a0, i64 a1, sl a2.length (a2.map f32), sl a3.length (a3.map i64)]) rfl rfl rfl (LOp.fap und65 rfl siz26 rfl rfl rfl) ?_
  refine zL (r := ptr [i64 a0, i64 a1, sl a2.length (a2.map f32), sl a3.length (a3.map i64)]) rfl rfl rfl (LOp.fap und26 rfl siz2 rfl rfl rfl) ?_
  refine zL (r := i64 a0) rfl rfl rfl (LOp.load1 agg2 rfl rfl) ?_
  refine zA (r := i64 a0) rfl rfl rfl rfl rfl ?_
  refine zN ?_
  refine RunC.seq ?_
  obtain ⟨r2, r3, r4, hf3, h⟩ := obind3_some h
  refine RunC.regionW ?_
  refine zM (r := i64 a0) rfl rfl rfl rfl rfl ?_
  refine zM (r := i64 a0) rfl rfl rfl rfl rfl ?_
  refine ROps.d (r := agg [i64 r2, i64 r3, oref 1 1 0 r4.length]) (fs := [(1, (r4.map f32))]) (Γ' := [⟨1, some [i64 0, i64 0, nilsl]⟩, ⟨1, some (r4.map f32)⟩, ⟨0, none⟩, ⟨0, none⟩]) rfl rfl rfl (TOp.callBN (ls := [(r4.map f32)]) [1] (CallAs.func ent70 rfl rfl) (Bors.cons (Bor.pure rfl) (Bors.cons (Bor.pure rfl) Bors.nil)) rfl (i_newMatrix_ok a0 a0 r2 r3 r4 hf3) (and_all (lts0_map (f := f32) (fun _ => rfl) _) rfl) (and_all (noss_map (f := f32) (fun _ => rfl) _) rfl) rfl (by decide) (ns_of ⟨⟨_, rfl⟩, trivial⟩)) rfl ?_
  refine ROps.d (r := optr 2 1 0) (fs := [(2, [i64 0, i64 0, nilsl])]) (Γ' := [⟨1, some [i64 0, i64 0, nilsl]⟩, ⟨1, some (r4.map f32)⟩, ⟨1, some [i64 0, i64 0, nilsl]⟩, ⟨0, none⟩]) rfl rfl rfl (TOp.alloc_o (g := ⟨0, none⟩) 2 rfl zer26 zok26 rfl) rfl ?_
  refine ROps.store_le (r := agg [i64 r2, i64 r3, oref 1 1 0 r4.length]) (l' := [i64 r2, i64 r3, oref 1 1 0 r4.length]) (Γ' := [⟨1, some [i64 0, i64 0, nilsl]⟩, ⟨1, some (r4.map f32)⟩, ⟨1, some [i64 r2, i64 r3, oref 1 1 0 r4.length]⟩, ⟨0, none⟩]) rfl siz26 rfl rfl rfl aR rfl rfl rfl rfl (Nat.le_of_ble_eq_true rfl) rfl rfl ?_
  refine zN ?_
  refine RunC.seq ?_
  refine zQ ?_
  refine zM (r := i64 a0) rfl rfl rfl rfl rfl ?_
  refine zM (r := i64 0) rfl rfl rfl rfl rfl ?_
  refine zN ?_
  obtain ⟨z2, hz_2, h⟩ := obind_some h
  refine RunC.cutN (fun τ Γ => ∃ (L20 : List F), L20.length = r4.length ∧ WeakLe τ [(2, optr 0 1 0), (5, optr 2 1 0)] ∧ DeadLe Γ [⟨1, some [i64 0, i64 0, nilsl]⟩, ⟨1, some (L20.map f32)⟩, ⟨1, some [i64 r2, i64 r3, oref 1 1 0 r4.length]⟩, ⟨0, none⟩] ∧ z2 = .inl L20) ?_ ?_
  ·refine RunC.block (RunC.loop (RunL.loopM (x := z2) (i_FactorInverse_s1 a0 a1 a2 a3 r2 r3 r4) (fun (s : (List F) × Int) τ Γ => s.1.length = r4.length ∧ WeakLe τ [(1, ptr [i64 a0, i64 a1, sl a2.length (a2.map f32), sl a3.length (a3.map i64)]), (2, optr 0 1 0), (4, i64 a0), (5, optr 2 1 0), (17, i64 a0), (18, i64 s.2)] ∧ DeadLe Γ [⟨1, some [i64 0, i64 0, nilsl]⟩, ⟨1, some (s.1.map f32)⟩, ⟨1, some [i64 r2, i64 r3, oref 1 1 0 r4.length]⟩, ⟨0, none⟩]) ?_ _ _ _ hz_2 ⟨rfl, ⟨aR, aR, aR, aR, aR, aR, trivial⟩, ⟨⟨rfl, .inr rfl⟩, ⟨rfl, .inr rfl⟩, ⟨rfl, .inr rfl⟩, ⟨rfl, .inr rfl⟩, trivial⟩⟩))
   rintro ⟨L5, v7⟩ τ2 Γ2 y2_ ⟨hl6, hw2, hd2⟩ h2_ ho2 hr2
   refine RunC.wl (τ' := [(1, ptr [i64 a0, i64 a1, sl a2.length (a2.map f32), sl a3.length (a3.map i64)]), (2, optr 0 1 0), (4, i64 a0), (5, optr 2 1 0), (17, i64 a0), (18, i64 v7)]) (Γ' := [⟨1, some [i64 0, i64 0, nilsl]⟩, ⟨1, some (L5.map f32)⟩, ⟨1, some [i64 r2, i64 r3, oref 1 1 0 r4.length]⟩, ⟨0, none⟩]) hw2 hd2 ?_
   replace hl6 : L5.length = r4.length := hl6
   replace h2_ : i_FactorInverse_b1 a0 a1 a2 a3 r2 r3 r4 L5 v7 = some y2_ := h2_
   unfold i_FactorInverse_b1 at h2_
   refine RunC.seq ?_
   rcases bsel_some h2_ with ⟨hc4, h2_⟩ | ⟨hc4, h2_⟩
   ·refine RunC.regionW ?_
    refine zL (r := b true) rfl rfl rfl (LOp.eqb (LOp.lss rfl rfl rfl) hc4) ?_
    refine zN ?_
    refine RunC.seq ?_
    refine RunC.cond_true rfl rfl ?_
    refine RunC.skip ?_
    refine RunC.seq ?_
    refine RunC.block ?_
    refine zQ ?_
    refine zM (r := i64 v7) rfl rfl rfl rfl rfl ?_
    refine zA (r := i64 v7) rfl rfl rfl rfl rfl ?_
    refine zN ?_
    obtain ⟨r13, r14, r15, hf8, h2_⟩ := obind3_some h2_
    obtain ⟨r16, hf9, h2_⟩ := obind_some h2_
    obtain ⟨r17, hf10, h2_⟩ := obind_some h2_
    obtain ⟨r18, hf11, h2_⟩ := obind_some h2_
    obtain ⟨hn12, h2_⟩ := need_some h2_
    refine RunC.region_draw (Γ' := [⟨1, some [i64 0, i64 0, nilsl]⟩, ⟨1, some (L5.map f32)⟩, ⟨1, some [i64 r2, i64 r3, oref 1 1 0 r4.length]⟩, ⟨0, none⟩]) 8 mixed 
     (TR.d (r := agg [i64 r2, i64 r3, oref 1 1 0 r4.length]) (fs := []) rfl rfl (TOp.loadAgg_o rfl agg26 siz26 rfl rfl rfl rfl) <|
     (TR.l (r := i64 v7) rfl rfl (LOp.move rfl rfl) <|
     (TR.l (r := agg [i64 a0, i64 a1, sl a2.length (a2.map f32), sl a3.length (a3.map i64)]) rfl rfl (LOp.loadAgg agg65 siz65 rfl rfl rfl rfl) <|
     (TR.l (r := i64 a0) rfl rfl (LOp.move rfl rfl) <|
     (TR.d (r := agg [i64 r13, i64 r14, sl r15.length (r15.map f32)]) (fs := []) rfl rfl (TOp.callS (CallAs.func ent59 rfl rfl) (ALes.cons aR ALes.nil) (lts_cons rfl lts_nil) (lt_agg (lts_cons rfl (lts_cons rfl (lts_cons (lt_sl (fun _ => rfl)) lts_nil)))) (i_unit_ok a0 r13 r14 r15 hf8) (Bor.agg (Bors.cons (Bor.pure rfl) (Bors.cons (Bor.pure rfl) (Bors.cons (Bor.own (f := f32) (fun _ => rfl) rfl rfl) Bors.nil))))) <|
     (TR.l (r := i64 v7) rfl rfl (LOp.move rfl rfl) <|
     (TR.d (r := sl r16.length (r16.map f32)) (fs := []) rfl rfl (TOp.callS (CallAs.func ent60 rfl rfl) (ALes.cons aR (ALes.cons aR ALes.nil)) (lts_cons (lt_agg (lts_cons rfl (lts_cons rfl (lts_cons (lt_sl (fun _ => rfl)) lts_nil)))) (lts_cons rfl lts_nil)) (lt_sl (fun _ => rfl)) (i_Matrix_column_ok r13 r14 r15 v7 r16 hf9) (Bor.own (f := f32) (fun _ => rfl) rfl rfl)) <|
     (TR.d (r := sl r17.length (r17.map f32)) (fs := []) rfl rfl (TOp.callS (CallAs.func ent89 rfl rfl) (ALes.cons aR (ALes.cons aR ALes.nil)) (lts_cons (lt_agg (lts_cons rfl (lts_cons rfl (lts_cons (lt_sl (fun _ => rfl)) (lts_cons (lt_sl (fun _ => rfl)) lts_nil))))) (lts_cons (lt_sl (fun _ => rfl)) lts_nil)) (lt_sl (fun _ => rfl)) (i_Factor_solve_ok a0 a1 a2 a3 r16 r17 hf10) (Bor.own (f := f32) (fun _ => rfl) rfl rfl)) <|
     TR.nil)))))))) rfl (by kernel_rfl) rfl fills_nil rfl ?_
    iterate 8 refine ROps.dropS ?_
    refine ROps.drop0 ?_
    refine ROps.callO (A := [agg [i64 r2, i64 r3, oref 1 1 0 r4.length], i64 v7, sl r17.length (r17.map f32)]) (args := [agg [i64 r2, i64 r3, oref 0 0 0 L5.length], i64 v7, sl r17.length (r17.map f32)]) (Γc := [⟨0, some (L5.map f32)⟩]) (Γc' := [⟨0, some (r18.map f32)⟩]) (r' := tup []) (Γ' := [⟨1, some [i64 0, i64 0, nilsl]⟩, ⟨1, some (r18.map f32)⟩, ⟨1, some [i64 r2, i64 r3, oref 1 1 0 r4.length]⟩, ⟨0, none⟩]) [(1, 1)] [] rfl (CallAs.func ent88 rfl rfl) rfl rfl (SelOk.of (show List.Nodup [1] from by decide) (SelL.arr0 (f := f32) (fun _ => rfl) rfl trivial)) (live_of ⟨⟨_, _, rfl⟩, trivial⟩) (by simp [ren, rens, sigma, rens_f32, rens_f64, rens_i64, rens_ik, rens_str, rens_cp, hl6]) (lts_cons rfl (lts_cons rfl (lts_cons (lt_slk (fun _ => rfl)) lts_nil))) (i_Matrix_setColumn_02o_ok r2 r3 v7 r17 L5 r18 hf11) rfl (news_of trivial) (show List.Nodup [1] from by decide) (by simp [ren, rens, sigma, of_decide_eq_true hn12]) (by simp [backOb, sigma, ren, rens, rens_f32, rens_f64, rens_i64, rens_ik, rens_str, rens_cp]) ?_
    refine zN ?_
    obtain ⟨x19, hx13, h2_⟩ := olet_some h2_
    refine RunC.regionW ?_
    refine zL (r := i64 x19) rfl rfl rfl (LOp.eqr (LOp.add rfl rfl rfl) (congrArg (ik .i64) hx13)) ?_
    refine zM (r := i64 x19) rfl rfl rfl rfl rfl ?_
    refine zN ?_
    cases Option.some.inj h2_
    exact ⟨_, rfl, (of_decide_eq_true hn12), ⟨aR, aR, aR, aR, aR, aR, trivial⟩, ⟨⟨rfl, .inr rfl⟩, ⟨rfl, .inr rfl⟩, ⟨rfl, .inr rfl⟩, ⟨rfl, .inr rfl⟩, trivial⟩⟩
   ·refine RunC.regionW ?_
    refine zL (r := b false) rfl rfl rfl (LOp.eqb (LOp.lss rfl rfl rfl) hc4) ?_
    refine zN ?_
    refine RunC.seq ?_
    refine RunC.cond_false rfl rfl ?_
    refine RunC.exit ?_
    cases Option.some.inj h2_
    have hx := ho2 _ rfl
    exact ⟨L5, hl6, ⟨aR, aR, trivial⟩, ⟨⟨rfl, .inr rfl⟩, ⟨rfl, .inr rfl⟩, ⟨rfl, .inr rfl⟩, ⟨rfl, .inr rfl⟩, trivial⟩, hx⟩
  ·rintro τ3 Γ3 ⟨L20, hl21, hw3, hd3, rfl⟩
   refine RunC.wl hw3 hd3 ?_
   replace h : i_FactorInverse_k1 r2 r3 r4 L20 = some (q0, q1, q2, q3) := h
   unfold i_FactorInverse_k1 at h
   refine RunC.seq ?_
   obtain ⟨z4, hf14, h⟩ := obind_some h
   rcases z4 with z4 | z4
   ·replace h := (osum_inl _ _ _).symm.trans h
    obtain ⟨r22, r23, r24, r25, hz5, h⟩ := obind4_some h
    cases hz5
    obtain ⟨hn15, h⟩ := need_some h
    refine RunC.regionW ?_
    refine ROps.d (r := agg [i64 r2, i64 r3, oref 1 1 0 r4.length]) (fs := []) (Γ' := [⟨1, some [i64 0, i64 0, nilsl]⟩, ⟨1, some (L20.map f32)⟩, ⟨1, some [i64 r2, i64 r3, oref 1 1 0 r4.length]⟩, ⟨0, none⟩]) rfl rfl rfl (TOp.loadAgg_o rfl agg26 siz26 rfl rfl rfl rfl) rfl ?_
    refine ROps.callO (A := [agg [i64 r2, i64 r3, oref 1 1 0 r4.length]]) (args := [agg [i64 r2, i64 r3, oref 0 0 0 L20.length]]) (Γc := [⟨0, some (L20.map f32)⟩]) (Γc' := [⟨0, some (r25.map f32)⟩]) (r' := tup [agg [i64 r22, i64 r23, oref 1 1 0 r4.length], b r24]) (Γ' := [⟨1, some [i64 0, i64 0, nilsl]⟩, ⟨1, some (r25.map f32)⟩, ⟨1, some [i64 r2, i64 r3, oref 1 1 0 r4.length]⟩, ⟨0, none⟩]) [(1, 1)] [] rfl (CallAs.func ent36 rfl rfl) rfl rfl (SelOk.of (show List.Nodup [1] from by decide) (SelL.arr0 (f := f32) (fun _ => rfl) rfl trivial)) (live_of ⟨⟨_, _, rfl⟩, trivial⟩) (by simp [ren, rens, sigma, rens_f32, rens_f64, rens_i64, rens_ik, rens_str, rens_cp, hl21]) rfl (i_Matrix_valid_02o_ok0 r2 r3 L20 r22 r23 r24 r25 hf14) rfl (news_of trivial) (show List.Nodup [1] from by decide) (by simp [ren, rens, sigma, of_decide_eq_true hn15]) (by simp [backOb, sigma, ren, rens, rens_f32, rens_f64, rens_i64, rens_ik, rens_str, rens_cp]) ?_
    refine zL (r := agg [i64 r22, i64 r23, oref 1 1 0 r4.length]) rfl rfl rfl (LOp.extract rfl rfl rfl) ?_
    refine zL (r := b r24) rfl rfl rfl (LOp.extract rfl rfl rfl) ?_
    refine ROps.store_le (r := agg [i64 r22, i64 r23, oref 1 1 0 r4.length]) (l' := [i64 r22, i64 r23, oref 1 1 0 r4.length]) (Γ' := [⟨1, some [i64 r22, i64 r23, oref 1 1 0 r4.length]⟩, ⟨1, some (r25.map f32)⟩, ⟨1, some [i64 r2, i64 r3, oref 1 1 0 r4.length]⟩, ⟨0, none⟩]) rfl siz26 rfl rfl rfl aR rfl rfl rfl rfl (Nat.le_of_ble_eq_true rfl) rfl rfl ?_
    refine zA (r := b r24) rfl rfl rfl rfl rfl ?_
    refine zN ?_
    refine RunC.ret ?_
    have hq := Option.some.inj h
    obtain ⟨hq0, hq⟩ := Prod.mk.inj hq
    obtain ⟨hq1, hq⟩ := Prod.mk.inj hq
    obtain ⟨hq2, hq⟩ := Prod.mk.inj hq
    subst q0
    subst q1
    subst q2
    subst q3
    exact bodyQ.mk (r' := tup [agg [i64 r22, i64 r23, oref 1 1 0 r25.length], b r24]) [(1, 1)] (.inr rfl) rfl (show List.Nodup [1] from by decide) rfl rfl (Res.eq (Res.two rfl (RV.cell agg26 siz26 rfl rfl rfl rfl) (RV.tmp rfl)) (by rw [(show r25.length = r4.length from (of_decide_eq_true hn15))] <;> rfl)) (SelL.arr0 (f := f32) (fun _ => rfl) rfl trivial)
   ·replace h := (osum_inr _ _ _).symm.trans h
    obtain ⟨r26, r27, r28, r29, r30, hz6, h⟩ := obind5_some h
    cases hz6
    obtain ⟨hn16, h⟩ := need_some h
    refine RunC.regionW ?_
    refine ROps.d (r := agg [i64 r2, i64 r3, oref 1 1 0 r4.length]) (fs := []) (Γ' := [⟨1, some [i64 0, i64 0, nilsl]⟩, ⟨1, some (L20.map f32)⟩, ⟨1, some [i64 r2, i64 r3, oref 1 1 0 r4.length]⟩, ⟨0, none⟩]) rfl rfl rfl (TOp.loadAgg_o rfl agg26 siz26 rfl rfl rfl rfl) rfl ?_
    refine ROps.callO (A := [agg [i64 r2, i64 r3, oref 1 1 0 r4.length]]) (args := [agg [i64 r2, i64 r3, oref 0 0 0 L20.length]]) (Γc := [⟨0, some (L20.map f32)⟩]) (Γc' := [⟨0, some (r29.map f32)⟩, ⟨0, some (r30.map f32)⟩]) (r' := tup [agg [i64 r26, i64 r27, oref 3 1 0 r30.length], b r28]) (Γ' := [⟨1, some [i64 0, i64 0, nilsl]⟩, ⟨1, some (r29.map f32)⟩, ⟨1, some [i64 r2, i64 r3, oref 1 1 0 r4.length]⟩, ⟨1, some (r30.map f32)⟩]) [(1, 1)] [(3, 1)] rfl (CallAs.func ent36 rfl rfl) rfl rfl (SelOk.of (show List.Nodup [1] from by decide) (SelL.arr0 (f := f32) (fun _ => rfl) rfl trivial)) (live_of ⟨⟨_, _, rfl⟩, trivial⟩) (by simp [ren, rens, sigma, rens_f32, rens_f64, rens_i64, rens_ik, rens_str, rens_cp, hl21]) rfl (i_Matrix_valid_02o_ok1 r2 r3 L20 r26 r27 r28 r29 r30 hf14) rfl (news_of ⟨⟨_, rfl, rfl⟩, trivial⟩) (show List.Nodup [1, 3] from by decide) (by simp [ren, rens, sigma, of_decide_eq_true hn16]) (by simp [backOb, sigma, ren, rens, rens_f32, rens_f64, rens_i64, rens_ik, rens_str, rens_cp]) ?_
    refine zL (r := agg [i64 r26, i64 r27, oref 3 1 0 r30.length]) rfl rfl rfl (LOp.extract rfl rfl rfl) ?_
    refine zL (r := b r28) rfl rfl rfl (LOp.extract rfl rfl rfl) ?_
    refine ROps.store_le (r := agg [i64 r26, i64 r27, oref 3 1 0 r30.length]) (l' := [i64 r26, i64 r27, oref 3 1 0 r30.length]) (Γ' := [⟨1, some [i64 r26, i64 r27, oref 3 1 0 r30.length]⟩, ⟨1, some (r29.map f32)⟩, ⟨1, some [i64 r2, i64 r3, oref 1 1 0 r4.length]⟩, ⟨1, some (r30.map f32)⟩]) rfl siz26 rfl rfl rfl aR rfl rfl rfl rfl (Nat.le_of_ble_eq_true rfl) rfl rfl ?_
    refine zA (r := b r28) rfl rfl rfl rfl rfl ?_
    refine zN ?_
    refine RunC.ret ?_
    have hq := Option.some.inj h
    obtain ⟨hq0, hq⟩ := Prod.mk.inj hq
    obtain ⟨hq1, hq⟩ := Prod.mk.inj hq
    obtain ⟨hq2, hq⟩ := Prod.mk.inj hq
    subst q0
    subst q1
    subst q2
    subst q3
    exact bodyQ.mk (r' := tup [agg [i64 r26, i64 r27, oref 3 1 0 r30.length], b r28]) [(3, 1)] (.inr rfl) rfl (show List.Nodup [3] from by decide) rfl rfl (Res.two rfl (RV.cell agg26 siz26 rfl rfl rfl rfl) (RV.tmp rfl)) (SelL.arr0 (f := f32) (fun _ => rfl) rfl trivial)
 ·refine RunC.regionW ?_
  refine zL (r := agg [i64 a0, i64 a1, sl a2.length (a2.map f32), sl a3.length (a3.map i64)]) rfl rfl rfl (LOp.loadAgg agg65 siz65 rfl rfl rfl rfl) ?_
  refine ROps.d (r := b false) (fs := []) (Γ' := [⟨1, some [i64 0, i64 0, nilsl]⟩, ⟨0, none⟩, ⟨0, none⟩, ⟨0, none⟩]) rfl rfl rfl (TOp.eqb (TOp.callB (CallAs.func ent87 rfl rfl) (Bors.cons (Bor.agg (Bors.cons (Bor.pure rfl) (Bors.cons (Bor.pure rfl) (Bors.cons (Bor.sl (fun _ => rfl)) (Bors.cons (Bor.sl (fun _ => rfl)) Bors.nil))))) Bors.nil) rfl rfl (i_ValidFactor_ok a0 a1 a2 a3 r1 hf1)) hc2) rfl ?_
  refine zL (r := b true) rfl rfl rfl (LOp.eqb (LOp.not rfl rfl) rfl) ?_
  refine zN ?_
  refine RunC.cond_true rfl rfl ?_
  refine zQ ?_
  refine zL (r := agg [i64 0, i64 0, nilsl]) rfl rfl rfl (LOp.build (qs := []) zer26 zok26 und26 plc26 rfl trivial rfl) ?_
  refine ROps.store_le (r := agg [i64 0, i64 0, nilsl]) (l' := [i64 0, i64 0, nilsl]) (Γ' := [⟨1, some [i64 0, i64 0, nilsl]⟩, ⟨0, none⟩, ⟨0, none⟩, ⟨0, none⟩]) rfl siz26 rfl rfl rfl aR rfl rfl rfl rfl (Nat.le_of_ble_eq_true rfl) rfl rfl ?_
  refine zA (r := b false) rfl rfl rfl rfl rfl ?_
  refine zN ?_
  refine RunC.nil_cell (l' := [i64 0, i64 0, oref 1 1 0 0]) (Γ' := [⟨1, some [i64 0, i64 0, oref 1 1 0 0]⟩, ⟨1, some (([] : List F).map f32)⟩, ⟨0, none⟩, ⟨0, none⟩]) 0 2 1 rfl rfl rfl rfl rfl ?_
  refine RunC.ret ?_
  have hq := Option.some.inj h
  obtain ⟨hq0, hq⟩ := Prod.mk.inj hq
  obtain ⟨hq1, hq⟩ := Prod.mk.inj hq
  obtain ⟨hq2, hq⟩ := Prod.mk.inj hq
  subst q0
  subst q1
  subst q2
  subst q3
  exact bodyQ.mk (r' := tup [agg [i64 0, i64 0, oref 1 1 0 (([] : List F).length)], b false]) [(1, 1)] (.inr rfl) rfl (show List.Nodup [1] from by decide) rfl rfl (Res.eq (Res.two rfl (RV.cell agg26 siz26 rfl rfl rfl rfl) (RV.tmp rfl)) (by rw [(show ([] : List F).length = 0 from rfl)] <;> rfl)) (SelL.arr0 (f := f32) (fun _ => rfl) rfl trivial)
noncomputable def i_Matrix_flip_1 (a0 : Int) (a1 : Int) (a2 : Int) (a3 : Int) (a4 : List F) : Option (F) :=
 obind (i_Matrix_at a2 a3 a4 a1 a0) fun (r1 : F) =>
 some r1
theorem i_Matrix_flip_1_ok (a0 : Int) (a1 : Int) (a2 : Int) (a3 : Int) (a4 : List F) (q0 : F) (h : i_Matrix_flip_1 a0 a1 a2 a3 a4 = some q0) : Ev Tryz.prog 127 [i64 a0, i64 a1, ptr [i64 a2, i64 a3, sl a4.length (a4.map f32)]] [] (f32 q0) [] := by
 refine Ev.start Tryz.func127 rfl rfl 0 (τ := [(0, i64 a0), (1, i64 a1), (2, ptr [i64 a2, i64 a3, sl a4.length (a4.map f32)])]) rfl (Γ' := []) rfl (n := 21) rfl (g := 0) rfl (fun _ => rfl) ?_
 unfold i_Matrix_flip_1 at h
 refine zQ ?_
 refine zL (r := f32 (some 0)) rfl rfl rfl (LOp.le (LOp.assign rfl rfl) (ALe.fl (by kernel_rfl) (by kernel_rfl))) ?_
 refine zN ?_
 refine RunC.seq ?_
 obtain ⟨r1, hf1, h⟩ := obind_some h
 refine RunC.regionW ?_
 refine zL (r := agg [i64 a2, i64 a3, sl a4.length (a4.map f32)]) rfl rfl rfl (LOp.loadAgg agg26 siz26 rfl rfl rfl rfl) ?_
 refine zM (r := i64 a1) rfl rfl rfl rfl rfl ?_
 refine zM (r := i64 a0) rfl rfl rfl rfl rfl ?_
 refine ROps.d (r := f32 r1) (fs := []) (Γ' := []) rfl rfl rfl (TOp.callB (CallAs.func ent35 rfl rfl) (Bors.cons (Bor.agg (Bors.cons (Bor.pure rfl) (Bors.cons (Bor.pure rfl) (Bors.cons (Bor.sl (fun _ => rfl)) Bors.nil)))) (Bors.cons (Bor.pure rfl) (Bors.cons (Bor.pure rfl) Bors.nil))) rfl rfl (i_Matrix_at_ok a2 a3 a4 a1 a0 r1 hf1)) rfl ?_
 refine zA (r := f32 r1) rfl rfl rfl rfl rfl ?_
 refine zN ?_
 refine RunC.ret ?_
 have hq := Option.some.inj h
 subst q0
 exact bodyQ.pure (.inr rfl) rfl (Res.one rfl (RV.tmp rfl))
noncomputable def i_made_2Fi_Matrix_flip_1_b2 (a1 : Int) (a2 : Int) (a3 : Int) (a4 : List F) (r1 : Int) (r2 : Int) (r3 : List F) (v6 : Int) (L7 : List F) (v9 : Int) : Option (LR ((List F) × Int) ((List F)) (Int × Int × (List F))) :=
 bsel (decide (v9 < a1)) (
  obind (i_Matrix_flip_1 v6 v9 a2 a3 a4) fun (r11 : F) =>
  obind (i_Matrix_set_02o r1 r2 v6 v9 r11 L7) fun (r12 : List F) =>
  need (decide (r12.length = r3.length)) <|
  olet (IntKind.i64.wrap (v9 + 1)) fun (x13 : Int) =>
  some (LR.next (r12, x13))) (
  some (LR.out L7))
noncomputable def i_made_2Fi_Matrix_flip_1_s2 (a1 : Int) (a2 : Int) (a3 : Int) (a4 : List F) (r1 : Int) (r2 : Int) (r3 : List F) (v6 : Int) : ((List F) × Int) → Option (LR ((List F) × Int) ((List F)) (Int × Int × (List F))) := fun s => i_made_2Fi_Matrix_flip_1_b2 a1 a2 a3 a4 r1 r2 r3 v6 s.1 s.2
noncomputable def i_made_2Fi_Matrix_flip_1_k2 (v6 : Int) (L14 : List F) : Option (LR ((List F) × Int) ((List F)) (Int × Int × (List F))) :=
 olet (IntKind.i64.wrap (v6 + 1)) fun (x16 : Int) =>
 some (LR.next (L14, x16))
noncomputable def i_made_2Fi_Matrix_flip_1_b3 (a0 : Int) (a1 : Int) (a2 : Int) (a3 : Int) (a4 : List F) (r1 : Int) (r2 : Int) (r3 : List F) (L4 : List F) (v6 : Int) : Option (LR ((List F) × Int) ((List F)) (Int × Int × (List F))) :=
 bsel (decide (v6 < a0)) (
  obind (loopM (i_made_2Fi_Matrix_flip_1_s2 a1 a2 a3 a4 r1 r2 r3 v6) (L4, 0)) fun z => osum z (fun e => i_made_2Fi_Matrix_flip_1_k2 v6 e) (fun r => some (LR.ret r))) (
  some (LR.out L4))
noncomputable def i_made_2Fi_Matrix_flip_1_s3 (a0 : Int) (a1 : Int) (a2 : Int) (a3 : Int) (a4 : List F) (r1 : Int) (r2 : Int) (r3 : List F) : ((List F) × Int) → Option (LR ((List F) × Int) ((List F)) (Int × Int × (List F))) := fun s => i_made_2Fi_Matrix_flip_1_b3 a0 a1 a2 a3 a4 r1 r2 r3 s.1 s.2
noncomputable def i_made_2Fi_Matrix_flip_1_k3 (r1 : Int) (r2 : Int) (L17 : List F) : Option (Int × Int × (List F)) :=
 some (r1, r2, L17)
noncomputable def i_made_2Fi_Matrix_flip_1 (a0 : Int) (a1 : Int) (a2 : Int) (a3 : Int) (a4 : List F) : Option (Int × Int × (List F)) :=
 obind3 (i_newMatrix a0 a1) fun (r1 : Int) (r2 : Int) (r3 : List F) =>
 obind (loopM (i_made_2Fi_Matrix_flip_1_s3 a0 a1 a2 a3 a4 r1 r2 r3) (r3, 0)) fun z => osum z (fun e => i_made_2Fi_Matrix_flip_1_k3 r1 r2 e) (fun r => some r)
theorem i_made_2Fi_Matrix_flip_1_ok (a0 : Int) (a1 : Int) (a2 : Int) (a3 : Int) (a4 : List F) (q0 : Int) (q1 : Int) (q2 : List F) (h : i_made_2Fi_Matrix_flip_1 a0 a1 a2 a3 a4 = some (q0, q1, q2)) : Ev Tryz.prog 32 [i64 a0, i64 a1, fn (.func 127) [] [ptr [i64 a2, i64 a3, sl a4.length (a4.map f32)]]] [] (agg [i64 q0, i64 q1, oref 0 0 0 q2.length]) [⟨0, some (q2.map f32)⟩] := by
 refine Ev.start Tryz.func32 rfl rfl 3 (τ := [(0, i64 a0), (1, i64 a1), (2, fn (.func 127) [] [ptr [i64 a2, i64 a3, sl a4.length (a4.map f32)]])]) rfl (Γ' := [⟨0, none⟩, ⟨0, none⟩, ⟨0, none⟩]) rfl (n := 65) rfl (g := 0) rfl (fun _ => rfl) ?_
 unfold i_made_2Fi_Matrix_flip_1 at h
 refine zQ ?_
 refine ROps.d (r := optr 0 1 0) (fs := [(0, [i64 0, i64 0, nilsl])]) (Γ' := [⟨1, some [i64 0, i64 0, nilsl]⟩, ⟨0, none⟩, ⟨0, none⟩]) rfl rfl rfl (TOp.alloc_o (g := ⟨0, none⟩) 0 rfl zer26 zok26 rfl) rfl ?_
 refine zN ?_
 refine RunC.seq ?_
 obtain ⟨r1, r2, r3, hf1, h⟩ := obind3_some h
 refine RunC.regionW ?_
 refine zM (r := i64 a0) rfl rfl rfl rfl rfl ?_
 refine zM (r := i64 a1) rfl rfl rfl rfl rfl ?_
 refine ROps.d (r := agg [i64 r1, i64 r2, oref 1 1 0 r3.length]) (fs := [(1, (r3.map f32))]) (Γ' := [⟨1, some [i64 0, i64 0, nilsl]⟩, ⟨1, some (r3.map f32)⟩, ⟨0, none⟩]) rfl rfl rfl (TOp.callBN (ls := [(r3.map f32)]) [1] (CallAs.func ent70 rfl rfl) (Bors.cons (Bor.pure rfl) (Bors.cons (Bor.pure rfl) Bors.nil)) rfl (i_newMatrix_ok a0 a1 r1 r2 r3 hf1) (and_all (lts0_map (f := f32) (fun _ => rfl) _) rfl) (and_all (noss_map (f := f32) (fun _ => rfl) _) rfl) rfl (by decide) (ns_of ⟨⟨_, rfl⟩, trivial⟩)) rfl ?_
 refine ROps.d (r := optr 2 1 0) (fs := [(2, [i64 0, i64 0, nilsl])]) (Γ' := [⟨1, some [i64 0, i64 0, nilsl]⟩, ⟨1, some (r3.map f32)⟩, ⟨1, some [i64 0, i64 0, nilsl]⟩]) rfl rfl rfl (TOp.alloc_o (g := ⟨0, none⟩) 2 rfl zer26 zok26 rfl) rfl ?_
 refine ROps.store_le (r := agg [i64 r1, i64 r2, oref 1 1 0 r3.length]) (l' := [i64 r1, i64 r2, oref 1 1 0 r3.length]) (Γ' := [⟨1, some [i64 0, i64 0, nilsl]⟩, ⟨1, some (r3.map f32)⟩, ⟨1, some [i64 r1, i64 r2, oref 1 1 0 r3.length]⟩]) rfl siz26 rfl rfl rfl aR rfl rfl rfl rfl (Nat.le_of_ble_eq_true rfl) rfl rfl ?_
 refine zN ?_
 refine RunC.seq ?_
 refine zQ ?_
 refine zM (r := i64 a0) rfl rfl rfl rfl rfl ?_
 refine zM (r := i64 0) rfl rfl rfl rfl rfl ?_
 refine zN ?_
 obtain ⟨z4, hz_4, h⟩ := obind_some h
 refine RunC.cutN (fun τ Γ => ∃ (L17 : List F), L17.length = r3.length ∧ WeakLe τ [(6, optr 0 1 0), (7, optr 2 1 0)] ∧ DeadLe Γ [⟨1, some [i64 0, i64 0, nilsl]⟩, ⟨1, some (L17.map f32)⟩, ⟨1, some [i64 r1, i64 r2, oref 1 1 0 r3.length]⟩] ∧ z4 = .inl L17) ?_ ?_
 ·refine RunC.block (RunC.loop (RunL.loopM (x := z4) (i_made_2Fi_Matrix_flip_1_s3 a0 a1 a2 a3 a4 r1 r2 r3) (fun (s : (List F) × Int) τ Γ => s.1.length = r3.length ∧ WeakLe τ [(1, i64 a1), (2, fn (.func 127) [] [ptr [i64 a2, i64 a3, sl a4.length (a4.map f32)]]), (6, optr 0 1 0), (7, optr 2 1 0), (13, i64 a0), (14, i64 s.2)] ∧ DeadLe Γ [⟨1, some [i64 0, i64 0, nilsl]⟩, ⟨1, some (s.1.map f32)⟩, ⟨1, some [i64 r1, i64 r2, oref 1 1 0 r3.length]⟩]) ?_ _ _ _ hz_4 ⟨rfl, ⟨aR, aR, aR, aR, aR, aR, trivial⟩, ⟨⟨rfl, .inr rfl⟩, ⟨rfl, .inr rfl⟩, ⟨rfl, .inr rfl⟩, trivial⟩⟩))
  rintro ⟨L4, v6⟩ τ4 Γ4 y4_ ⟨hl5, hw4, hd4⟩ h4_ ho4 hr4
  refine RunC.wl (τ' := [(1, i64 a1), (2, fn (.func 127) [] [ptr [i64 a2, i64 a3, sl a4.length (a4.map f32)]]), (6, optr 0 1 0), (7, optr 2 1 0), (13, i64 a0), (14, i64 v6)]) (Γ' := [⟨1, some [i64 0, i64 0, nilsl]⟩, ⟨1, some (L4.map f32)⟩, ⟨1, some [i64 r1, i64 r2, oref 1 1 0 r3.length]⟩]) hw4 hd4 ?_
  replace hl5 : L4.length = r3.length := hl5
  replace h4_ : i_made_2Fi_Matrix_flip_1_b3 a0 a1 a2 a3 a4 r1 r2 r3 L4 v6 = some y4_ := h4_
  unfold i_made_2Fi_Matrix_flip_1_b3 at h4_
  refine RunC.seq ?_
  rcases bsel_some h4_ with ⟨hc2, h4_⟩ | ⟨hc2, h4_⟩
  ·refine RunC.regionW ?_
   refine zL (r := b true) rfl rfl rfl (LOp.eqb (LOp.lss rfl rfl rfl) hc2) ?_
   refine zN ?_
   refine RunC.seq ?_
   refine RunC.cond_true rfl rfl ?_
   refine RunC.skip ?_
   refine RunC.seq ?_
   refine RunC.block ?_
   refine zQ ?_
   refine zM (r := i64 v6) rfl rfl rfl rfl rfl ?_
   refine zA (r := i64 v6) rfl rfl rfl rfl rfl ?_
   refine zN ?_
   refine zQ ?_
   refine zM (r := i64 a1) rfl rfl rfl rfl rfl ?_
   refine zM (r := i64 0) rfl rfl rfl rfl rfl ?_
   refine zN ?_
   obtain ⟨z5, hz_5, h4_⟩ := obind_some h4_
   refine RunC.cutN (fun τ Γ => ∃ (L14 : List F), L14.length = r3.length ∧ WeakLe τ [(1, i64 a1), (2, fn (.func 127) [] [ptr [i64 a2, i64 a3, sl a4.length (a4.map f32)]]), (6, optr 0 1 0), (7, optr 2 1 0), (13, i64 a0), (14, i64 v6)] ∧ DeadLe Γ [⟨1, some [i64 0, i64 0, nilsl]⟩, ⟨1, some (L14.map f32)⟩, ⟨1, some [i64 r1, i64 r2, oref 1 1 0 r3.length]⟩] ∧ z5 = .inl L14) ?_ ?_
   ·refine RunC.block (RunC.loop (RunL.loopM (x := z5) (i_made_2Fi_Matrix_flip_1_s2 a1 a2 a3 a4 r1 r2 r3 v6) (fun (s : (List F) × Int) τ Γ => s.1.length = r3.length ∧ WeakLe τ [(1, i64 a1), (2, fn (.func 127) [] [ptr [i64 a2, i64 a3, sl a4.length (a4.map f32)]]), (6, optr 0 1 0), (7, optr 2 1 0), (8, i64 v6), (13, i64 a0), (14, i64 v6), (17, i64 a1), (18, i64 s.2)] ∧ DeadLe Γ [⟨1, some [i64 0, i64 0, nilsl]⟩, ⟨1, some (s.1.map f32)⟩, ⟨1, some [i64 r1, i64 r2, oref 1 1 0 r3.length]⟩]) ?_ _ _ _ hz_5 ⟨hl5, ⟨aR, aR, aR, aR, aR, aR, aR, aR, aR, trivial⟩, ⟨⟨rfl, .inr rfl⟩, ⟨rfl, .inr rfl⟩, ⟨rfl, .inr rfl⟩, trivial⟩⟩))
    rintro ⟨L7, v9⟩ τ5 Γ5 y5_ ⟨hl8, hw5, hd5⟩ h5_ ho5 hr5
    refine RunC.wl (τ' := [(1, i64 a1), (2, fn (.func 127) [] [ptr [i64 a2, i64 a3, sl a4.length (a4.map f32)]]), (6, optr 0 1 0), (7, optr 2 1 0), (8, i64 v6), (13, i64 a0), (14, i64 v6), (17, i64 a1), (18, i64 v9)]) (Γ' := [⟨1, some [i64 0, i64 0, nilsl]⟩, ⟨1, some (L7.map f32)⟩, ⟨1, some [i64 r1, i64 r2, oref 1 1 0 r3.length]⟩]) hw5 hd5 ?_
    replace hl8 : L7.length = r3.length := hl8
    replace h5_ : i_made_2Fi_Matrix_flip_1_b2 a1 a2 a3 a4 r1 r2 r3 v6 L7 v9 = some y5_ := h5_
    unfold i_made_2Fi_Matrix_flip_1_b2 at h5_
    refine RunC.seq ?_
    rcases bsel_some h5_ with ⟨hc3, h5_⟩ | ⟨hc3, h5_⟩
    ·refine RunC.regionW ?_
     refine zL (r := b true) rfl rfl rfl (LOp.eqb (LOp.lss rfl rfl rfl) hc3) ?_
     refine zN ?_
     refine RunC.seq ?_
     refine RunC.cond_true rfl rfl ?_
     refine RunC.skip ?_
     refine RunC.seq ?_
     refine RunC.block ?_
     refine zQ ?_
     refine zM (r := i64 v9) rfl rfl rfl rfl rfl ?_
     refine zA (r := i64 v9) rfl rfl rfl rfl rfl ?_
     refine zN ?_
     obtain ⟨r11, hf5, h5_⟩ := obind_some h5_
     obtain ⟨r12, hf6, h5_⟩ := obind_some h5_
     obtain ⟨hn7, h5_⟩ := need_some h5_
     refine RunC.region_draw (Γ' := [⟨1, some [i64 0, i64 0, nilsl]⟩, ⟨1, some (L7.map f32)⟩, ⟨1, some [i64 r1, i64 r2, oref 1 1 0 r3.length]⟩]) 7 mixed 
      (TR.d (r := agg [i64 r1, i64 r2, oref 1 1 0 r3.length]) (fs := []) rfl rfl (TOp.loadAgg_o rfl agg26 siz26 rfl rfl rfl rfl) <|
      (TR.l (r := i64 v6) rfl rfl (LOp.move rfl rfl) <|
      (TR.l (r := i64 v9) rfl rfl (LOp.move rfl rfl) <|
      (TR.l (r := fn (.func 127) [] [ptr [i64 a2, i64 a3, sl a4.length (a4.map f32)]]) rfl rfl (LOp.move rfl rfl) <|
      (TR.l (r := i64 v6) rfl rfl (LOp.move rfl rfl) <|
      (TR.l (r := i64 v9) rfl rfl (LOp.move rfl rfl) <|
      (TR.d (r := f32 r11) (fs := []) rfl rfl (TOp.callB (CallAs.fn ent127 rfl rfl rfl rfl) (Bors.cons (Bor.pure rfl) (Bors.cons (Bor.pure rfl) (Bors.cons (Bor.ptr (Bors.cons (Bor.pure rfl) (Bors.cons (Bor.pure rfl) (Bors.cons (Bor.sl (fun _ => rfl)) Bors.nil)))) Bors.nil))) rfl rfl (i_Matrix_flip_1_ok v6 v9 a2 a3 a4 r11 hf5)) <|
      TR.nil))))))) rfl (by kernel_rfl) rfl fills_nil rfl ?_
     iterate 7 refine ROps.dropS ?_
     refine ROps.drop0 ?_
     refine ROps.callO (A := [agg [i64 r1, i64 r2, oref 1 1 0 r3.length], i64 v6, i64 v9, f32 r11]) (args := [agg [i64 r1, i64 r2, oref 0 0 0 L7.length], i64 v6, i64 v9, f32 r11]) (Γc := [⟨0, some (L7.map f32)⟩]) (Γc' := [⟨0, some (r12.map f32)⟩]) (r' := tup []) (Γ' := [⟨1, some [i64 0, i64 0, nilsl]⟩, ⟨1, some (r12.map f32)⟩, ⟨1, some [i64 r1, i64 r2, oref 1 1 0 r3.length]⟩]) [(1, 1)] [] rfl (CallAs.func ent71 rfl rfl) rfl rfl (SelOk.of (show List.Nodup [1] from by decide) (SelL.arr0 (f := f32) (fun _ => rfl) rfl trivial)) (live_of ⟨⟨_, _, rfl⟩, trivial⟩) (by simp [ren, rens, sigma, rens_f32, rens_f64, rens_i64, rens_ik, rens_str, rens_cp, hl8]) rfl (i_Matrix_set_02o_ok r1 r2 v6 v9 r11 L7 r12 hf6) rfl (news_of trivial) (show List.Nodup [1] from by decide) (by simp [ren, rens, sigma, of_decide_eq_true hn7]) (by simp [backOb, sigma, ren, rens, rens_f32, rens_f64, rens_i64, rens_ik, rens_str, rens_cp]) ?_
     refine zN ?_
     obtain ⟨x13, hx8, h5_⟩ := olet_some h5_
     refine RunC.regionW ?_
     refine zL (r := i64 x13) rfl rfl rfl (LOp.eqr (LOp.add rfl rfl rfl) (congrArg (ik .i64) hx8)) ?_
     refine zM (r := i64 x13) rfl rfl rfl rfl rfl ?_
     refine zN ?_
     cases Option.some.inj h5_
     exact ⟨_, rfl, (of_decide_eq_true hn7), ⟨aR, aR, aR, aR, aR, aR, aR, aR, aR, trivial⟩, ⟨⟨rfl, .inr rfl⟩, ⟨rfl, .inr rfl⟩, ⟨rfl, .inr rfl⟩, trivial⟩⟩
    ·refine RunC.regionW ?_
     refine zL (r := b false) rfl rfl rfl (LOp.eqb (LOp.lss rfl rfl rfl) hc3) ?_
     refine zN ?_
     refine RunC.seq ?_
     refine RunC.cond_false rfl rfl ?_
     refine RunC.exit ?_
     cases Option.some.inj h5_
     have hx := ho5 _ rfl
     exact ⟨L7, hl8, ⟨aR, aR, aR, aR, aR, aR, trivial⟩, ⟨⟨rfl, .inr rfl⟩, ⟨rfl, .inr rfl⟩, ⟨rfl, .inr rfl⟩, trivial⟩, hx⟩
   ·rintro τ6 Γ6 ⟨L14, hl15, hw6, hd6, rfl⟩
    refine RunC.wl hw6 hd6 ?_
    replace h4_ : i_made_2Fi_Matrix_flip_1_k2 v6 L14 = some y4_ := h4_
    unfold i_made_2Fi_Matrix_flip_1_k2 at h4_
    obtain ⟨x16, hx9, h4_⟩ := olet_some h4_
    refine RunC.regionW ?_
    refine zL (r := i64 x16) rfl rfl rfl (LOp.eqr (LOp.add rfl rfl rfl) (congrArg (ik .i64) hx9)) ?_
    refine zM (r := i64 x16) rfl rfl rfl rfl rfl ?_
    refine zN ?_
    cases Option.some.inj h4_
    exact ⟨_, rfl, hl15, ⟨aR, aR, aR, aR, aR, aR, trivial⟩, ⟨⟨rfl, .inr rfl⟩, ⟨rfl, .inr rfl⟩, ⟨rfl, .inr rfl⟩, trivial⟩⟩
  ·refine RunC.regionW ?_
   refine zL (r := b false) rfl rfl rfl (LOp.eqb (LOp.lss rfl rfl rfl) hc2) ?_
   refine zN ?_
   refine RunC.seq ?_
   refine RunC.cond_false rfl rfl ?_
   refine RunC.exit ?_
   cases Option.some.inj h4_
   have hx := ho4 _ rfl
   exact ⟨L4, hl5, ⟨aR, aR, trivial⟩, ⟨⟨rfl, .inr rfl⟩, ⟨rfl, .inr rfl⟩, ⟨rfl, .inr rfl⟩, trivial⟩, hx⟩
 ·rintro τ7 Γ7 ⟨L17, hl18, hw7, hd7, rfl⟩
  refine RunC.wl hw7 hd7 ?_
  replace h : i_made_2Fi_Matrix_flip_1_k3 r1 r2 L17 = some (q0, q1, q2) := h
  unfold i_made_2Fi_Matrix_flip_1_k3 at h
  refine zQ ?_
  refine ROps.d (r := agg [i64 r1, i64 r2, oref 1 1 0 r3.length]) (fs := []) (Γ' := [⟨1, some [i64 0, i64 0, nilsl]⟩, ⟨1, some (L17.map f32)⟩, ⟨1, some [i64 r1, i64 r2, oref 1 1 0 r3.length]⟩]) rfl rfl rfl (TOp.loadAgg_o rfl agg26 siz26 rfl rfl rfl rfl) rfl ?_
  refine ROps.store_le (r := agg [i64 r1, i64 r2, oref 1 1 0 r3.length]) (l' := [i64 r1, i64 r2, oref 1 1 0 r3.length]) (Γ' := [⟨1, some [i64 r1, i64 r2, oref 1 1 0 r3.length]⟩, ⟨1, some (L17.map f32)⟩, ⟨1, some [i64 r1, i64 r2, oref 1 1 0 r3.length]⟩]) rfl siz26 rfl rfl rfl aR rfl rfl rfl rfl (Nat.le_of_ble_eq_true rfl) rfl rfl ?_
  refine zN ?_
  refine RunC.ret ?_
  have hq := Option.some.inj h
  obtain ⟨hq0, hq⟩ := Prod.mk.inj hq
  obtain ⟨hq1, hq⟩ := Prod.mk.inj hq
  subst q0
  subst q1
  subst q2
  exact bodyQ.mk (r' := agg [i64 r1, i64 r2, oref 1 1 0 L17.length]) [(1, 1)] (.inr rfl) rfl (show List.Nodup [1] from by decide) rfl rfl (Res.eq (Res.one rfl (RV.cell agg26 siz26 rfl rfl rfl rfl)) (by rw [(show L17.length = r3.length from hl18)] <;> rfl)) (SelL.arr0 (f := f32) (fun _ => rfl) rfl trivial)
noncomputable def i_Matrix_flip (a0 : Int) (a1 : Int) (a2 : List F) : Option (Int × Int × (List F)) :=
 obind3 (i_made_2Fi_Matrix_flip_1 a1 a0 a0 a1 a2) fun (r1 : Int) (r2 : Int) (r3 : List F) =>
 some (r1, r2, r3)
theorem i_Matrix_flip_ok (a0 : Int) (a1 : Int) (a2 : List F) (q0 : Int) (q1 : Int) (q2 : List F) (h : i_Matrix_flip a0 a1 a2 = some (q0, q1, q2)) : Ev Tryz.prog 90 [agg [i64 a0, i64 a1, sl a2.length (a2.map f32)]] [] (agg [i64 q0, i64 q1, oref 0 0 0 q2.length]) [⟨0, some (q2.map f32)⟩] := by
 refine Ev.start Tryz.func90 rfl rfl 2 (τ := [(0, agg [i64 a0, i64 a1, sl a2.length (a2.map f32)])]) rfl (Γ' := [⟨0, none⟩, ⟨0, none⟩]) rfl (n := 19) rfl (g := 0) rfl (fun _ => rfl) ?_
 unfold i_Matrix_flip at h
 refine zQ ?_
 refine ROps.d (r := ptr [i64 a0, i64 a1, sl a2.length (a2.map f32)]) (fs := []) (Γ' := [⟨0, none⟩, ⟨0, none⟩]) rfl rfl rfl (TOp.box_s rfl rfl rfl) rfl ?_
 refine ROps.d (r := optr 0 1 0) (fs := [(0, [i64 0, i64 0, nilsl])]) (Γ' := [⟨1, some [i64 0, i64 0, nilsl]⟩, ⟨0, none⟩]) rfl rfl rfl (TOp.alloc_o (g := ⟨0, none⟩) 0 rfl zer26 zok26 rfl) rfl ?_
 refine zN ?_
 refine RunC.seq ?_
 obtain ⟨r1, r2, r3, hf1, h⟩ := obind3_some h
 refine RunC.regionW ?_
 refine zL (r := ptr [i64 a1, sl a2.length (a2.map f32)]) rfl rfl rfl (LOp.fap und26 rfl siz2 rfl rfl rfl) ?_
 refine zL (r := i64 a1) rfl rfl rfl (LOp.load1 agg2 rfl rfl) ?_
 refine zL (r := ptr [i64 a0, i64 a1, sl a2.length (a2.map f32)]) rfl rfl rfl (LOp.fap und26 rfl siz2 rfl rfl rfl) ?_
 refine zL (r := i64 a0) rfl rfl rfl (LOp.load1 agg2 rfl rfl) ?_
 refine zL (r := fn (.func 127) [] [ptr [i64 a0, i64 a1, sl a2.length (a2.map f32)]]) rfl rfl rfl (LOp.makeFunc rfl rfl) ?_
 refine ROps.d (r := agg [i64 r1, i64 r2, oref 1 1 0 r3.length]) (fs := [(1, (r3.map f32))]) (Γ' := [⟨1, some [i64 0, i64 0, nilsl]⟩, ⟨1, some (r3.map f32)⟩]) rfl rfl rfl (TOp.callBN (ls := [(r3.map f32)]) [1] (CallAs.func ent32 rfl rfl) (Bors.cons (Bor.pure rfl) (Bors.cons (Bor.pure rfl) (Bors.cons (Bor.fn Bors.nil (Bors.cons (Bor.ptr (Bors.cons (Bor.pure rfl) (Bors.cons (Bor.pure rfl) (Bors.cons (Bor.sl (fun _ => rfl)) Bors.nil)))) Bors.nil)) Bors.nil))) rfl (i_made_2Fi_Matrix_flip_1_ok a1 a0 a0 a1 a2 r1 r2 r3 hf1) (and_all (lts0_map (f := f32) (fun _ => rfl) _) rfl) (and_all (noss_map (f := f32) (fun _ => rfl) _) rfl) rfl (by decide) (ns_of ⟨⟨_, rfl⟩, trivial⟩)) rfl ?_
 refine ROps.store_le (r := agg [i64 r1, i64 r2, oref 1 1 0 r3.length]) (l' := [i64 r1, i64 r2, oref 1 1 0 r3.length]) (Γ' := [⟨1, some [i64 r1, i64 r2, oref 1 1 0 r3.length]⟩, ⟨1, some (r3.map f32)⟩]) rfl siz26 rfl rfl rfl aR rfl rfl rfl rfl (Nat.le_of_ble_eq_true rfl) rfl rfl ?_
 refine zN ?_
 refine RunC.ret ?_
 have hq := Option.some.inj h
 obtain ⟨hq0, hq⟩ := Prod.mk.inj hq
 obtain ⟨hq1, hq⟩ := Prod.mk.inj hq
 subst q0
 subst q1
 subst q2
 exact bodyQ.mk (r' := agg [i64 r1, i64 r2, oref 1 1 0 r3.length]) [(1, 1)] (.inr rfl) rfl (show List.Nodup [1] from by decide) rfl rfl (Res.one rfl (RV.cell agg26 siz26 rfl rfl rfl rfl)) (SelL.arr0 (f := f32) (fun _ => rfl) rfl trivial)
noncomputable def i_Matrix_rowNorm_b2 (a0 : Int) (a1 : Int) (a2 : List F) (v2 : Int) (y3 : F) (v4 : Int) : Option (LR (F × Int) (F) (F)) :=
 bsel (decide (v4 < a1)) (
  obind (i_Matrix_at a0 a1 a2 v2 v4) fun (r5 : F) =>
  obind (i_absolute r5) fun (r6 : F) =>
  olet (fop .add .f32 y3 r6) fun (x7 : F) =>
  olet (IntKind.i64.wrap (v4 + 1)) fun (x8 : Int) =>
  some (LR.next (x7, x8))) (
  some (LR.out y3))
noncomputable def i_Matrix_rowNorm_s2 (a0 : Int) (a1 : Int) (a2 : List F) (v2 : Int) : (F × Int) → Option (LR (F × Int) (F) (F)) := fun s => i_Matrix_rowNorm_b2 a0 a1 a2 v2 s.1 s.2
noncomputable def i_Matrix_rowNorm_k2 (y1 : F) (v2 : Int) (y9 : F) : Option (LR (F × Int) (F) (F)) :=
 obind (fmaxN .f32 y1 y9) fun (y10 : F) =>
 olet (IntKind.i64.wrap (v2 + 1)) fun (x11 : Int) =>
 some (LR.next (y10, x11))
noncomputable def i_Matrix_rowNorm_b3 (a0 : Int) (a1 : Int) (a2 : List F) (y1 : F) (v2 : Int) : Option (LR (F × Int) (F) (F)) :=
 bsel (decide (v2 < a0)) (
  obind (loopM (i_Matrix_rowNorm_s2 a0 a1 a2 v2) (some 0, 0)) fun z => osum z (fun e => i_Matrix_rowNorm_k2 y1 v2 e) (fun r => some (LR.ret r))) (
  some (LR.out y1))
noncomputable def i_Matrix_rowNorm_s3 (a0 : Int) (a1 : Int) (a2 : List F) : (F × Int) → Option (LR (F × Int) (F) (F)) := fun s => i_Matrix_rowNorm_b3 a0 a1 a2 s.1 s.2
noncomputable def i_Matrix_rowNorm_k3 (y12 : F) : Option (F) :=
 some y12
noncomputable def i_Matrix_rowNorm (a0 : Int) (a1 : Int) (a2 : List F) : Option (F) :=
 obind (loopM (i_Matrix_rowNorm_s3 a0 a1 a2) (some 0, 0)) fun z => osum z (fun e => i_Matrix_rowNorm_k3 e) (fun r => some r)
theorem i_Matrix_rowNorm_ok (a0 : Int) (a1 : Int) (a2 : List F) (q0 : F) (h : i_Matrix_rowNorm a0 a1 a2 = some q0) : Ev Tryz.prog 91 [agg [i64 a0, i64 a1, sl a2.length (a2.map f32)]] [] (f32 q0) [] := by
 refine Ev.start Tryz.func91 rfl rfl 0 (τ := [(0, agg [i64 a0, i64 a1, sl a2.length (a2.map f32)])]) rfl (Γ' := []) rfl (n := 61) rfl (g := 0) rfl (fun _ => rfl) ?_
 unfold i_Matrix_rowNorm at h
 refine zQ ?_
 refine ROps.d (r := ptr [i64 a0, i64 a1, sl a2.length (a2.map f32)]) (fs := []) (Γ' := []) rfl rfl rfl (TOp.box_s rfl rfl rfl) rfl ?_
 refine zL (r := f32 (some 0)) rfl rfl rfl (LOp.le (LOp.assign rfl rfl) (ALe.fl (by kernel_rfl) (by kernel_rfl))) ?_
 refine zN ?_
 refine zQ ?_
 refine zL (r := f32 (some 0)) rfl rfl rfl (LOp.le (LOp.assign rfl rfl) (ALe.fl (by kernel_rfl) (by kernel_rfl))) ?_
 refine zN ?_
 refine RunC.seq ?_
 refine zQ ?_
 refine zL (r := ptr [i64 a0, i64 a1, sl a2.length (a2.map f32)]) rfl rfl rfl (LOp.fap und26 rfl siz2 rfl rfl rfl) ?_
 refine zL (r := i64 a0) rfl rfl rfl (LOp.load1 agg2 rfl rfl) ?_
 refine zM (r := i64 0) rfl rfl rfl rfl rfl ?_
 refine zN ?_
 obtain ⟨z4, hz_4, h⟩ := obind_some h
 refine RunC.cutN (fun τ Γ => ∃ (y12 : F), WeakLe τ [(3, f32 y12)] ∧ DeadLe Γ [] ∧ z4 = .inl y12) ?_ ?_
 ·refine RunC.block (RunC.loop (RunL.loopM (x := z4) (i_Matrix_rowNorm_s3 a0 a1 a2) (fun (s : F × Int) τ Γ => WeakLe τ [(1, ptr [i64 a0, i64 a1, sl a2.length (a2.map f32)]), (3, f32 s.1), (8, i64 a0), (9, i64 s.2)] ∧ DeadLe Γ []) ?_ _ _ _ hz_4 ⟨⟨aR, aR, aR, aR, trivial⟩, trivial⟩))
  rintro ⟨y1, v2⟩ τ4 Γ4 y4_ ⟨hw4, hd4⟩ h4_ ho4 hr4
  refine RunC.wl (τ' := [(1, ptr [i64 a0, i64 a1, sl a2.length (a2.map f32)]), (3, f32 y1), (8, i64 a0), (9, i64 v2)]) (Γ' := []) hw4 hd4 ?_
  replace h4_ : i_Matrix_rowNorm_b3 a0 a1 a2 y1 v2 = some y4_ := h4_
  unfold i_Matrix_rowNorm_b3 at h4_
  refine RunC.seq ?_
  rcases bsel_some h4_ with ⟨hc1, h4_⟩ | ⟨hc1, h4_⟩
  ·refine RunC.regionW ?_
   refine zL (r := b true) rfl rfl rfl (LOp.eqb (LOp.lss rfl rfl rfl) hc1) ?_
   refine zN ?_
   refine RunC.seq ?_
   refine RunC.cond_true rfl rfl ?_
   refine RunC.skip ?_
   refine RunC.seq ?_
   refine RunC.block ?_
   refine zQ ?_
   refine zM (r := i64 v2) rfl rfl rfl rfl rfl ?_
   refine zA (r := i64 v2) rfl rfl rfl rfl rfl ?_
   refine zN ?_
   refine zQ ?_
   refine zL (r := f32 (some 0)) rfl rfl rfl (LOp.le (LOp.assign rfl rfl) (ALe.fl (by kernel_rfl) (by kernel_rfl))) ?_
   refine zN ?_
   refine RunC.seq ?_
   refine zQ ?_
   refine zL (r := ptr [i64 a1, sl a2.length (a2.map f32)]) rfl rfl rfl (LOp.fap und26 rfl siz2 rfl rfl rfl) ?_
   refine zL (r := i64 a1) rfl rfl rfl (LOp.load1 agg2 rfl rfl) ?_
   refine zM (r := i64 0) rfl rfl rfl rfl rfl ?_
   refine zN ?_
   obtain ⟨z5, hz_5, h4_⟩ := obind_some h4_
   refine RunC.cutN (fun τ Γ => ∃ (y9 : F), WeakLe τ [(1, ptr [i64 a0, i64 a1, sl a2.length (a2.map f32)]), (3, f32 y1), (5, f32 y9), (8, i64 a0), (9, i64 v2)] ∧ DeadLe Γ [] ∧ z5 = .inl y9) ?_ ?_
   ·refine RunC.block (RunC.loop (RunL.loopM (x := z5) (i_Matrix_rowNorm_s2 a0 a1 a2 v2) (fun (s : F × Int) τ Γ => WeakLe τ [(1, ptr [i64 a0, i64 a1, sl a2.length (a2.map f32)]), (3, f32 y1), (4, i64 v2), (5, f32 s.1), (8, i64 a0), (9, i64 v2), (13, i64 a1), (14, i64 s.2)] ∧ DeadLe Γ []) ?_ _ _ _ hz_5 ⟨⟨aR, aR, aR, aR, aR, aR, aR, aR, trivial⟩, trivial⟩))
    rintro ⟨y3, v4⟩ τ5 Γ5 y5_ ⟨hw5, hd5⟩ h5_ ho5 hr5
    refine RunC.wl (τ' := [(1, ptr [i64 a0, i64 a1, sl a2.length (a2.map f32)]), (3, f32 y1), (4, i64 v2), (5, f32 y3), (8, i64 a0), (9, i64 v2), (13, i64 a1), (14, i64 v4)]) (Γ' := []) hw5 hd5 ?_
    replace h5_ : i_Matrix_rowNorm_b2 a0 a1 a2 v2 y3 v4 = some y5_ := h5_
    unfold i_Matrix_rowNorm_b2 at h5_
    refine RunC.seq ?_
    rcases bsel_some h5_ with ⟨hc2, h5_⟩ | ⟨hc2, h5_⟩
    ·refine RunC.regionW ?_
     refine zL (r := b true) rfl rfl rfl (LOp.eqb (LOp.lss rfl rfl rfl) hc2) ?_
     refine zN ?_
     refine RunC.seq ?_
     refine RunC.cond_true rfl rfl ?_
     refine RunC.skip ?_
     refine RunC.seq ?_
     refine RunC.block ?_
     refine zQ ?_
     refine zM (r := i64 v4) rfl rfl rfl rfl rfl ?_
     refine zA (r := i64 v4) rfl rfl rfl rfl rfl ?_
     refine zN ?_
     obtain ⟨r5, hf3, h5_⟩ := obind_some h5_
     obtain ⟨r6, hf4, h5_⟩ := obind_some h5_
     obtain ⟨x7, hx5, h5_⟩ := olet_some h5_
     refine RunC.regionW ?_
     refine zM (r := f32 y3) rfl rfl rfl rfl rfl ?_
     refine zL (r := agg [i64 a0, i64 a1, sl a2.length (a2.map f32)]) rfl rfl rfl (LOp.loadAgg agg26 siz26 rfl rfl rfl rfl) ?_
     refine zM (r := i64 v2) rfl rfl rfl rfl rfl ?_
     refine zM (r := i64 v4) rfl rfl rfl rfl rfl ?_
     refine ROps.d (r := f32 r5) (fs := []) (Γ' := []) rfl rfl rfl (TOp.callB (CallAs.func ent35 rfl rfl) (Bors.cons (Bor.agg (Bors.cons (Bor.pure rfl) (Bors.cons (Bor.pure rfl) (Bors.cons (Bor.sl (fun _ => rfl)) Bors.nil)))) (Bors.cons (Bor.pure rfl) (Bors.cons (Bor.pure rfl) Bors.nil))) rfl rfl (i_Matrix_at_ok a0 a1 a2 v2 v4 r5 hf3)) rfl ?_
     refine ROps.d (r := f32 r6) (fs := []) (Γ' := []) rfl rfl rfl (TOp.callB (CallAs.func ent83 rfl rfl) (Bors.cons (Bor.pure rfl) Bors.nil) rfl rfl (i_absolute_ok r5 r6 hf4)) rfl ?_
     refine ROps.d (r := f32 x7) (fs := []) (Γ' := []) rfl rfl rfl (TOp.eqr (TOp.fop (.inl rfl) rfl (OpF.tmp rfl) (OpF.tmp rfl)) (congrArg (f .f32) hx5)) rfl ?_
     refine zA (r := f32 x7) rfl rfl rfl rfl rfl ?_
     refine zN ?_
     obtain ⟨x8, hx6, h5_⟩ := olet_some h5_
     refine RunC.regionW ?_
     refine zL (r := i64 x8) rfl rfl rfl (LOp.eqr (LOp.add rfl rfl rfl) (congrArg (ik .i64) hx6)) ?_
     refine zM (r := i64 x8) rfl rfl rfl rfl rfl ?_
     refine zN ?_
     cases Option.some.inj h5_
     exact ⟨_, rfl, ⟨aR, aR, aR, aR, aR, aR, aR, aR, trivial⟩, trivial⟩
    ·refine RunC.regionW ?_
     refine zL (r := b false) rfl rfl rfl (LOp.eqb (LOp.lss rfl rfl rfl) hc2) ?_
     refine zN ?_
     refine RunC.seq ?_
     refine RunC.cond_false rfl rfl ?_
     refine RunC.exit ?_
     cases Option.some.inj h5_
     have hx := ho5 _ rfl
     exact ⟨y3, ⟨aR, aR, aR, aR, aR, trivial⟩, trivial, hx⟩
   ·rintro τ6 Γ6 ⟨y9, hw6, hd6, rfl⟩
    refine RunC.wl hw6 hd6 ?_
    replace h4_ : i_Matrix_rowNorm_k2 y1 v2 y9 = some y4_ := h4_
    unfold i_Matrix_rowNorm_k2 at h4_
    obtain ⟨y10, hy7, h4_⟩ := obind_some h4_
    refine RunC.regionW ?_
    refine zM (r := f32 y1) rfl rfl rfl rfl rfl ?_
    refine zM (r := f32 y9) rfl rfl rfl rfl rfl ?_
    refine zL (r := f32 y10) rfl rfl rfl (LOp.max2f rfl (OpF.tmp rfl) (OpF.tmp rfl) hy7) ?_
    refine zA (r := f32 y10) rfl rfl rfl rfl rfl ?_
    refine zN ?_
    obtain ⟨x11, hx8, h4_⟩ := olet_some h4_
    refine RunC.regionW ?_
    refine zL (r := i64 x11) rfl rfl rfl (LOp.eqr (LOp.add rfl rfl rfl) (congrArg (ik .i64) hx8)) ?_
    refine zM (r := i64 x11) rfl rfl rfl rfl rfl ?_
    refine zN ?_
    cases Option.some.inj h4_
    exact ⟨_, rfl, ⟨aR, aR, aR, aR, trivial⟩, trivial⟩
  ·refine RunC.regionW ?_
   refine zL (r := b false) rfl rfl rfl (LOp.eqb (LOp.lss rfl rfl rfl) hc1) ?_
   refine zN ?_
   refine RunC.seq ?_
   refine RunC.cond_false rfl rfl ?_
   refine RunC.exit ?_
   cases Option.some.inj h4_
   have hx := ho4 _ rfl
   exact ⟨y1, ⟨aR, trivial⟩, trivial, hx⟩
 ·rintro τ7 Γ7 ⟨y12, hw7, hd7, rfl⟩
  refine RunC.wl hw7 hd7 ?_
  replace h : i_Matrix_rowNorm_k3 y12 = some q0 := h
  unfold i_Matrix_rowNorm_k3 at h
  refine zQ ?_
  refine zM (r := f32 y12) rfl rfl rfl rfl rfl ?_
  refine zA (r := f32 y12) rfl rfl rfl rfl rfl ?_
  refine zN ?_
  refine RunC.ret ?_
  have hq := Option.some.inj h
  subst q0
  exact bodyQ.pure (.inr rfl) rfl (Res.one rfl (RV.tmp rfl))
noncomputable def i_finite (a0 : F) : Option (F × Bool) :=
 obind (i_IsFinite a0) fun (r1 : Bool) =>
 bsel r1 (
  some (a0, true)) (
  some (some 0, false))
theorem i_finite_ok (a0 : F) (q0 : F) (q1 : Bool) (h : i_finite a0 = some (q0, q1)) : Ev Tryz.prog 47 [f32 a0] [] (tup [f32 q0, b q1]) [] := by
 refine Ev.start Tryz.func47 rfl rfl 0 (τ := [(0, f32 a0)]) rfl (Γ' := []) rfl (n := 17) rfl (g := 0) rfl (fun _ => rfl) ?_
 unfold i_finite at h
 refine zQ ?_
 refine zL (r := f32 (some 0)) rfl rfl rfl (LOp.le (LOp.assign rfl rfl) (ALe.fl (by kernel_rfl) (by kernel_rfl))) ?_
 refine zA (r := b false) rfl rfl rfl rfl rfl ?_
 refine zN ?_
 refine RunC.seq ?_
 refine RunC.seq ?_
 obtain ⟨r1, hf1, h⟩ := obind_some h
 rcases bsel_some h with ⟨hc2, h⟩ | ⟨hc2, h⟩
 ·refine RunC.regionW ?_
  refine zM (r := f32 a0) rfl rfl rfl rfl rfl ?_
  refine ROps.d (r := b true) (fs := []) (Γ' := []) rfl rfl rfl (TOp.eqb (TOp.callB (CallAs.func ent92 rfl rfl) (Bors.cons (Bor.pure rfl) Bors.nil) rfl rfl (i_IsFinite_ok a0 r1 hf1)) hc2) rfl ?_
  refine zL (r := b false) rfl rfl rfl (LOp.eqb (LOp.not rfl rfl) rfl) ?_
  refine zN ?_
  refine RunC.cond_false rfl rfl ?_
  refine RunC.skip ?_
  refine zQ ?_
  refine zM (r := f32 a0) rfl rfl rfl rfl rfl ?_
  refine zA (r := f32 a0) rfl rfl rfl rfl rfl ?_
  refine zA (r := b true) rfl rfl rfl rfl rfl ?_
  refine zN ?_
  refine RunC.ret ?_
  have hq := Option.some.inj h
  obtain ⟨hq0, hq⟩ := Prod.mk.inj hq
  subst q0
  subst q1
  exact bodyQ.pure (.inr rfl) rfl (Res.two rfl (RV.tmp rfl) (RV.tmp rfl))
 ·refine RunC.regionW ?_
  refine zM (r := f32 a0) rfl rfl rfl rfl rfl ?_
  refine ROps.d (r := b false) (fs := []) (Γ' := []) rfl rfl rfl (TOp.eqb (TOp.callB (CallAs.func ent92 rfl rfl) (Bors.cons (Bor.pure rfl) Bors.nil) rfl rfl (i_IsFinite_ok a0 r1 hf1)) hc2) rfl ?_
  refine zL (r := b true) rfl rfl rfl (LOp.eqb (LOp.not rfl rfl) rfl) ?_
  refine zN ?_
  refine RunC.cond_true rfl rfl ?_
  refine zQ ?_
  refine zL (r := f32 (some 0)) rfl rfl rfl (LOp.le (LOp.assign rfl rfl) (ALe.fl (by kernel_rfl) (by kernel_rfl))) ?_
  refine zA (r := b false) rfl rfl rfl rfl rfl ?_
  refine zN ?_
  refine RunC.ret ?_
  have hq := Option.some.inj h
  obtain ⟨hq0, hq⟩ := Prod.mk.inj hq
  subst q0
  subst q1
  exact bodyQ.pure (.inr rfl) rfl (Res.two rfl (RV.tmp rfl) (RV.tmp rfl))
noncomputable def i_ColumnNorm (a0 : Int) (a1 : Int) (a2 : List F) : Option (F × Bool) :=
 obind (i_ValidMatrix a0 a1 a2) fun (r1 : Bool) =>
 bsel r1 (
  obind3 (i_Matrix_flip a0 a1 a2) fun (r2 : Int) (r3 : Int) (r4 : List F) =>
  obind (i_Matrix_rowNorm r2 r3 r4) fun (r5 : F) =>
  obind2 (i_finite r5) fun (r6 : F) (r7 : Bool) =>
  some (r6, r7)) (
  some (some 0, false))
theorem i_ColumnNorm_ok (a0 : Int) (a1 : Int) (a2 : List F) (q0 : F) (q1 : Bool) (h : i_ColumnNorm a0 a1 a2 = some (q0, q1)) : Ev Tryz.prog 46 [agg [i64 a0, i64 a1, sl a2.length (a2.map f32)]] [] (tup [f32 q0, b q1]) [] := by
 refine Ev.start Tryz.func46 rfl rfl 1 (τ := [(0, agg [i64 a0, i64 a1, sl a2.length (a2.map f32)])]) rfl (Γ' := [⟨0, none⟩]) rfl (n := 27) rfl (g := 0) rfl (fun _ => rfl) ?_
 unfold i_ColumnNorm at h
 refine zQ ?_
 refine ROps.d (r := ptr [i64 a0, i64 a1, sl a2.length (a2.map f32)]) (fs := []) (Γ' := [⟨0, none⟩]) rfl rfl rfl (TOp.box_s rfl rfl rfl) rfl ?_
 refine zL (r := f32 (some 0)) rfl rfl rfl (LOp.le (LOp.assign rfl rfl) (ALe.fl (by kernel_rfl) (by kernel_rfl))) ?_
 refine zA (r := b false) rfl rfl rfl rfl rfl ?_
 refine zN ?_
 refine RunC.seq ?_
 refine RunC.seq ?_
 obtain ⟨r1, hf1, h⟩ := obind_some h
 rcases bsel_some h with ⟨hc2, h⟩ | ⟨hc2, h⟩
 ·refine RunC.regionW ?_
  refine zL (r := agg [i64 a0, i64 a1, sl a2.length (a2.map f32)]) rfl rfl rfl (LOp.loadAgg agg26 siz26 rfl rfl rfl rfl) ?_
  refine ROps.d (r := b true) (fs := []) (Γ' := [⟨0, none⟩]) rfl rfl rfl (TOp.eqb (TOp.callB (CallAs.func ent65 rfl rfl) (Bors.cons (Bor.agg (Bors.cons (Bor.pure rfl) (Bors.cons (Bor.pure rfl) (Bors.cons (Bor.sl (fun _ => rfl)) Bors.nil)))) Bors.nil) rfl rfl (i_ValidMatrix_ok a0 a1 a2 r1 hf1)) hc2) rfl ?_
  refine zL (r := b false) rfl rfl rfl (LOp.eqb (LOp.not rfl rfl) rfl) ?_
  refine zN ?_
  refine RunC.cond_false rfl rfl ?_
  refine RunC.skip ?_
  refine RunC.seq ?_
  obtain ⟨r2, r3, r4, hf3, h⟩ := obind3_some h
  obtain ⟨r5, hf4, h⟩ := obind_some h
  obtain ⟨r6, r7, hf5, h⟩ := obind2_some h
  refine RunC.regionW ?_
  refine zL (r := agg [i64 a0, i64 a1, sl a2.length (a2.map f32)]) rfl rfl rfl (LOp.loadAgg agg26 siz26 rfl rfl rfl rfl) ?_
  refine ROps.d (r := agg [i64 r2, i64 r3, oref 0 1 0 r4.length]) (fs := [(0, (r4.map f32))]) (Γ' := [⟨1, some (r4.map f32)⟩]) rfl rfl rfl (TOp.callBN (ls := [(r4.map f32)]) [0] (CallAs.func ent90 rfl rfl) (Bors.cons (Bor.agg (Bors.cons (Bor.pure rfl) (Bors.cons (Bor.pure rfl) (Bors.cons (Bor.sl (fun _ => rfl)) Bors.nil)))) Bors.nil) rfl (i_Matrix_flip_ok a0 a1 a2 r2 r3 r4 hf3) (and_all (lts0_map (f := f32) (fun _ => rfl) _) rfl) (and_all (noss_map (f := f32) (fun _ => rfl) _) rfl) rfl (by decide) (ns_of ⟨⟨_, rfl⟩, trivial⟩)) rfl ?_
  refine ROps.d (r := f32 r5) (fs := []) (Γ' := [⟨1, some (r4.map f32)⟩]) rfl rfl rfl (TOp.callB (CallAs.func ent91 rfl rfl) (Bors.cons (Bor.agg (Bors.cons (Bor.pure rfl) (Bors.cons (Bor.pure rfl) (Bors.cons (Bor.own (f := f32) (fun _ => rfl) rfl rfl) Bors.nil)))) Bors.nil) rfl rfl (i_Matrix_rowNorm_ok r2 r3 r4 r5 hf4)) rfl ?_
  refine ROps.d (r := tup [f32 r6, b r7]) (fs := []) (Γ' := [⟨1, some (r4.map f32)⟩]) rfl rfl rfl (TOp.callB (CallAs.func ent47 rfl rfl) (Bors.cons (Bor.pure rfl) Bors.nil) rfl rfl (i_finite_ok r5 r6 r7 hf5)) rfl ?_
  refine zL (r := f32 r6) rfl rfl rfl (LOp.extract rfl rfl rfl) ?_
  refine zL (r := b r7) rfl rfl rfl (LOp.extract rfl rfl rfl) ?_
  refine zA (r := f32 r6) rfl rfl rfl rfl rfl ?_
  refine zA (r := b r7) rfl rfl rfl rfl rfl ?_
  refine zN ?_
  refine RunC.ret ?_
  have hq := Option.some.inj h
  obtain ⟨hq0, hq⟩ := Prod.mk.inj hq
  subst q0
  subst q1
  exact bodyQ.pure (.inr rfl) rfl (Res.two rfl (RV.tmp rfl) (RV.tmp rfl))
 ·refine RunC.regionW ?_
  refine zL (r := agg [i64 a0, i64 a1, sl a2.length (a2.map f32)]) rfl rfl rfl (LOp.loadAgg agg26 siz26 rfl rfl rfl rfl) ?_
  refine ROps.d (r := b false) (fs := []) (Γ' := [⟨0, none⟩]) rfl rfl rfl (TOp.eqb (TOp.callB (CallAs.func ent65 rfl rfl) (Bors.cons (Bor.agg (Bors.cons (Bor.pure rfl) (Bors.cons (Bor.pure rfl) (Bors.cons (Bor.sl (fun _ => rfl)) Bors.nil)))) Bors.nil) rfl rfl (i_ValidMatrix_ok a0 a1 a2 r1 hf1)) hc2) rfl ?_
  refine zL (r := b true) rfl rfl rfl (LOp.eqb (LOp.not rfl rfl) rfl) ?_
  refine zN ?_
  refine RunC.cond_true rfl rfl ?_
  refine zQ ?_
  refine zL (r := f32 (some 0)) rfl rfl rfl (LOp.le (LOp.assign rfl rfl) (ALe.fl (by kernel_rfl) (by kernel_rfl))) ?_
  refine zA (r := b false) rfl rfl rfl rfl rfl ?_
  refine zN ?_
  refine RunC.ret ?_
  have hq := Option.some.inj h
  obtain ⟨hq0, hq⟩ := Prod.mk.inj hq
  subst q0
  subst q1
  exact bodyQ.pure (.inr rfl) rfl (Res.two rfl (RV.tmp rfl) (RV.tmp rfl))
noncomputable def i_ConditionOf (a0 : Int) (a1 : Int) (a2 : List F) : Option (F × Bool) :=
 obind5 (i_FactorRows a0 a1 a2) fun (r1 : Int) (r2 : Int) (r3 : Bool) (r4 : List F) (r5 : List Int) =>
 bsel r3 (
  obind4 (i_FactorInverse r1 r2 r4 r5) fun (r6 : Int) (r7 : Int) (r8 : Bool) (r9 : List F) =>
  bsel r8 (
   obind2 (i_ColumnNorm a0 a1 a2) fun (r10 : F) (r11 : Bool) =>
   bsel r11 (
    obind2 (i_ColumnNorm r6 r7 r9) fun (r12 : F) (r13 : Bool) =>
    bsel r13 (
     obind (i_mul r10 r12) fun (r14 : F) =>
     obind2 (i_finite r14) fun (r15 : F) (r16 : Bool) =>
     some (r15, r16)) (
     some (some 0, false))) (
    obind2 (i_ColumnNorm r6 r7 r9) fun (r17 : F) (r18 : Bool) =>
    bsel r18 (
     some (some 0, false)) (
     some (some 0, false)))) (
   some (some 0, false))) (
  some (some 0, false))
theorem i_ConditionOf_ok (a0 : Int) (a1 : Int) (a2 : List F) (q0 : F) (q1 : Bool) (h : i_ConditionOf a0 a1 a2 = some (q0, q1)) : Ev Tryz.prog 13 [agg [i64 a0, i64 a1, sl a2.length (a2.map f32)]] [] (tup [f32 q0, b q1]) [] := by
 refine Ev.start Tryz.func13 rfl rfl 5 (τ := [(0, agg [i64 a0, i64 a1, sl a2.length (a2.map f32)])]) rfl (Γ' := [⟨0, none⟩, ⟨0, none⟩, ⟨0, none⟩, ⟨0, none⟩, ⟨0, none⟩]) rfl (n := 95) rfl (g := 0) rfl (fun _ => rfl) ?_
 unfold i_ConditionOf at h
 refine zQ ?_
 refine ROps.d (r := ptr [i64 a0, i64 a1, sl a2.length (a2.map f32)]) (fs := []) (Γ' := [⟨0, none⟩, ⟨0, none⟩, ⟨0, none⟩, ⟨0, none⟩, ⟨0, none⟩]) rfl rfl rfl (TOp.box_s rfl rfl rfl) rfl ?_
 refine zL (r := f32 (some 0)) rfl rfl rfl (LOp.le (LOp.assign rfl rfl) (ALe.fl (by kernel_rfl) (by kernel_rfl))) ?_
 refine zA (r := b false) rfl rfl rfl rfl rfl ?_
 refine zN ?_
 refine RunC.seq ?_
 obtain ⟨r1, r2, r3, r4, r5, hf1, h⟩ := obind5_some h
 rcases bsel_some h with ⟨hc2, h⟩ | ⟨hc2, h⟩
 ·refine RunC.regionW ?_
  refine zL (r := agg [i64 a0, i64 a1, sl a2.length (a2.map f32)]) rfl rfl rfl (LOp.loadAgg agg26 siz26 rfl rfl rfl rfl) ?_
  refine ROps.d (r := tup [agg [i64 r1, i64 r2, oref 0 1 0 r4.length, oref 1 1 0 r5.length], b r3]) (fs := [(0, (r4.map f32)), (1, (r5.map i64))]) (Γ' := [⟨1, some (r4.map f32)⟩, ⟨1, some (r5.map i64)⟩, ⟨0, none⟩, ⟨0, none⟩, ⟨0, none⟩]) rfl rfl rfl (TOp.callBN (ls := [(r4.map f32), (r5.map i64)]) [0, 1] (CallAs.func ent44 rfl rfl) (Bors.cons (Bor.agg (Bors.cons (Bor.pure rfl) (Bors.cons (Bor.pure rfl) (Bors.cons (Bor.sl (fun _ => rfl)) Bors.nil)))) Bors.nil) rfl (i_FactorRows_ok a0 a1 a2 r1 r2 r3 r4 r5 hf1) (and_all (lts0_map (f := f32) (fun _ => rfl) _) (and_all (lts0_map (f := i64) (fun _ => rfl) _) rfl)) (and_all (noss_map (f := f32) (fun _ => rfl) _) (and_all (noss_map (f := i64) (fun _ => rfl) _) rfl)) rfl (by decide) (ns_of ⟨⟨_, rfl⟩, ⟨_, rfl⟩, trivial⟩)) rfl ?_
  refine zM (r := tup [agg [i64 r1, i64 r2, oref 0 1 0 r4.length, oref 1 1 0 r5.length], b r3]) rfl rfl rfl rfl rfl ?_
  refine zL (r := agg [i64 r1, i64 r2, oref 0 1 0 r4.length, oref 1 1 0 r5.length]) rfl rfl rfl (LOp.extract rfl rfl rfl) ?_
  refine zL (r := b true) rfl rfl rfl (LOp.eqb (LOp.extract rfl rfl rfl) hc2) ?_
  refine ROps.d (r := optr 2 1 0) (fs := [(2, [i64 0, i64 0, nilsl, nilsl])]) (Γ' := [⟨1, some (r4.map f32)⟩, ⟨1, some (r5.map i64)⟩, ⟨1, some [i64 0, i64 0, nilsl, nilsl]⟩, ⟨0, none⟩, ⟨0, none⟩]) rfl rfl rfl (TOp.alloc_o (g := ⟨0, none⟩) 2 rfl zer65 zok65 rfl) rfl ?_
  refine ROps.store_le (r := agg [i64 r1, i64 r2, oref 0 1 0 r4.length, oref 1 1 0 r5.length]) (l' := [i64 r1, i64 r2, oref 0 1 0 r4.length, oref 1 1 0 r5.length]) (Γ' := [⟨1, some (r4.map f32)⟩, ⟨1, some (r5.map i64)⟩, ⟨1, some [i64 r1, i64 r2, oref 0 1 0 r4.length, oref 1 1 0 r5.length]⟩, ⟨0, none⟩, ⟨0, none⟩]) rfl siz65 rfl rfl rfl aR rfl rfl rfl rfl (Nat.le_of_ble_eq_true rfl) rfl rfl ?_
  refine zA (r := b true) rfl rfl rfl rfl rfl ?_
  refine zN ?_
  refine RunC.seq ?_
  refine zQ ?_
  refine zM (r := b true) rfl rfl rfl rfl rfl ?_
  refine zL (r := b false) rfl rfl rfl (LOp.eqb (LOp.not rfl rfl) rfl) ?_
  refine zN ?_
  refine RunC.cond_false rfl rfl ?_
  refine RunC.skip ?_
  refine RunC.seq ?_
  obtain ⟨r6, r7, r8, r9, hf3, h⟩ := obind4_some h
  rcases bsel_some h with ⟨hc4, h⟩ | ⟨hc4, h⟩
  ·refine RunC.regionW ?_
   refine ROps.d (r := agg [i64 r1, i64 r2, oref 0 1 0 r4.length, oref 1 1 0 r5.length]) (fs := []) (Γ' := [⟨1, some (r4.map f32)⟩, ⟨1, some (r5.map i64)⟩, ⟨1, some [i64 r1, i64 r2, oref 0 1 0 r4.length, oref 1 1 0 r5.length]⟩, ⟨0, none⟩, ⟨0, none⟩]) rfl rfl rfl (TOp.loadAgg_o rfl agg65 siz65 rfl rfl rfl rfl) rfl ?_
   refine ROps.d (r := tup [agg [i64 r6, i64 r7, oref 3 1 0 r9.length], b r8]) (fs := [(3, (r9.map f32))]) (Γ' := [⟨1, some (r4.map f32)⟩, ⟨1, some (r5.map i64)⟩, ⟨1, some [i64 r1, i64 r2, oref 0 1 0 r4.length, oref 1 1 0 r5.length]⟩, ⟨1, some (r9.map f32)⟩, ⟨0, none⟩]) rfl rfl rfl (TOp.callBN (ls := [(r9.map f32)]) [3] (CallAs.func ent45 rfl rfl) (Bors.cons (Bor.agg (Bors.cons (Bor.pure rfl) (Bors.cons (Bor.pure rfl) (Bors.cons (Bor.own (f := f32) (fun _ => rfl) rfl rfl) (Bors.cons (Bor.own (f := i64) (fun _ => rfl) rfl rfl) Bors.nil))))) Bors.nil) rfl (i_FactorInverse_ok r1 r2 r4 r5 r6 r7 r8 r9 hf3) (and_all (lts0_map (f := f32) (fun _ => rfl) _) rfl) (and_all (noss_map (f := f32) (fun _ => rfl) _) rfl) rfl (by decide) (ns_of ⟨⟨_, rfl⟩, trivial⟩)) rfl ?_
   refine zM (r := tup [agg [i64 r6, i64 r7, oref 3 1 0 r9.length], b r8]) rfl rfl rfl rfl rfl ?_
   refine zL (r := agg [i64 r6, i64 r7, oref 3 1 0 r9.length]) rfl rfl rfl (LOp.extract rfl rfl rfl) ?_
   refine zL (r := b true) rfl rfl rfl (LOp.eqb (LOp.extract rfl rfl rfl) hc4) ?_
   refine ROps.d (r := optr 4 1 0) (fs := [(4, [i64 0, i64 0, nilsl])]) (Γ' := [⟨1, some (r4.map f32)⟩, ⟨1, some (r5.map i64)⟩, ⟨1, some [i64 r1, i64 r2, oref 0 1 0 r4.length, oref 1 1 0 r5.length]⟩, ⟨1, some (r9.map f32)⟩, ⟨1, some [i64 0, i64 0, nilsl]⟩]) rfl rfl rfl (TOp.alloc_o (g := ⟨0, none⟩) 4 rfl zer26 zok26 rfl) rfl ?_
   refine ROps.store_le (r := agg [i64 r6, i64 r7, oref 3 1 0 r9.length]) (l' := [i64 r6, i64 r7, oref 3 1 0 r9.length]) (Γ' := [⟨1, some (r4.map f32)⟩, ⟨1, some (r5.map i64)⟩, ⟨1, some [i64 r1, i64 r2, oref 0 1 0 r4.length, oref 1 1 0 r5.length]⟩, ⟨1, some (r9.map f32)⟩, ⟨1, some [i64 r6, i64 r7, oref 3 1 0 r9.length]⟩]) rfl siz26 rfl rfl rfl aR rfl rfl rfl rfl (Nat.le_of_ble_eq_true rfl) rfl rfl ?_
   refine zA (r := b true) rfl rfl rfl rfl rfl ?_
   refine zN ?_
   refine RunC.wl (τ' := [(1, ptr [i64 a0, i64 a1, sl a2.length (a2.map f32)]), (5, b true), (6, optr 4 1 0)]) (Γ' := [⟨1, none⟩, ⟨1, none⟩, ⟨1, none⟩, ⟨1, some (r9.map f32)⟩, ⟨1, some [i64 r6, i64 r7, oref 3 1 0 r9.length]⟩]) ⟨aR, aR, aR, trivial⟩ ⟨⟨rfl, .inl rfl⟩, ⟨rfl, .inl rfl⟩, ⟨rfl, .inl rfl⟩, ⟨rfl, .inr rfl⟩, ⟨rfl, .inr rfl⟩, trivial⟩ ?_
   refine RunC.seq ?_
   refine zQ ?_
   refine zM (r := b true) rfl rfl rfl rfl rfl ?_
   refine zL (r := b false) rfl rfl rfl (LOp.eqb (LOp.not rfl rfl) rfl) ?_
   refine zN ?_
   refine RunC.cond_false rfl rfl ?_
   refine RunC.skip ?_
   refine RunC.seq ?_
   obtain ⟨r10, r11, hf5, h⟩ := obind2_some h
   rcases bsel_some h with ⟨hc6, h⟩ | ⟨hc6, h⟩
   ·refine RunC.regionW ?_
    refine zL (r := agg [i64 a0, i64 a1, sl a2.length (a2.map f32)]) rfl rfl rfl (LOp.loadAgg agg26 siz26 rfl rfl rfl rfl) ?_
    refine ROps.d (r := tup [f32 r10, b r11]) (fs := []) (Γ' := [⟨1, none⟩, ⟨1, none⟩, ⟨1, none⟩, ⟨1, some (r9.map f32)⟩, ⟨1, some [i64 r6, i64 r7, oref 3 1 0 r9.length]⟩]) rfl rfl rfl (TOp.callB (CallAs.func ent46 rfl rfl) (Bors.cons (Bor.agg (Bors.cons (Bor.pure rfl) (Bors.cons (Bor.pure rfl) (Bors.cons (Bor.sl (fun _ => rfl)) Bors.nil)))) Bors.nil) rfl rfl (i_ColumnNorm_ok a0 a1 a2 r10 r11 hf5)) rfl ?_
    refine zM (r := tup [f32 r10, b r11]) rfl rfl rfl rfl rfl ?_
    refine zL (r := f32 r10) rfl rfl rfl (LOp.extract rfl rfl rfl) ?_
    refine zL (r := b true) rfl rfl rfl (LOp.eqb (LOp.extract rfl rfl rfl) hc6) ?_
    refine zA (r := f32 r10) rfl rfl rfl rfl rfl ?_
    refine zA (r := b true) rfl rfl rfl rfl rfl ?_
    refine zN ?_
    refine RunC.seq ?_
    obtain ⟨r12, r13, hf7, h⟩ := obind2_some h
    rcases bsel_some h with ⟨hc8, h⟩ | ⟨hc8, h⟩
    ·refine RunC.regionW ?_
     refine ROps.d (r := agg [i64 r6, i64 r7, oref 3 1 0 r9.length]) (fs := []) (Γ' := [⟨1, none⟩, ⟨1, none⟩, ⟨1, none⟩, ⟨1, some (r9.map f32)⟩, ⟨1, some [i64 r6, i64 r7, oref 3 1 0 r9.length]⟩]) rfl rfl rfl (TOp.loadAgg_o rfl agg26 siz26 rfl rfl rfl rfl) rfl ?_
     refine ROps.d (r := tup [f32 r12, b r13]) (fs := []) (Γ' := [⟨1, none⟩, ⟨1, none⟩, ⟨1, none⟩, ⟨1, some (r9.map f32)⟩, ⟨1, some [i64 r6, i64 r7, oref 3 1 0 r9.length]⟩]) rfl rfl rfl (TOp.callB (CallAs.func ent46 rfl rfl) (Bors.cons (Bor.agg (Bors.cons (Bor.pure rfl) (Bors.cons (Bor.pure rfl) (Bors.cons (Bor.own (f := f32) (fun _ => rfl) rfl rfl) Bors.nil)))) Bors.nil) rfl rfl (i_ColumnNorm_ok r6 r7 r9 r12 r13 hf7)) rfl ?_
     refine zM (r := tup [f32 r12, b r13]) rfl rfl rfl rfl rfl ?_
     refine zL (r := f32 r12) rfl rfl rfl (LOp.extract rfl rfl rfl) ?_
     refine zL (r := b true) rfl rfl rfl (LOp.eqb (LOp.extract rfl rfl rfl) hc8) ?_
     refine zA (r := f32 r12) rfl rfl rfl rfl rfl ?_
     refine zA (r := b true) rfl rfl rfl rfl rfl ?_
     refine zN ?_
     refine RunC.wl (τ' := [(7, f32 r10), (8, b true), (9, f32 r12), (10, b true)]) (Γ' := [⟨1, none⟩, ⟨1, none⟩, ⟨1, none⟩, ⟨1, none⟩, ⟨1, none⟩]) ⟨aR, aR, aR, aR, trivial⟩ ⟨⟨rfl, .inl rfl⟩, ⟨rfl, .inl rfl⟩, ⟨rfl, .inl rfl⟩, ⟨rfl, .inl rfl⟩, ⟨rfl, .inl rfl⟩, trivial⟩ ?_
     refine RunC.seq ?_
     refine zQ ?_
     refine zM (r := b true) rfl rfl rfl rfl rfl ?_
     refine zL (r := b false) rfl rfl rfl (LOp.eqb (LOp.not rfl rfl) rfl) ?_
     refine zM (r := b false) rfl rfl rfl rfl rfl ?_
     refine zM (r := b true) rfl rfl rfl rfl rfl ?_
     refine zL (r := b false) rfl rfl rfl (LOp.eqb (LOp.not rfl rfl) rfl) ?_
     refine zL (r := b false) rfl rfl rfl (LOp.pick_false rfl rfl rfl) ?_
     refine zN ?_
     refine RunC.cond_false rfl rfl ?_
     refine RunC.skip ?_
     refine RunC.seq ?_
     obtain ⟨r14, hf9, h⟩ := obind_some h
     obtain ⟨r15, r16, hf10, h⟩ := obind2_some h
     refine RunC.regionW ?_
     refine zM (r := f32 r10) rfl rfl rfl rfl rfl ?_
     refine zM (r := f32 r12) rfl rfl rfl rfl rfl ?_
     refine ROps.d (r := f32 r14) (fs := []) (Γ' := [⟨1, none⟩, ⟨1, none⟩, ⟨1, none⟩, ⟨1, none⟩, ⟨1, none⟩]) rfl rfl rfl (TOp.callB (CallAs.func ent34 rfl rfl) (Bors.cons (Bor.pure rfl) (Bors.cons (Bor.pure rfl) Bors.nil)) rfl rfl (i_mul_ok r10 r12 r14 hf9)) rfl ?_
     refine ROps.d (r := tup [f32 r15, b r16]) (fs := []) (Γ' := [⟨1, none⟩, ⟨1, none⟩, ⟨1, none⟩, ⟨1, none⟩, ⟨1, none⟩]) rfl rfl rfl (TOp.callB (CallAs.func ent47 rfl rfl) (Bors.cons (Bor.pure rfl) Bors.nil) rfl rfl (i_finite_ok r14 r15 r16 hf10)) rfl ?_
     refine zL (r := f32 r15) rfl rfl rfl (LOp.extract rfl rfl rfl) ?_
     refine zL (r := b r16) rfl rfl rfl (LOp.extract rfl rfl rfl) ?_
     refine zA (r := f32 r15) rfl rfl rfl rfl rfl ?_
     refine zA (r := b r16) rfl rfl rfl rfl rfl ?_
     refine zN ?_
     refine RunC.ret ?_
     have hq := Option.some.inj h
     obtain ⟨hq0, hq⟩ := Prod.mk.inj hq
     subst q0
     subst q1
     exact bodyQ.pure (.inr rfl) rfl (Res.two rfl (RV.tmp rfl) (RV.tmp rfl))
    ·refine RunC.regionW ?_
     refine ROps.d (r := agg [i64 r6, i64 r7, oref 3 1 0 r9.length]) (fs := []) (Γ' := [⟨1, none⟩, ⟨1, none⟩, ⟨1, none⟩, ⟨1, some (r9.map f32)⟩, ⟨1, some [i64 r6, i64 r7, oref 3 1 0 r9.length]⟩]) rfl rfl rfl (TOp.loadAgg_o rfl agg26 siz26 rfl rfl rfl rfl) rfl ?_
     refine ROps.d (r := tup [f32 r12, b r13]) (fs := []) (Γ' := [⟨1, none⟩, ⟨1, none⟩, ⟨1, none⟩, ⟨1, some (r9.map f32)⟩, ⟨1, some [i64 r6, i64 r7, oref 3 1 0 r9.length]⟩]) rfl rfl rfl (TOp.callB (CallAs.func ent46 rfl rfl) (Bors.cons (Bor.agg (Bors.cons (Bor.pure rfl) (Bors.cons (Bor.pure rfl) (Bors.cons (Bor.own (f := f32) (fun _ => rfl) rfl rfl) Bors.nil)))) Bors.nil) rfl rfl (i_ColumnNorm_ok r6 r7 r9 r12 r13 hf7)) rfl ?_
     refine zM (r := tup [f32 r12, b r13]) rfl rfl rfl rfl rfl ?_
     refine zL (r := f32 r12) rfl rfl rfl (LOp.extract rfl rfl rfl) ?_
     refine zL (r := b false) rfl rfl rfl (LOp.eqb (LOp.extract rfl rfl rfl) hc8) ?_
     refine zA (r := f32 r12) rfl rfl rfl rfl rfl ?_
     refine zA (r := b false) rfl rfl rfl rfl rfl ?_
     refine zN ?_
     refine RunC.wl (τ' := [(7, f32 r10), (8, b true), (9, f32 r12), (10, b false)]) (Γ' := [⟨1, none⟩, ⟨1, none⟩, ⟨1, none⟩, ⟨1, none⟩, ⟨1, none⟩]) ⟨aR, aR, aR, aR, trivial⟩ ⟨⟨rfl, .inl rfl⟩, ⟨rfl, .inl rfl⟩, ⟨rfl, .inl rfl⟩, ⟨rfl, .inl rfl⟩, ⟨rfl, .inl rfl⟩, trivial⟩ ?_
     refine RunC.seq ?_
     refine zQ ?_
     refine zM (r := b true) rfl rfl rfl rfl rfl ?_
     refine zL (r := b false) rfl rfl rfl (LOp.eqb (LOp.not rfl rfl) rfl) ?_
     refine zM (r := b false) rfl rfl rfl rfl rfl ?_
     refine zM (r := b false) rfl rfl rfl rfl rfl ?_
     refine zL (r := b true) rfl rfl rfl (LOp.eqb (LOp.not rfl rfl) rfl) ?_
     refine zL (r := b true) rfl rfl rfl (LOp.pick_false rfl rfl rfl) ?_
     refine zN ?_
     refine RunC.cond_true rfl rfl ?_
     refine zQ ?_
     refine zL (r := f32 (some 0)) rfl rfl rfl (LOp.le (LOp.assign rfl rfl) (ALe.fl (by kernel_rfl) (by kernel_rfl))) ?_
     refine zA (r := b false) rfl rfl rfl rfl rfl ?_
     refine zN ?_
     refine RunC.ret ?_
     have hq := Option.some.inj h
     obtain ⟨hq0, hq⟩ := Prod.mk.inj hq
     subst q0
     subst q1
     exact bodyQ.pure (.inr rfl) rfl (Res.two rfl (RV.tmp rfl) (RV.tmp rfl))
   ·refine RunC.regionW ?_
    refine zL (r := agg [i64 a0, i64 a1, sl a2.length (a2.map f32)]) rfl rfl rfl (LOp.loadAgg agg26 siz26 rfl rfl rfl rfl) ?_
    refine ROps.d (r := tup [f32 r10, b r11]) (fs := []) (Γ' := [⟨1, none⟩, ⟨1, none⟩, ⟨1, none⟩, ⟨1, some (r9.map f32)⟩, ⟨1, some [i64 r6, i64 r7, oref 3 1 0 r9.length]⟩]) rfl rfl rfl (TOp.callB (CallAs.func ent46 rfl rfl) (Bors.cons (Bor.agg (Bors.cons (Bor.pure rfl) (Bors.cons (Bor.pure rfl) (Bors.cons (Bor.sl (fun _ => rfl)) Bors.nil)))) Bors.nil) rfl rfl (i_ColumnNorm_ok a0 a1 a2 r10 r11 hf5)) rfl ?_
    refine zM (r := tup [f32 r10, b r11]) rfl rfl rfl rfl rfl ?_
    refine zL (r := f32 r10) rfl rfl rfl (LOp.extract rfl rfl rfl) ?_
    refine zL (r := b false) rfl rfl rfl (LOp.eqb (LOp.extract rfl rfl rfl) hc6) ?_
    refine zA (r := f32 r10) rfl rfl rfl rfl rfl ?_
    refine zA (r := b false) rfl rfl rfl rfl rfl ?_
    refine zN ?_
    refine RunC.seq ?_
    obtain ⟨r17, r18, hf11, h⟩ := obind2_some h
    rcases bsel_some h with ⟨hc12, h⟩ | ⟨hc12, h⟩
    ·refine RunC.regionW ?_
     refine ROps.d (r := agg [i64 r6, i64 r7, oref 3 1 0 r9.length]) (fs := []) (Γ' := [⟨1, none⟩, ⟨1, none⟩, ⟨1, none⟩, ⟨1, some (r9.map f32)⟩, ⟨1, some [i64 r6, i64 r7, oref 3 1 0 r9.length]⟩]) rfl rfl rfl (TOp.loadAgg_o rfl agg26 siz26 rfl rfl rfl rfl) rfl ?_
     refine ROps.d (r := tup [f32 r17, b r18]) (fs := []) (Γ' := [⟨1, none⟩, ⟨1, none⟩, ⟨1, none⟩, ⟨1, some (r9.map f32)⟩, ⟨1, some [i64 r6, i64 r7, oref 3 1 0 r9.length]⟩]) rfl rfl rfl (TOp.callB (CallAs.func ent46 rfl rfl) (Bors.cons (Bor.agg (Bors.cons (Bor.pure rfl) (Bors.cons (Bor.pure rfl) (Bors.cons (Bor.own (f := f32) (fun _ => rfl) rfl rfl) Bors.nil)))) Bors.nil) rfl rfl (i_ColumnNorm_ok r6 r7 r9 r17 r18 hf11)) rfl ?_
     refine zM (r := tup [f32 r17, b r18]) rfl rfl rfl rfl rfl ?_
     refine zL (r := f32 r17) rfl rfl rfl (LOp.extract rfl rfl rfl) ?_
     refine zL (r := b true) rfl rfl rfl (LOp.eqb (LOp.extract rfl rfl rfl) hc12) ?_
     refine zA (r := f32 r17) rfl rfl rfl rfl rfl ?_
     refine zA (r := b true) rfl rfl rfl rfl rfl ?_
     refine zN ?_
     refine RunC.wl (τ' := [(7, f32 r10), (8, b false), (9, f32 r17), (10, b true)]) (Γ' := [⟨1, none⟩, ⟨1, none⟩, ⟨1, none⟩, ⟨1, none⟩, ⟨1, none⟩]) ⟨aR, aR, aR, aR, trivial⟩ ⟨⟨rfl, .inl rfl⟩, ⟨rfl, .inl rfl⟩, ⟨rfl, .inl rfl⟩, ⟨rfl, .inl rfl⟩, ⟨rfl, .inl rfl⟩, trivial⟩ ?_
     refine RunC.seq ?_
     refine zQ ?_
     refine zM (r := b false) rfl rfl rfl rfl rfl ?_
     refine zL (r := b true) rfl rfl rfl (LOp.eqb (LOp.not rfl rfl) rfl) ?_
     refine zM (r := b true) rfl rfl rfl rfl rfl ?_
     refine ROps.s rfl rfl rfl ?_
     refine ROps.s rfl rfl rfl ?_
     refine zL (r := b true) rfl rfl rfl (LOp.pick_true rfl rfl rfl) ?_
     refine zN ?_
     refine RunC.cond_true rfl rfl ?_
     refine zQ ?_
     refine zL (r := f32 (some 0)) rfl rfl rfl (LOp.le (LOp.assign rfl rfl) (ALe.fl (by kernel_rfl) (by kernel_rfl))) ?_
     refine zA (r := b false) rfl rfl rfl rfl rfl ?_
     refine zN ?_
     refine RunC.ret ?_
     have hq := Option.some.inj h
     obtain ⟨hq0, hq⟩ := Prod.mk.inj hq
     subst q0
     subst q1
     exact bodyQ.pure (.inr rfl) rfl (Res.two rfl (RV.tmp rfl) (RV.tmp rfl))
    ·refine RunC.regionW ?_
     refine ROps.d (r := agg [i64 r6, i64 r7, oref 3 1 0 r9.length]) (fs := []) (Γ' := [⟨1, none⟩, ⟨1, none⟩, ⟨1, none⟩, ⟨1, some (r9.map f32)⟩, ⟨1, some [i64 r6, i64 r7, oref 3 1 0 r9.length]⟩]) rfl rfl rfl (TOp.loadAgg_o rfl agg26 siz26 rfl rfl rfl rfl) rfl ?_
     refine ROps.d (r := tup [f32 r17, b r18]) (fs := []) (Γ' := [⟨1, none⟩, ⟨1, none⟩, ⟨1, none⟩, ⟨1, some (r9.map f32)⟩, ⟨1, some [i64 r6, i64 r7, oref 3 1 0 r9.length]⟩]) rfl rfl rfl (TOp.callB (CallAs.func ent46 rfl rfl) (Bors.cons (Bor.agg (Bors.cons (Bor.pure rfl) (Bors.cons (Bor.pure rfl) (Bors.cons (Bor.own (f := f32) (fun _ => rfl) rfl rfl) Bors.nil)))) Bors.nil) rfl rfl (i_ColumnNorm_ok r6 r7 r9 r17 r18 hf11)) rfl ?_
     refine zM (r := tup [f32 r17, b r18]) rfl rfl rfl rfl rfl ?_
     refine zL (r := f32 r17) rfl rfl rfl (LOp.extract rfl rfl rfl) ?_
     refine zL (r := b false) rfl rfl rfl (LOp.eqb (LOp.extract rfl rfl rfl) hc12) ?_
     refine zA (r := f32 r17) rfl rfl rfl rfl rfl ?_
     refine zA (r := b false) rfl rfl rfl rfl rfl ?_
     refine zN ?_
     refine RunC.wl (τ' := [(7, f32 r10), (8, b false), (9, f32 r17), (10, b false)]) (Γ' := [⟨1, none⟩, ⟨1, none⟩, ⟨1, none⟩, ⟨1, none⟩, ⟨1, none⟩]) ⟨aR, aR, aR, aR, trivial⟩ ⟨⟨rfl, .inl rfl⟩, ⟨rfl, .inl rfl⟩, ⟨rfl, .inl rfl⟩, ⟨rfl, .inl rfl⟩, ⟨rfl, .inl rfl⟩, trivial⟩ ?_
     refine RunC.seq ?_
     refine zQ ?_
     refine zM (r := b false) rfl rfl rfl rfl rfl ?_
     refine zL (r := b true) rfl rfl rfl (LOp.eqb (LOp.not rfl rfl) rfl) ?_
     refine zM (r := b true) rfl rfl rfl rfl rfl ?_
     refine ROps.s rfl rfl rfl ?_
     refine ROps.s rfl rfl rfl ?_
     refine zL (r := b true) rfl rfl rfl (LOp.pick_true rfl rfl rfl) ?_
     refine zN ?_
     refine RunC.cond_true rfl rfl ?_
     refine zQ ?_
     refine zL (r := f32 (some 0)) rfl rfl rfl (LOp.le (LOp.assign rfl rfl) (ALe.fl (by kernel_rfl) (by kernel_rfl))) ?_
     refine zA (r := b false) rfl rfl rfl rfl rfl ?_
     refine zN ?_
     refine RunC.ret ?_
     have hq := Option.some.inj h
     obtain ⟨hq0, hq⟩ := Prod.mk.inj hq
     subst q0
     subst q1
     exact bodyQ.pure (.inr rfl) rfl (Res.two rfl (RV.tmp rfl) (RV.tmp rfl))
  ·refine RunC.regionW ?_
   refine ROps.d (r := agg [i64 r1, i64 r2, oref 0 1 0 r4.length, oref 1 1 0 r5.length]) (fs := []) (Γ' := [⟨1, some (r4.map f32)⟩, ⟨1, some (r5.map i64)⟩, ⟨1, some [i64 r1, i64 r2, oref 0 1 0 r4.length, oref 1 1 0 r5.length]⟩, ⟨0, none⟩, ⟨0, none⟩]) rfl rfl rfl (TOp.loadAgg_o rfl agg65 siz65 rfl rfl rfl rfl) rfl ?_
   refine ROps.d (r := tup [agg [i64 r6, i64 r7, oref 3 1 0 r9.length], b r8]) (fs := [(3, (r9.map f32))]) (Γ' := [⟨1, some (r4.map f32)⟩, ⟨1, some (r5.map i64)⟩, ⟨1, some [i64 r1, i64 r2, oref 0 1 0 r4.length, oref 1 1 0 r5.length]⟩, ⟨1, some (r9.map f32)⟩, ⟨0, none⟩]) rfl rfl rfl (TOp.callBN (ls := [(r9.map f32)]) [3] (CallAs.func ent45 rfl rfl) (Bors.cons (Bor.agg (Bors.cons (Bor.pure rfl) (Bors.cons (Bor.pure rfl) (Bors.cons (Bor.own (f := f32) (fun _ => rfl) rfl rfl) (Bors.cons (Bor.own (f := i64) (fun _ => rfl) rfl rfl) Bors.nil))))) Bors.nil) rfl (i_FactorInverse_ok r1 r2 r4 r5 r6 r7 r8 r9 hf3) (and_all (lts0_map (f := f32) (fun _ => rfl) _) rfl) (and_all (noss_map (f := f32) (fun _ => rfl) _) rfl) rfl (by decide) (ns_of ⟨⟨_, rfl⟩, trivial⟩)) rfl ?_
   refine zM (r := tup [agg [i64 r6, i64 r7, oref 3 1 0 r9.length], b r8]) rfl rfl rfl rfl rfl ?_
   refine zL (r := agg [i64 r6, i64 r7, oref 3 1 0 r9.length]) rfl rfl rfl (LOp.extract rfl rfl rfl) ?_
   refine zL (r := b false) rfl rfl rfl (LOp.eqb (LOp.extract rfl rfl rfl) hc4) ?_
   refine ROps.d (r := optr 4 1 0) (fs := [(4, [i64 0, i64 0, nilsl])]) (Γ' := [⟨1, some (r4.map f32)⟩, ⟨1, some (r5.map i64)⟩, ⟨1, some [i64 r1, i64 r2, oref 0 1 0 r4.length, oref 1 1 0 r5.length]⟩, ⟨1, some (r9.map f32)⟩, ⟨1, some [i64 0, i64 0, nilsl]⟩]) rfl rfl rfl (TOp.alloc_o (g := ⟨0, none⟩) 4 rfl zer26 zok26 rfl) rfl ?_
   refine ROps.store_le (r := agg [i64 r6, i64 r7, oref 3 1 0 r9.length]) (l' := [i64 r6, i64 r7, oref 3 1 0 r9.length]) (Γ' := [⟨1, some (r4.map f32)⟩, ⟨1, some (r5.map i64)⟩, ⟨1, some [i64 r1, i64 r2, oref 0 1 0 r4.length, oref 1 1 0 r5.length]⟩, ⟨1, some (r9.map f32)⟩, ⟨1, some [i64 r6, i64 r7, oref 3 1 0 r9.length]⟩]) rfl siz26 rfl rfl rfl aR rfl rfl rfl rfl (Nat.le_of_ble_eq_true rfl) rfl rfl ?_
   refine zA (r := b false) rfl rfl rfl rfl rfl ?_
   refine zN ?_
   refine RunC.wl (τ' := [(1, ptr [i64 a0, i64 a1, sl a2.length (a2.map f32)]), (5, b false), (6, optr 4 1 0)]) (Γ' := [⟨1, none⟩, ⟨1, none⟩, ⟨1, none⟩, ⟨1, some (r9.map f32)⟩, ⟨1, some [i64 r6, i64 r7, oref 3 1 0 r9.length]⟩]) ⟨aR, aR, aR, trivial⟩ ⟨⟨rfl, .inl rfl⟩, ⟨rfl, .inl rfl⟩, ⟨rfl, .inl rfl⟩, ⟨rfl, .inr rfl⟩, ⟨rfl, .inr rfl⟩, trivial⟩ ?_
   refine RunC.seq ?_
   refine zQ ?_
   refine zM (r := b false) rfl rfl rfl rfl rfl ?_
   refine zL (r := b true) rfl rfl rfl (LOp.eqb (LOp.not rfl rfl) rfl) ?_
   refine zN ?_
   refine RunC.cond_true rfl rfl ?_
   refine zQ ?_
   refine zL (r := f32 (some 0)) rfl rfl rfl (LOp.le (LOp.assign rfl rfl) (ALe.fl (by kernel_rfl) (by kernel_rfl))) ?_
   refine zA (r := b false) rfl rfl rfl rfl rfl ?_
   refine zN ?_
   refine RunC.ret ?_
   have hq := Option.some.inj h
   obtain ⟨hq0, hq⟩ := Prod.mk.inj hq
   subst q0
   subst q1
   exact bodyQ.pure (.inr rfl) rfl (Res.two rfl (RV.tmp rfl) (RV.tmp rfl))
 ·refine RunC.regionW ?_
  refine zL (r := agg [i64 a0, i64 a1, sl a2.length (a2.map f32)]) rfl rfl rfl (LOp.loadAgg agg26 siz26 rfl rfl rfl rfl) ?_
  refine ROps.d (r := tup [agg [i64 r1, i64 r2, oref 0 1 0 r4.length, oref 1 1 0 r5.length], b r3]) (fs := [(0, (r4.map f32)), (1, (r5.map i64))]) (Γ' := [⟨1, some (r4.map f32)⟩, ⟨1, some (r5.map i64)⟩, ⟨0, none⟩, ⟨0, none⟩, ⟨0, none⟩]) rfl rfl rfl (TOp.callBN (ls := [(r4.map f32), (r5.map i64)]) [0, 1] (CallAs.func ent44 rfl rfl) (Bors.cons (Bor.agg (Bors.cons (Bor.pure rfl) (Bors.cons (Bor.pure rfl) (Bors.cons (Bor.sl (fun _ => rfl)) Bors.nil)))) Bors.nil) rfl (i_FactorRows_ok a0 a1 a2 r1 r2 r3 r4 r5 hf1) (and_all (lts0_map (f := f32) (fun _ => rfl) _) (and_all (lts0_map (f := i64) (fun _ => rfl) _) rfl)) (and_all (noss_map (f := f32) (fun _ => rfl) _) (and_all (noss_map (f := i64) (fun _ => rfl) _) rfl)) rfl (by decide) (ns_of ⟨⟨_, rfl⟩, ⟨_, rfl⟩, trivial⟩)) rfl ?_
  refine zM (r := tup [agg [i64 r1, i64 r2, oref 0 1 0 r4.length, oref 1 1 0 r5.length], b r3]) rfl rfl rfl rfl rfl ?_
  refine zL (r := agg [i64 r1, i64 r2, oref 0 1 0 r4.length, oref 1 1 0 r5.length]) rfl rfl rfl (LOp.extract rfl rfl rfl) ?_
  refine zL (r := b false) rfl rfl rfl (LOp.eqb (LOp.extract rfl rfl rfl) hc2) ?_
  refine ROps.d (r := optr 2 1 0) (fs := [(2, [i64 0, i64 0, nilsl, nilsl])]) (Γ' := [⟨1, some (r4.map f32)⟩, ⟨1, some (r5.map i64)⟩, ⟨1, some [i64 0, i64 0, nilsl, nilsl]⟩, ⟨0, none⟩, ⟨0, none⟩]) rfl rfl rfl (TOp.alloc_o (g := ⟨0, none⟩) 2 rfl zer65 zok65 rfl) rfl ?_
  refine ROps.store_le (r := agg [i64 r1, i64 r2, oref 0 1 0 r4.length, oref 1 1 0 r5.length]) (l' := [i64 r1, i64 r2, oref 0 1 0 r4.length, oref 1 1 0 r5.length]) (Γ' := [⟨1, some (r4.map f32)⟩, ⟨1, some (r5.map i64)⟩, ⟨1, some [i64 r1, i64 r2, oref 0 1 0 r4.length, oref 1 1 0 r5.length]⟩, ⟨0, none⟩, ⟨0, none⟩]) rfl siz65 rfl rfl rfl aR rfl rfl rfl rfl (Nat.le_of_ble_eq_true rfl) rfl rfl ?_
  refine zA (r := b false) rfl rfl rfl rfl rfl ?_
  refine zN ?_
  refine RunC.seq ?_
  refine zQ ?_
  refine zM (r := b false) rfl rfl rfl rfl rfl ?_
  refine zL (r := b true) rfl rfl rfl (LOp.eqb (LOp.not rfl rfl) rfl) ?_
  refine zN ?_
  refine RunC.cond_true rfl rfl ?_
  refine zQ ?_
  refine zL (r := f32 (some 0)) rfl rfl rfl (LOp.le (LOp.assign rfl rfl) (ALe.fl (by kernel_rfl) (by kernel_rfl))) ?_
  refine zA (r := b false) rfl rfl rfl rfl rfl ?_
  refine zN ?_
  refine RunC.ret ?_
  have hq := Option.some.inj h
  obtain ⟨hq0, hq⟩ := Prod.mk.inj hq
  subst q0
  subst q1
  exact bodyQ.pure (.inr rfl) rfl (Res.two rfl (RV.tmp rfl) (RV.tmp rfl))
noncomputable def w_sameFloat_k1 (a0 : F) (a1 : F) : Option (Bool) :=
 some (feq .f64 a0 a1)
noncomputable def w_sameFloat (a0 : F) (a1 : F) : Option (Bool) :=
 bsel (!feq .f64 a0 a0) (
  some (!feq .f64 a1 a1)) (
  bsel (!feq .f64 a1 a1) (
   some false) (
   bsel (feq .f64 a0 (some 0)) (
    bsel (feq .f64 a1 (some 0)) (
     olet (fop .quo .f64 (some 4607182418800017408) a0) fun (x1 : F) =>
     olet (fop .quo .f64 (some 4607182418800017408) a1) fun (x2 : F) =>
     some ((flt .f64 (some 0) x1) == (flt .f64 (some 0) x2))) (
     w_sameFloat_k1 a0 a1)) (
    w_sameFloat_k1 a0 a1)))
theorem w_sameFloat_ok (a0 : F) (a1 : F) (q0 : Bool) (h : w_sameFloat a0 a1 = some q0) : Ev Tryz.prog 14 [f64 a0, f64 a1] [] (b q0) [] := by
 refine Ev.start Tryz.func14 rfl rfl 0 (τ := [(0, f64 a0), (1, f64 a1)]) rfl (Γ' := []) rfl (n := 75) rfl (g := 0) rfl (fun _ => rfl) ?_
 unfold w_sameFloat at h
 refine zQ ?_
 refine zA (r := b false) rfl rfl rfl rfl rfl ?_
 refine zN ?_
 refine RunC.seq ?_
 refine RunC.seq ?_
 rcases bsel_some h with ⟨hc1, h⟩ | ⟨hc1, h⟩
 ·refine RunC.regionW ?_
  refine zM (r := f64 a0) rfl rfl rfl rfl rfl ?_
  refine zM (r := f64 a0) rfl rfl rfl rfl rfl ?_
  refine zL (r := b true) rfl rfl rfl (LOp.eqb (LOp.fne rfl (OpF.tmp rfl) (OpF.tmp rfl)) hc1) ?_
  refine zM (r := b true) rfl rfl rfl rfl rfl ?_
  refine ROps.s rfl rfl rfl ?_
  refine ROps.s rfl rfl rfl ?_
  refine ROps.s rfl rfl rfl ?_
  refine zL (r := b true) rfl rfl rfl (LOp.pick_true rfl rfl rfl) ?_
  refine zN ?_
  refine RunC.cond_true rfl rfl ?_
  refine zQ ?_
  refine zM (r := f64 a0) rfl rfl rfl rfl rfl ?_
  refine zM (r := f64 a0) rfl rfl rfl rfl rfl ?_
  refine zL (r := b true) rfl rfl rfl (LOp.eqb (LOp.fne rfl (OpF.tmp rfl) (OpF.tmp rfl)) hc1) ?_
  refine zM (r := b true) rfl rfl rfl rfl rfl ?_
  refine zM (r := f64 a1) rfl rfl rfl rfl rfl ?_
  refine zM (r := f64 a1) rfl rfl rfl rfl rfl ?_
  refine zL (r := b (!feq .f64 a1 a1)) rfl rfl rfl (LOp.fne rfl (OpF.tmp rfl) (OpF.tmp rfl)) ?_
  refine zL (r := b (!feq .f64 a1 a1)) rfl rfl rfl (LOp.pick_true rfl rfl rfl) ?_
  refine zA (r := b (!feq .f64 a1 a1)) rfl rfl rfl rfl rfl ?_
  refine zN ?_
  refine RunC.ret ?_
  have hq := Option.some.inj h
  subst q0
  exact bodyQ.pure (.inr rfl) rfl (Res.one rfl (RV.tmp rfl))
 ·rcases bsel_some h with ⟨hc2, h⟩ | ⟨hc2, h⟩
  ·refine RunC.regionW ?_
   refine zM (r := f64 a0) rfl rfl rfl rfl rfl ?_
   refine zM (r := f64 a0) rfl rfl rfl rfl rfl ?_
   refine zL (r := b false) rfl rfl rfl (LOp.eqb (LOp.fne rfl (OpF.tmp rfl) (OpF.tmp rfl)) hc1) ?_
   refine zM (r := b false) rfl rfl rfl rfl rfl ?_
   refine zM (r := f64 a1) rfl rfl rfl rfl rfl ?_
   refine zM (r := f64 a1) rfl rfl rfl rfl rfl ?_
   refine zL (r := b true) rfl rfl rfl (LOp.eqb (LOp.fne rfl (OpF.tmp rfl) (OpF.tmp rfl)) hc2) ?_
   refine zL (r := b true) rfl rfl rfl (LOp.pick_false rfl rfl rfl) ?_
   refine zN ?_
   refine RunC.cond_true rfl rfl ?_
   refine zQ ?_
   refine zM (r := f64 a0) rfl rfl rfl rfl rfl ?_
   refine zM (r := f64 a0) rfl rfl rfl rfl rfl ?_
   refine zL (r := b false) rfl rfl rfl (LOp.eqb (LOp.fne rfl (OpF.tmp rfl) (OpF.tmp rfl)) hc1) ?_
   refine zM (r := b false) rfl rfl rfl rfl rfl ?_
   refine ROps.s rfl rfl rfl ?_
   refine ROps.s rfl rfl rfl ?_
   refine ROps.s rfl rfl rfl ?_
   refine zL (r := b false) rfl rfl rfl (LOp.pick_false rfl rfl rfl) ?_
   refine zA (r := b false) rfl rfl rfl rfl rfl ?_
   refine zN ?_
   refine RunC.ret ?_
   have hq := Option.some.inj h
   subst q0
   exact bodyQ.pure (.inr rfl) rfl (Res.one rfl (RV.tmp rfl))
  ·refine RunC.regionW ?_
   refine zM (r := f64 a0) rfl rfl rfl rfl rfl ?_
   refine zM (r := f64 a0) rfl rfl rfl rfl rfl ?_
   refine zL (r := b false) rfl rfl rfl (LOp.eqb (LOp.fne rfl (OpF.tmp rfl) (OpF.tmp rfl)) hc1) ?_
   refine zM (r := b false) rfl rfl rfl rfl rfl ?_
   refine zM (r := f64 a1) rfl rfl rfl rfl rfl ?_
   refine zM (r := f64 a1) rfl rfl rfl rfl rfl ?_
   refine zL (r := b false) rfl rfl rfl (LOp.eqb (LOp.fne rfl (OpF.tmp rfl) (OpF.tmp rfl)) hc2) ?_
   refine zL (r := b false) rfl rfl rfl (LOp.pick_false rfl rfl rfl) ?_
   refine zN ?_
   refine RunC.cond_false rfl rfl ?_
   refine RunC.skip ?_
   refine RunC.seq ?_
   refine RunC.cutN (fun τ Γ =>  WeakLe τ [(0, f64 a0), (1, f64 a1)] ∧ DeadLe Γ [] ∧ w_sameFloat_k1 a0 a1 = some q0) ?_ ?_
   ·refine RunC.seq ?_
    rcases bsel_some h with ⟨hc3, h⟩ | ⟨hc3, h⟩
    ·rcases bsel_some h with ⟨hc4, h⟩ | ⟨hc4, h⟩
     ·refine RunC.regionW ?_
      refine zM (r := f64 a0) rfl rfl rfl rfl rfl ?_
      refine zL (r := b true) rfl rfl rfl (LOp.eqb (LOp.feq rfl (OpF.tmp rfl) (OpF.const rfl (by kernel_rfl) (by kernel_rfl))) hc3) ?_
      refine zM (r := b true) rfl rfl rfl rfl rfl ?_
      refine zM (r := f64 a1) rfl rfl rfl rfl rfl ?_
      refine zL (r := b true) rfl rfl rfl (LOp.eqb (LOp.feq rfl (OpF.tmp rfl) (OpF.const rfl (by kernel_rfl) (by kernel_rfl))) hc4) ?_
      refine zL (r := b true) rfl rfl rfl (LOp.pick_true rfl rfl rfl) ?_
      refine zN ?_
      refine RunC.wl (τ' := [(0, f64 a0), (1, f64 a1), (26, b true)]) (Γ' := []) ⟨aR, aR, aR, trivial⟩ trivial ?_
      refine RunC.cond_true rfl rfl ?_
      refine RunC.seq ?_
      obtain ⟨x1, hx5, h⟩ := olet_some h
      obtain ⟨x2, hx6, h⟩ := olet_some h
      refine RunC.regionW ?_
      refine zM (r := f64 a0) rfl rfl rfl rfl rfl ?_
      refine ROps.d (r := f64 x1) (fs := []) (Γ' := []) rfl rfl rfl (TOp.eqr (TOp.fop (.inr (.inr (.inr rfl))) rfl (OpF.const rfl (by kernel_rfl) (by kernel_rfl)) (OpF.tmp rfl)) (congrArg (f .f64) hx5)) rfl ?_
      refine zL (r := b (flt .f64 (some 0) x1)) rfl rfl rfl (LOp.fgt rfl (OpF.tmp rfl) (OpF.const rfl (by kernel_rfl) (by kernel_rfl))) ?_
      refine zM (r := f64 a1) rfl rfl rfl rfl rfl ?_
      refine ROps.d (r := f64 x2) (fs := []) (Γ' := []) rfl rfl rfl (TOp.eqr (TOp.fop (.inr (.inr (.inr rfl))) rfl (OpF.const rfl (by kernel_rfl) (by kernel_rfl)) (OpF.tmp rfl)) (congrArg (f .f64) hx6)) rfl ?_
      refine zL (r := b (flt .f64 (some 0) x2)) rfl rfl rfl (LOp.fgt rfl (OpF.tmp rfl) (OpF.const rfl (by kernel_rfl) (by kernel_rfl))) ?_
      refine zL (r := b ((flt .f64 (some 0) x1) == (flt .f64 (some 0) x2))) rfl rfl rfl (LOp.eqlb pun4 rfl rfl rfl) ?_
      refine zA (r := b ((flt .f64 (some 0) x1) == (flt .f64 (some 0) x2))) rfl rfl rfl rfl rfl ?_
      refine zN ?_
      refine RunC.ret ?_
      have hq := Option.some.inj h
      subst q0
      exact bodyQ.pure (.inr rfl) rfl (Res.one rfl (RV.tmp rfl))
     ·refine RunC.regionW ?_
      refine zM (r := f64 a0) rfl rfl rfl rfl rfl ?_
      refine zL (r := b true) rfl rfl rfl (LOp.eqb (LOp.feq rfl (OpF.tmp rfl) (OpF.const rfl (by kernel_rfl) (by kernel_rfl))) hc3) ?_
      refine zM (r := b true) rfl rfl rfl rfl rfl ?_
      refine zM (r := f64 a1) rfl rfl rfl rfl rfl ?_
      refine zL (r := b false) rfl rfl rfl (LOp.eqb (LOp.feq rfl (OpF.tmp rfl) (OpF.const rfl (by kernel_rfl) (by kernel_rfl))) hc4) ?_
      refine zL (r := b false) rfl rfl rfl (LOp.pick_true rfl rfl rfl) ?_
      refine zN ?_
      refine RunC.wl (τ' := [(0, f64 a0), (1, f64 a1), (26, b false)]) (Γ' := []) ⟨aR, aR, aR, trivial⟩ trivial ?_
      refine RunC.cond_false rfl rfl ?_
      refine RunC.skip ?_
      exact ⟨⟨aR, aR, trivial⟩, trivial, h⟩
    ·refine RunC.regionW ?_
     refine zM (r := f64 a0) rfl rfl rfl rfl rfl ?_
     refine zL (r := b false) rfl rfl rfl (LOp.eqb (LOp.feq rfl (OpF.tmp rfl) (OpF.const rfl (by kernel_rfl) (by kernel_rfl))) hc3) ?_
     refine zM (r := b false) rfl rfl rfl rfl rfl ?_
     refine ROps.s rfl rfl rfl ?_
     refine ROps.s rfl rfl rfl ?_
     refine zL (r := b false) rfl rfl rfl (LOp.pick_false rfl rfl rfl) ?_
     refine zN ?_
     refine RunC.wl (τ' := [(0, f64 a0), (1, f64 a1), (26, b false)]) (Γ' := []) ⟨aR, aR, aR, trivial⟩ trivial ?_
     refine RunC.cond_false rfl rfl ?_
     refine RunC.skip ?_
     exact ⟨⟨aR, aR, trivial⟩, trivial, h⟩
   ·rintro τ2 Γ2 ⟨hw2, hd2, h⟩
    refine RunC.wl hw2 hd2 ?_
    unfold w_sameFloat_k1 at h
    refine zQ ?_
    refine zM (r := f64 a0) rfl rfl rfl rfl rfl ?_
    refine zM (r := f64 a1) rfl rfl rfl rfl rfl ?_
    refine zL (r := b (feq .f64 a0 a1)) rfl rfl rfl (LOp.feq rfl (OpF.tmp rfl) (OpF.tmp rfl)) ?_
    refine zA (r := b (feq .f64 a0 a1)) rfl rfl rfl rfl rfl ?_
    refine zN ?_
    refine RunC.ret ?_
    have hq := Option.some.inj h
    subst q0
    exact bodyQ.pure (.inr rfl) rfl (Res.one rfl (RV.tmp rfl))
noncomputable def w_eqFloat32S_b1 (a0 : List F) (a1 : List F) (v1 : Int) : Option (LR (Int) (Unit) (Bool)) :=
 bsel (decide (v1 < (a0.length : Int))) (
  obind (at? a0 v1) fun (e2 : F) =>
  olet (fwiden e2) fun (x3 : F) =>
  obind (at? a1 v1) fun (e4 : F) =>
  olet (fwiden e4) fun (x5 : F) =>
  obind (w_sameFloat x3 x5) fun (r6 : Bool) =>
  bsel r6 (
   olet (IntKind.i64.wrap (v1 + 1)) fun (x7 : Int) =>
   some (LR.next x7)) (
   some (LR.ret false))) (
  some (LR.out ()))
noncomputable def w_eqFloat32S_s1 (a0 : List F) (a1 : List F) : (Int) → Option (LR (Int) (Unit) (Bool)) := fun s => w_eqFloat32S_b1 a0 a1 s
noncomputable def w_eqFloat32S_k1  : Option (Bool) :=
 some true
noncomputable def w_eqFloat32S (a0 : List F) (a1 : List F) : Option (Bool) :=
 bsel (!decide ((a0.length : Int) = (a1.length : Int))) (
  some false) (
  obind (loopM (w_eqFloat32S_s1 a0 a1) 0) fun z => osum z (fun _ => w_eqFloat32S_k1) (fun r => some r))
theorem w_eqFloat32S_ok (a0 : List F) (a1 : List F) (q0 : Bool) (h : w_eqFloat32S a0 a1 = some q0) : Ev Tryz.prog 37 [sl a0.length (a0.map f32), sl a1.length (a1.map f32)] [] (b q0) [] := by
 refine Ev.start Tryz.func37 rfl rfl 0 (τ := [(0, sl a0.length (a0.map f32)), (1, sl a1.length (a1.map f32))]) rfl (Γ' := []) rfl (n := 59) rfl (g := 0) rfl (fun _ => rfl) ?_
 unfold w_eqFloat32S at h
 refine zQ ?_
 refine zA (r := b false) rfl rfl rfl rfl rfl ?_
 refine zN ?_
 refine RunC.seq ?_
 refine RunC.seq ?_
 rcases bsel_some h with ⟨hc1, h⟩ | ⟨hc1, h⟩
 ·refine RunC.regionW ?_
  refine zM (r := sl a0.length (a0.map f32)) rfl rfl rfl rfl rfl ?_
  refine zL (r := i64 (a0.length : Int)) rfl rfl rfl (LOp.len_sl und22 rfl rfl) ?_
  refine zM (r := sl a1.length (a1.map f32)) rfl rfl rfl rfl rfl ?_
  refine zL (r := i64 (a1.length : Int)) rfl rfl rfl (LOp.len_sl und22 rfl rfl) ?_
  refine zL (r := b true) rfl rfl rfl (LOp.eqb (LOp.neq rfl rfl rfl) hc1) ?_
  refine zN ?_
  refine RunC.cond_true rfl rfl ?_
  refine zQ ?_
  refine zA (r := b false) rfl rfl rfl rfl rfl ?_
  refine zN ?_
  refine RunC.ret ?_
  have hq := Option.some.inj h
  subst q0
  exact bodyQ.pure (.inr rfl) rfl (Res.one rfl (RV.tmp rfl))
 ·refine RunC.regionW ?_
  refine zM (r := sl a0.length (a0.map f32)) rfl rfl rfl rfl rfl ?_
  refine zL (r := i64 (a0.length : Int)) rfl rfl rfl (LOp.len_sl und22 rfl rfl) ?_
  refine zM (r := sl a1.length (a1.map f32)) rfl rfl rfl rfl rfl ?_
  refine zL (r := i64 (a1.length : Int)) rfl rfl rfl (LOp.len_sl und22 rfl rfl) ?_
  refine zL (r := b false) rfl rfl rfl (LOp.eqb (LOp.neq rfl rfl rfl) hc1) ?_
  refine zN ?_
  refine RunC.cond_false rfl rfl ?_
  refine RunC.skip ?_
  refine RunC.seq ?_
  refine zQ ?_
  refine zA (r := i64 0) rfl rfl rfl rfl rfl ?_
  refine zN ?_
  obtain ⟨z2, hz_2, h⟩ := obind_some h
  refine RunC.cutN (fun τ Γ => WeakLe τ [] ∧ DeadLe Γ [] ∧ z2 = .inl ()) ?_ ?_
  ·refine RunC.block (RunC.loop (RunL.loopM (x := z2) (w_eqFloat32S_s1 a0 a1) (fun (s : Int) τ Γ => WeakLe τ [(0, sl a0.length (a0.map f32)), (1, sl a1.length (a1.map f32)), (5, i64 s)] ∧ DeadLe Γ []) ?_ _ _ _ hz_2 ⟨⟨aR, aR, aR, trivial⟩, trivial⟩))
   rintro v1 τ2 Γ2 y2_ ⟨hw2, hd2⟩ h2_ ho2 hr2
   refine RunC.wl (τ' := [(0, sl a0.length (a0.map f32)), (1, sl a1.length (a1.map f32)), (5, i64 v1)]) (Γ' := []) hw2 hd2 ?_
   replace h2_ : w_eqFloat32S_b1 a0 a1 v1 = some y2_ := h2_
   unfold w_eqFloat32S_b1 at h2_
   refine RunC.seq ?_
   refine RunC.seq ?_
   rcases bsel_some h2_ with ⟨hc2, h2_⟩ | ⟨hc2, h2_⟩
   ·refine RunC.regionW ?_
    refine zM (r := i64 v1) rfl rfl rfl rfl rfl ?_
    refine zM (r := sl a0.length (a0.map f32)) rfl rfl rfl rfl rfl ?_
    refine zL (r := i64 (a0.length : Int)) rfl rfl rfl (LOp.len_sl und22 rfl rfl) ?_
    refine zL (r := b true) rfl rfl rfl (LOp.eqb (LOp.lss rfl rfl rfl) hc2) ?_
    refine zN ?_
    refine RunC.cond_true rfl rfl ?_
    refine RunC.skip ?_
    refine RunC.seq ?_
    refine RunC.block ?_
    refine RunC.seq ?_
    obtain ⟨e2, he3, h2_⟩ := obind_some h2_
    obtain ⟨x3, hx4, h2_⟩ := olet_some h2_
    obtain ⟨e4, he5, h2_⟩ := obind_some h2_
    obtain ⟨x5, hx6, h2_⟩ := olet_some h2_
    obtain ⟨r6, hf7, h2_⟩ := obind_some h2_
    rcases bsel_some h2_ with ⟨hc8, h2_⟩ | ⟨hc8, h2_⟩
    ·refine RunC.region_draw (Γ' := []) 12 mixed 
      (TR.l (r := sl a0.length (a0.map f32)) rfl rfl (LOp.move rfl rfl) <|
      (TR.l (r := i64 v1) rfl rfl (LOp.move rfl rfl) <|
      (TR.l (r := ptr [f32 e2]) rfl rfl (LOp.le (LOp.ix (f := f32) und22 siz33 rfl rfl rfl rfl he3) ALe.ptr) <|
      (TR.l (r := f32 e2) rfl rfl (LOp.load1 agg33 rfl rfl) <|
      (TR.d (r := f64 x3) (fs := []) rfl rfl (TOp.eqr (TOp.widen (src := 33) (dst := 37) ⟨_, pun33⟩ pun37 rfl (OpF.tmp rfl)) (congrArg (f .f64) hx4)) <|
      (TR.l (r := sl a1.length (a1.map f32)) rfl rfl (LOp.move rfl rfl) <|
      (TR.l (r := i64 v1) rfl rfl (LOp.move rfl rfl) <|
      (TR.l (r := ptr [f32 e4]) rfl rfl (LOp.le (LOp.ix (f := f32) und22 siz33 rfl rfl rfl rfl he5) ALe.ptr) <|
      (TR.l (r := f32 e4) rfl rfl (LOp.load1 agg33 rfl rfl) <|
      (TR.d (r := f64 x5) (fs := []) rfl rfl (TOp.eqr (TOp.widen (src := 33) (dst := 37) ⟨_, pun33⟩ pun37 rfl (OpF.tmp rfl)) (congrArg (f .f64) hx6)) <|
      (TR.d (r := b true) (fs := []) rfl rfl (TOp.eqb (TOp.callB (CallAs.func ent14 rfl rfl) (Bors.cons (Bor.pure rfl) (Bors.cons (Bor.pure rfl) Bors.nil)) rfl rfl (w_sameFloat_ok x3 x5 r6 hf7)) hc8) <|
      (TR.l (r := b false) rfl rfl (LOp.eqb (LOp.not rfl rfl) rfl) <|
      TR.nil)))))))))))) rfl (by kernel_rfl) rfl fills_nil rfl ?_
     iterate 12 refine ROps.dropS ?_
     refine ROps.drop0 ?_
     refine zN ?_
     refine RunC.wl (τ' := [(0, sl a0.length (a0.map f32)), (1, sl a1.length (a1.map f32)), (5, i64 v1), (28, b false)]) (Γ' := []) ⟨aR, aR, aR, aR, trivial⟩ trivial ?_
     refine RunC.cond_false rfl rfl ?_
     refine RunC.skip ?_
     obtain ⟨x7, hx9, h2_⟩ := olet_some h2_
     refine RunC.regionW ?_
     refine zM (r := i64 v1) rfl rfl rfl rfl rfl ?_
     refine zL (r := i64 x7) rfl rfl rfl (LOp.eqr (LOp.add rfl rfl rfl) (congrArg (ik .i64) hx9)) ?_
     refine zA (r := i64 x7) rfl rfl rfl rfl rfl ?_
     refine zN ?_
     cases Option.some.inj h2_
     exact ⟨_, rfl, ⟨aR, aR, aR, trivial⟩, trivial⟩
    ·refine RunC.region_draw (Γ' := []) 12 mixed 
      (TR.l (r := sl a0.length (a0.map f32)) rfl rfl (LOp.move rfl rfl) <|
      (TR.l (r := i64 v1) rfl rfl (LOp.move rfl rfl) <|
      (TR.l (r := ptr [f32 e2]) rfl rfl (LOp.le (LOp.ix (f := f32) und22 siz33 rfl rfl rfl rfl he3) ALe.ptr) <|
      (TR.l (r := f32 e2) rfl rfl (LOp.load1 agg33 rfl rfl) <|
      (TR.d (r := f64 x3) (fs := []) rfl rfl (TOp.eqr (TOp.widen (src := 33) (dst := 37) ⟨_, pun33⟩ pun37 rfl (OpF.tmp rfl)) (congrArg (f .f64) hx4)) <|
      (TR.l (r := sl a1.length (a1.map f32)) rfl rfl (LOp.move rfl rfl) <|
      (TR.l (r := i64 v1) rfl rfl (LOp.move rfl rfl) <|
      (TR.l (r := ptr [f32 e4]) rfl rfl (LOp.le (LOp.ix (f := f32) und22 siz33 rfl rfl rfl rfl he5) ALe.ptr) <|
      (TR.l (r := f32 e4) rfl rfl (LOp.load1 agg33 rfl rfl) <|
      (TR.d (r := f64 x5) (fs := []) rfl rfl (TOp.eqr (TOp.widen (src := 33) (dst := 37) ⟨_, pun33⟩ pun37 rfl (OpF.tmp rfl)) (congrArg (f .f64) hx6)) <|
      (TR.d (r := b false) (fs := []) rfl rfl (TOp.eqb (TOp.callB (CallAs.func ent14 rfl rfl) (Bors.cons (Bor.pure rfl) (Bors.cons (Bor.pure rfl) Bors.nil)) rfl rfl (w_sameFloat_ok x3 x5 r6 hf7)) hc8) <|
      (TR.l (r := b true) rfl rfl (LOp.eqb (LOp.not rfl rfl) rfl) <|
      TR.nil)))))))))))) rfl (by kernel_rfl) rfl fills_nil rfl ?_
     iterate 12 refine ROps.dropS ?_
     refine ROps.drop0 ?_
     refine zN ?_
     refine RunC.wl (τ' := [(0, sl a0.length (a0.map f32)), (1, sl a1.length (a1.map f32)), (5, i64 v1), (28, b true)]) (Γ' := []) ⟨aR, aR, aR, aR, trivial⟩ trivial ?_
     refine RunC.cond_true rfl rfl ?_
     refine zQ ?_
     refine zA (r := b false) rfl rfl rfl rfl rfl ?_
     refine zN ?_
     refine RunC.ret ?_
     cases Option.some.inj h2_
     have hx3_ := hr2 _ rfl
     subst hx3_
     have hq := Option.some.inj h
     subst q0
     exact bodyQ.pure (.inr rfl) rfl (Res.one rfl (RV.tmp rfl))
   ·refine RunC.regionW ?_
    refine zM (r := i64 v1) rfl rfl rfl rfl rfl ?_
    refine zM (r := sl a0.length (a0.map f32)) rfl rfl rfl rfl rfl ?_
    refine zL (r := i64 (a0.length : Int)) rfl rfl rfl (LOp.len_sl und22 rfl rfl) ?_
    refine zL (r := b false) rfl rfl rfl (LOp.eqb (LOp.lss rfl rfl rfl) hc2) ?_
    refine zN ?_
    refine RunC.cond_false rfl rfl ?_
    refine RunC.exit ?_
    cases Option.some.inj h2_
    have hx := ho2 _ rfl
    exact ⟨trivial, trivial, hx⟩
  ·rintro τ4 Γ4 ⟨hw4, hd4, rfl⟩
   refine RunC.wl hw4 hd4 ?_
   replace h : w_eqFloat32S_k1 = some q0 := h
   unfold w_eqFloat32S_k1 at h
   refine zQ ?_
   refine zA (r := b true) rfl rfl rfl rfl rfl ?_
   refine zN ?_
   refine RunC.ret ?_
   have hq := Option.some.inj h
   subst q0
   exact bodyQ.pure (.inr rfl) rfl (Res.one rfl (RV.tmp rfl))
noncomputable def w_eqMatrix (a0 : Int) (a1 : Int) (a2 : List F) (a3 : Int) (a4 : Int) (a5 : List F) : Option (Bool) :=
 bsel (!decide (a0 = a3)) (
  some false) (
  bsel (!decide (a1 = a4)) (
   some false) (
   obind (w_eqFloat32S a2 a5) fun (r1 : Bool) =>
   bsel r1 (
    some true) (
    some false)))
theorem w_eqMatrix_ok (a0 : Int) (a1 : Int) (a2 : List F) (a3 : Int) (a4 : Int) (a5 : List F) (q0 : Bool) (h : w_eqMatrix a0 a1 a2 a3 a4 a5 = some q0) : Ev Tryz.prog 9 [agg [i64 a0, i64 a1, sl a2.length (a2.map f32)], agg [i64 a3, i64 a4, sl a5.length (a5.map f32)]] [] (b q0) [] := by
 refine Ev.start Tryz.func9 rfl rfl 0 (τ := [(0, agg [i64 a0, i64 a1, sl a2.length (a2.map f32)]), (1, agg [i64 a3, i64 a4, sl a5.length (a5.map f32)])]) rfl (Γ' := []) rfl (n := 43) rfl (g := 0) rfl (fun _ => rfl) ?_
 unfold w_eqMatrix at h
 refine zQ ?_
 refine ROps.d (r := ptr [i64 a0, i64 a1, sl a2.length (a2.map f32)]) (fs := []) (Γ' := []) rfl rfl rfl (TOp.box_s rfl rfl rfl) rfl ?_
 refine ROps.d (r := ptr [i64 a3, i64 a4, sl a5.length (a5.map f32)]) (fs := []) (Γ' := []) rfl rfl rfl (TOp.box_s rfl rfl rfl) rfl ?_
 refine zA (r := b false) rfl rfl rfl rfl rfl ?_
 refine zN ?_
 refine RunC.seq ?_
 refine RunC.seq ?_
 rcases bsel_some h with ⟨hc1, h⟩ | ⟨hc1, h⟩
 ·refine RunC.regionW ?_
  refine zL (r := ptr [i64 a0, i64 a1, sl a2.length (a2.map f32)]) rfl rfl rfl (LOp.fap und26 rfl siz2 rfl rfl rfl) ?_
  refine zL (r := i64 a0) rfl rfl rfl (LOp.load1 agg2 rfl rfl) ?_
  refine zL (r := ptr [i64 a3, i64 a4, sl a5.length (a5.map f32)]) rfl rfl rfl (LOp.fap und26 rfl siz2 rfl rfl rfl) ?_
  refine zL (r := i64 a3) rfl rfl rfl (LOp.load1 agg2 rfl rfl) ?_
  refine zL (r := b true) rfl rfl rfl (LOp.eqb (LOp.neq rfl rfl rfl) hc1) ?_
  refine zN ?_
  refine RunC.cond_true rfl rfl ?_
  refine zQ ?_
  refine zA (r := b false) rfl rfl rfl rfl rfl ?_
  refine zN ?_
  refine RunC.ret ?_
  have hq := Option.some.inj h
  subst q0
  exact bodyQ.pure (.inr rfl) rfl (Res.one rfl (RV.tmp rfl))
 ·refine RunC.regionW ?_
  refine zL (r := ptr [i64 a0, i64 a1, sl a2.length (a2.map f32)]) rfl rfl rfl (LOp.fap und26 rfl siz2 rfl rfl rfl) ?_
  refine zL (r := i64 a0) rfl rfl rfl (LOp.load1 agg2 rfl rfl) ?_
  refine zL (r := ptr [i64 a3, i64 a4, sl a5.length (a5.map f32)]) rfl rfl rfl (LOp.fap und26 rfl siz2 rfl rfl rfl) ?_
  refine zL (r := i64 a3) rfl rfl rfl (LOp.load1 agg2 rfl rfl) ?_
  refine zL (r := b false) rfl rfl rfl (LOp.eqb (LOp.neq rfl rfl rfl) hc1) ?_
  refine zN ?_
  refine RunC.cond_false rfl rfl ?_
  refine RunC.skip ?_
  refine RunC.seq ?_
  refine RunC.seq ?_
  rcases bsel_some h with ⟨hc2, h⟩ | ⟨hc2, h⟩
  ·refine RunC.regionW ?_
   refine zL (r := ptr [i64 a1, sl a2.length (a2.map f32)]) rfl rfl rfl (LOp.fap und26 rfl siz2 rfl rfl rfl) ?_
   refine zL (r := i64 a1) rfl rfl rfl (LOp.load1 agg2 rfl rfl) ?_
   refine zL (r := ptr [i64 a4, sl a5.length (a5.map f32)]) rfl rfl rfl (LOp.fap und26 rfl siz2 rfl rfl rfl) ?_
   refine zL (r := i64 a4) rfl rfl rfl (LOp.load1 agg2 rfl rfl) ?_
   refine zL (r := b true) rfl rfl rfl (LOp.eqb (LOp.neq rfl rfl rfl) hc2) ?_
   refine zN ?_
   refine RunC.cond_true rfl rfl ?_
   refine zQ ?_
   refine zA (r := b false) rfl rfl rfl rfl rfl ?_
   refine zN ?_
   refine RunC.ret ?_
   have hq := Option.some.inj h
   subst q0
   exact bodyQ.pure (.inr rfl) rfl (Res.one rfl (RV.tmp rfl))
  ·refine RunC.regionW ?_
   refine zL (r := ptr [i64 a1, sl a2.length (a2.map f32)]) rfl rfl rfl (LOp.fap und26 rfl siz2 rfl rfl rfl) ?_
   refine zL (r := i64 a1) rfl rfl rfl (LOp.load1 agg2 rfl rfl) ?_
   refine zL (r := ptr [i64 a4, sl a5.length (a5.map f32)]) rfl rfl rfl (LOp.fap und26 rfl siz2 rfl rfl rfl) ?_
   refine zL (r := i64 a4) rfl rfl rfl (LOp.load1 agg2 rfl rfl) ?_
   refine zL (r := b false) rfl rfl rfl (LOp.eqb (LOp.neq rfl rfl rfl) hc2) ?_
   refine zN ?_
   refine RunC.cond_false rfl rfl ?_
   refine RunC.skip ?_
   refine RunC.wl (τ' := [(2, ptr [i64 a0, i64 a1, sl a2.length (a2.map f32)]), (3, ptr [i64 a3, i64 a4, sl a5.length (a5.map f32)])]) (Γ' := []) ⟨aR, aR, trivial⟩ trivial ?_
   refine RunC.seq ?_
   refine RunC.seq ?_
   obtain ⟨r1, hf3, h⟩ := obind_some h
   rcases bsel_some h with ⟨hc4, h⟩ | ⟨hc4, h⟩
   ·refine RunC.regionW ?_
    refine zL (r := ptr [sl a2.length (a2.map f32)]) rfl rfl rfl (LOp.fap und26 rfl siz22 rfl rfl rfl) ?_
    refine zL (r := sl a2.length (a2.map f32)) rfl rfl rfl (LOp.load1 agg22 rfl rfl) ?_
    refine zL (r := ptr [sl a5.length (a5.map f32)]) rfl rfl rfl (LOp.fap und26 rfl siz22 rfl rfl rfl) ?_
    refine zL (r := sl a5.length (a5.map f32)) rfl rfl rfl (LOp.load1 agg22 rfl rfl) ?_
    refine ROps.d (r := b true) (fs := []) (Γ' := []) rfl rfl rfl (TOp.eqb (TOp.callB (CallAs.func ent37 rfl rfl) (Bors.cons (Bor.sl (fun _ => rfl)) (Bors.cons (Bor.sl (fun _ => rfl)) Bors.nil)) rfl rfl (w_eqFloat32S_ok a2 a5 r1 hf3)) hc4) rfl ?_
    refine zL (r := b false) rfl rfl rfl (LOp.eqb (LOp.not rfl rfl) rfl) ?_
    refine zN ?_
    refine RunC.cond_false rfl rfl ?_
    refine RunC.skip ?_
    refine zQ ?_
    refine zA (r := b true) rfl rfl rfl rfl rfl ?_
    refine zN ?_
    refine RunC.ret ?_
    have hq := Option.some.inj h
    subst q0
    exact bodyQ.pure (.inr rfl) rfl (Res.one rfl (RV.tmp rfl))
   ·refine RunC.regionW ?_
    refine zL (r := ptr [sl a2.length (a2.map f32)]) rfl rfl rfl (LOp.fap und26 rfl siz22 rfl rfl rfl) ?_
    refine zL (r := sl a2.length (a2.map f32)) rfl rfl rfl (LOp.load1 agg22 rfl rfl) ?_
    refine zL (r := ptr [sl a5.length (a5.map f32)]) rfl rfl rfl (LOp.fap und26 rfl siz22 rfl rfl rfl) ?_
    refine zL (r := sl a5.length (a5.map f32)) rfl rfl rfl (LOp.load1 agg22 rfl rfl) ?_
    refine ROps.d (r := b false) (fs := []) (Γ' := []) rfl rfl rfl (TOp.eqb (TOp.callB (CallAs.func ent37 rfl rfl) (Bors.cons (Bor.sl (fun _ => rfl)) (Bors.cons (Bor.sl (fun _ => rfl)) Bors.nil)) rfl rfl (w_eqFloat32S_ok a2 a5 r1 hf3)) hc4) rfl ?_
    refine zL (r := b true) rfl rfl rfl (LOp.eqb (LOp.not rfl rfl) rfl) ?_
    refine zN ?_
    refine RunC.cond_true rfl rfl ?_
    refine zQ ?_
    refine zA (r := b false) rfl rfl rfl rfl rfl ?_
    refine zN ?_
    refine RunC.ret ?_
    have hq := Option.some.inj h
    subst q0
    exact bodyQ.pure (.inr rfl) rfl (Res.one rfl (RV.tmp rfl))
noncomputable def w_FnExactConditionOf (a0 : Int) (a1 : Int) (a2 : List F) : Option (Bool) :=
 obind (w_szMatrix a0 a1 a2 1048576) fun (r1 : Int) =>
 bsel (decide (r1 < 0)) (
  some true) (
  obind3 (w_toMatrix a0 a1 a2) fun (r2 : Int) (r3 : Int) (r4 : List F) =>
  obind2 (s_ConditionOf r2 r3 r4) fun (r5 : F) (r6 : Bool) =>
  obind3 (w_toMatrix a0 a1 a2) fun (r7 : Int) (r8 : Int) (r9 : List F) =>
  obind2 (i_ConditionOf r7 r8 r9) fun (r10 : F) (r11 : Bool) =>
  olet (fwiden r10) fun (x12 : F) =>
  olet (fwiden r5) fun (x13 : F) =>
  obind (w_sameFloat x12 x13) fun (r14 : Bool) =>
  bsel r14 (
   bsel (!(r11 == r6)) (
    some false) (
    obind3 (w_toMatrix a0 a1 a2) fun (r15 : Int) (r16 : Int) (r17 : List F) =>
    obind (w_eqMatrix r7 r8 r9 r15 r16 r17) fun (r18 : Bool) =>
    bsel r18 (
     some true) (
     some false))) (
   some false))
theorem w_FnExactConditionOf_ok (a0 : Int) (a1 : Int) (a2 : List F) (q0 : Bool) (h : w_FnExactConditionOf a0 a1 a2 = some q0) : Ev Tryz.prog 4 [agg [i64 a0, i64 a1, sl a2.length (a2.map f32)]] [] (b q0) [] := by
 refine Ev.start Tryz.func4 rfl rfl 2 (τ := [(0, agg [i64 a0, i64 a1, sl a2.length (a2.map f32)])]) rfl (Γ' := [⟨0, none⟩, ⟨0, none⟩]) rfl (n := 87) rfl (g := 0) rfl (fun _ => rfl) ?_
 unfold w_FnExactConditionOf at h
 refine zQ ?_
 refine ROps.d (r := ptr [i64 a0, i64 a1, sl a2.length (a2.map f32)]) (fs := []) (Γ' := [⟨0, none⟩, ⟨0, none⟩]) rfl rfl rfl (TOp.box_s rfl rfl rfl) rfl ?_
 refine zA (r := b false) rfl rfl rfl rfl rfl ?_
 refine zN ?_
 refine zQ ?_
 refine zA (r := i64 1048576) rfl rfl rfl rfl rfl ?_
 refine zN ?_
 refine RunC.seq ?_
 obtain ⟨r1, hf1, h⟩ := obind_some h
 refine RunC.regionW ?_
 refine zL (r := agg [i64 a0, i64 a1, sl a2.length (a2.map f32)]) rfl rfl rfl (LOp.loadAgg agg24 siz24 rfl rfl rfl rfl) ?_
 refine zM (r := i64 1048576) rfl rfl rfl rfl rfl ?_
 refine ROps.d (r := i64 r1) (fs := []) (Γ' := [⟨0, none⟩, ⟨0, none⟩]) rfl rfl rfl (TOp.callB (CallAs.func ent5 rfl rfl) (Bors.cons (Bor.agg (Bors.cons (Bor.pure rfl) (Bors.cons (Bor.pure rfl) (Bors.cons (Bor.sl (fun _ => rfl)) Bors.nil)))) (Bors.cons (Bor.pure rfl) Bors.nil)) rfl rfl (w_szMatrix_ok a0 a1 a2 1048576 r1 hf1)) rfl ?_
 refine zA (r := i64 r1) rfl rfl rfl rfl rfl ?_
 refine zN ?_
 refine RunC.seq ?_
 refine RunC.seq ?_
 rcases bsel_some h with ⟨hc2, h⟩ | ⟨hc2, h⟩
 ·refine RunC.regionW ?_
  refine zM (r := i64 r1) rfl rfl rfl rfl rfl ?_
  refine zL (r := b true) rfl rfl rfl (LOp.eqb (LOp.lss rfl rfl rfl) hc2) ?_
  refine zN ?_
  refine RunC.cond_true rfl rfl ?_
  refine zQ ?_
  refine zA (r := b true) rfl rfl rfl rfl rfl ?_
  refine zN ?_
  refine RunC.ret ?_
  have hq := Option.some.inj h
  subst q0
  exact bodyQ.pure (.inr rfl) rfl (Res.one rfl (RV.tmp rfl))
 ·refine RunC.regionW ?_
  refine zM (r := i64 r1) rfl rfl rfl rfl rfl ?_
  refine zL (r := b false) rfl rfl rfl (LOp.eqb (LOp.lss rfl rfl rfl) hc2) ?_
  refine zN ?_
  refine RunC.cond_false rfl rfl ?_
  refine RunC.skip ?_
  refine RunC.seq ?_
  obtain ⟨r2, r3, r4, hf3, h⟩ := obind3_some h
  obtain ⟨r5, r6, hf4, h⟩ := obind2_some h
  refine RunC.regionW ?_
  refine zL (r := agg [i64 a0, i64 a1, sl a2.length (a2.map f32)]) rfl rfl rfl (LOp.loadAgg agg24 siz24 rfl rfl rfl rfl) ?_
  refine ROps.d (r := agg [i64 r2, i64 r3, oref 0 1 0 r4.length]) (fs := [(0, (r4.map f32))]) (Γ' := [⟨1, some (r4.map f32)⟩, ⟨0, none⟩]) rfl rfl rfl (TOp.callBN (ls := [(r4.map f32)]) [0] (CallAs.func ent7 rfl rfl) (Bors.cons (Bor.agg (Bors.cons (Bor.pure rfl) (Bors.cons (Bor.pure rfl) (Bors.cons (Bor.sl (fun _ => rfl)) Bors.nil)))) Bors.nil) rfl (w_toMatrix_ok a0 a1 a2 r2 r3 r4 hf3) (and_all (lts0_map (f := f32) (fun _ => rfl) _) rfl) (and_all (noss_map (f := f32) (fun _ => rfl) _) rfl) rfl (by decide) (ns_of ⟨⟨_, rfl⟩, trivial⟩)) rfl ?_
  refine ROps.d (r := tup [f32 r5, b r6]) (fs := []) (Γ' := [⟨1, some (r4.map f32)⟩, ⟨0, none⟩]) rfl rfl rfl (TOp.callB (CallAs.func ent12 rfl rfl) (Bors.cons (Bor.agg (Bors.cons (Bor.pure rfl) (Bors.cons (Bor.pure rfl) (Bors.cons (Bor.own (f := f32) (fun _ => rfl) rfl rfl) Bors.nil)))) Bors.nil) rfl rfl (s_ConditionOf_ok r2 r3 r4 r5 r6 hf4)) rfl ?_
  refine zM (r := tup [f32 r5, b r6]) rfl rfl rfl rfl rfl ?_
  refine zL (r := f32 r5) rfl rfl rfl (LOp.extract rfl rfl rfl) ?_
  refine zL (r := b r6) rfl rfl rfl (LOp.extract rfl rfl rfl) ?_
  refine zA (r := f32 r5) rfl rfl rfl rfl rfl ?_
  refine zA (r := b r6) rfl rfl rfl rfl rfl ?_
  refine zN ?_
  refine RunC.wl (τ' := [(1, ptr [i64 a0, i64 a1, sl a2.length (a2.map f32)]), (4, f32 r5), (5, b r6)]) (Γ' := [⟨1, none⟩, ⟨0, none⟩]) ⟨aR, aR, aR, trivial⟩ ⟨⟨rfl, .inl rfl⟩, ⟨rfl, .inr rfl⟩, trivial⟩ ?_
  refine RunC.seq ?_
  obtain ⟨r7, r8, r9, hf5, h⟩ := obind3_some h
  refine RunC.regionW ?_
  refine zL (r := agg [i64 a0, i64 a1, sl a2.length (a2.map f32)]) rfl rfl rfl (LOp.loadAgg agg24 siz24 rfl rfl rfl rfl) ?_
  refine ROps.d (r := agg [i64 r7, i64 r8, oref 0 2 0 r9.length]) (fs := [(0, (r9.map f32))]) (Γ' := [⟨2, some (r9.map f32)⟩, ⟨0, none⟩]) rfl rfl rfl (TOp.callBN (ls := [(r9.map f32)]) [0] (CallAs.func ent7 rfl rfl) (Bors.cons (Bor.agg (Bors.cons (Bor.pure rfl) (Bors.cons (Bor.pure rfl) (Bors.cons (Bor.sl (fun _ => rfl)) Bors.nil)))) Bors.nil) rfl (w_toMatrix_ok a0 a1 a2 r7 r8 r9 hf5) (and_all (lts0_map (f := f32) (fun _ => rfl) _) rfl) (and_all (noss_map (f := f32) (fun _ => rfl) _) rfl) rfl (by decide) (ns_of ⟨⟨_, rfl⟩, trivial⟩)) rfl ?_
  refine ROps.d (r := optr 1 1 0) (fs := [(1, [i64 0, i64 0, nilsl])]) (Γ' := [⟨2, some (r9.map f32)⟩, ⟨1, some [i64 0, i64 0, nilsl]⟩]) rfl rfl rfl (TOp.alloc_o (g := ⟨0, none⟩) 1 rfl zer26 zok26 rfl) rfl ?_
  refine ROps.store_le (r := agg [i64 r7, i64 r8, oref 0 2 0 r9.length]) (l' := [i64 r7, i64 r8, oref 0 2 0 r9.length]) (Γ' := [⟨2, some (r9.map f32)⟩, ⟨1, some [i64 r7, i64 r8, oref 0 2 0 r9.length]⟩]) rfl siz26 rfl rfl rfl aR rfl rfl rfl rfl (Nat.le_of_ble_eq_true rfl) rfl rfl ?_
  refine zN ?_
  refine RunC.seq ?_
  obtain ⟨r10, r11, hf6, h⟩ := obind2_some h
  refine RunC.regionW ?_
  refine ROps.d (r := agg [i64 r7, i64 r8, oref 0 2 0 r9.length]) (fs := []) (Γ' := [⟨2, some (r9.map f32)⟩, ⟨1, some [i64 r7, i64 r8, oref 0 2 0 r9.length]⟩]) rfl rfl rfl (TOp.loadAgg_o rfl agg26 siz26 rfl rfl rfl rfl) rfl ?_
  refine ROps.d (r := tup [f32 r10, b r11]) (fs := []) (Γ' := [⟨2, some (r9.map f32)⟩, ⟨1, some [i64 r7, i64 r8, oref 0 2 0 r9.length]⟩]) rfl rfl rfl (TOp.callB (CallAs.func ent13 rfl rfl) (Bors.cons (Bor.agg (Bors.cons (Bor.pure rfl) (Bors.cons (Bor.pure rfl) (Bors.cons (Bor.own (f := f32) (fun _ => rfl) rfl rfl) Bors.nil)))) Bors.nil) rfl rfl (i_ConditionOf_ok r7 r8 r9 r10 r11 hf6)) rfl ?_
  refine zM (r := tup [f32 r10, b r11]) rfl rfl rfl rfl rfl ?_
  refine zL (r := f32 r10) rfl rfl rfl (LOp.extract rfl rfl rfl) ?_
  refine zL (r := b r11) rfl rfl rfl (LOp.extract rfl rfl rfl) ?_
  refine zA (r := f32 r10) rfl rfl rfl rfl rfl ?_
  refine zA (r := b r11) rfl rfl rfl rfl rfl ?_
  refine zN ?_
  refine RunC.seq ?_
  refine RunC.seq ?_
  obtain ⟨x12, hx7, h⟩ := olet_some h
  obtain ⟨x13, hx8, h⟩ := olet_some h
  obtain ⟨r14, hf9, h⟩ := obind_some h
  rcases bsel_some h with ⟨hc10, h⟩ | ⟨hc10, h⟩
  ·rcases bsel_some h with ⟨hc11, h⟩ | ⟨hc11, h⟩
   ·refine RunC.regionW ?_
    refine zM (r := f32 r10) rfl rfl rfl rfl rfl ?_
    refine ROps.d (r := f64 x12) (fs := []) (Γ' := [⟨2, some (r9.map f32)⟩, ⟨1, some [i64 r7, i64 r8, oref 0 2 0 r9.length]⟩]) rfl rfl rfl (TOp.eqr (TOp.widen (src := 33) (dst := 37) ⟨_, pun33⟩ pun37 rfl (OpF.tmp rfl)) (congrArg (f .f64) hx7)) rfl ?_
    refine zM (r := f32 r5) rfl rfl rfl rfl rfl ?_
    refine ROps.d (r := f64 x13) (fs := []) (Γ' := [⟨2, some (r9.map f32)⟩, ⟨1, some [i64 r7, i64 r8, oref 0 2 0 r9.length]⟩]) rfl rfl rfl (TOp.eqr (TOp.widen (src := 33) (dst := 37) ⟨_, pun33⟩ pun37 rfl (OpF.tmp rfl)) (congrArg (f .f64) hx8)) rfl ?_
    refine ROps.d (r := b true) (fs := []) (Γ' := [⟨2, some (r9.map f32)⟩, ⟨1, some [i64 r7, i64 r8, oref 0 2 0 r9.length]⟩]) rfl rfl rfl (TOp.eqb (TOp.callB (CallAs.func ent14 rfl rfl) (Bors.cons (Bor.pure rfl) (Bors.cons (Bor.pure rfl) Bors.nil)) rfl rfl (w_sameFloat_ok x12 x13 r14 hf9)) hc10) rfl ?_
    refine zL (r := b false) rfl rfl rfl (LOp.eqb (LOp.not rfl rfl) rfl) ?_
    refine zM (r := b false) rfl rfl rfl rfl rfl ?_
    refine zM (r := b r11) rfl rfl rfl rfl rfl ?_
    refine zM (r := b r6) rfl rfl rfl rfl rfl ?_
    refine zL (r := b true) rfl rfl rfl (LOp.eqb (LOp.neqb pun4 rfl rfl rfl) hc11) ?_
    refine zL (r := b true) rfl rfl rfl (LOp.pick_false rfl rfl rfl) ?_
    refine zN ?_
    refine RunC.wl (τ' := [(1, ptr [i64 a0, i64 a1, sl a2.length (a2.map f32)]), (6, optr 1 1 0), (37, b true)]) (Γ' := [⟨2, some (r9.map f32)⟩, ⟨1, some [i64 r7, i64 r8, oref 0 2 0 r9.length]⟩]) ⟨aR, aR, aR, trivial⟩ ⟨⟨rfl, .inr rfl⟩, ⟨rfl, .inr rfl⟩, trivial⟩ ?_
    refine RunC.cond_true rfl rfl ?_
    refine zQ ?_
    refine zA (r := b false) rfl rfl rfl rfl rfl ?_
    refine zN ?_
    refine RunC.ret ?_
    have hq := Option.some.inj h
    subst q0
    exact bodyQ.pure (.inr rfl) rfl (Res.one rfl (RV.tmp rfl))
   ·refine RunC.regionW ?_
    refine zM (r := f32 r10) rfl rfl rfl rfl rfl ?_
    refine ROps.d (r := f64 x12) (fs := []) (Γ' := [⟨2, some (r9.map f32)⟩, ⟨1, some [i64 r7, i64 r8, oref 0 2 0 r9.length]⟩]) rfl rfl rfl (TOp.eqr (TOp.widen (src := 33) (dst := 37) ⟨_, pun33⟩ pun37 rfl (OpF.tmp rfl)) (congrArg (f .f64) hx7)) rfl ?_
    refine zM (r := f32 r5) rfl rfl rfl rfl rfl ?_
    refine ROps.d (r := f64 x13) (fs := []) (Γ' := [⟨2, some (r9.map f32)⟩, ⟨1, some [i64 r7, i64 r8, oref 0 2 0 r9.length]⟩]) rfl rfl rfl (TOp.eqr (TOp.widen (src := 33) (dst := 37) ⟨_, pun33⟩ pun37 rfl (OpF.tmp rfl)) (congrArg (f .f64) hx8)) rfl ?_
    refine ROps.d (r := b true) (fs := []) (Γ' := [⟨2, some (r9.map f32)⟩, ⟨1, some [i64 r7, i64 r8, oref 0 2 0 r9.length]⟩]) rfl rfl rfl (TOp.eqb (TOp.callB (CallAs.func ent14 rfl rfl) (Bors.cons (Bor.pure rfl) (Bors.cons (Bor.pure rfl) Bors.nil)) rfl rfl (w_sameFloat_ok x12 x13 r14 hf9)) hc10) rfl ?_
    refine zL (r := b false) rfl rfl rfl (LOp.eqb (LOp.not rfl rfl) rfl) ?_
    refine zM (r := b false) rfl rfl rfl rfl rfl ?_
    refine zM (r := b r11) rfl rfl rfl rfl rfl ?_
    refine zM (r := b r6) rfl rfl rfl rfl rfl ?_
    refine zL (r := b false) rfl rfl rfl (LOp.eqb (LOp.neqb pun4 rfl rfl rfl) hc11) ?_
    refine zL (r := b false) rfl rfl rfl (LOp.pick_false rfl rfl rfl) ?_
    refine zN ?_
    refine RunC.wl (τ' := [(1, ptr [i64 a0, i64 a1, sl a2.length (a2.map f32)]), (6, optr 1 1 0), (37, b false)]) (Γ' := [⟨2, some (r9.map f32)⟩, ⟨1, some [i64 r7, i64 r8, oref 0 2 0 r9.length]⟩]) ⟨aR, aR, aR, trivial⟩ ⟨⟨rfl, .inr rfl⟩, ⟨rfl, .inr rfl⟩, trivial⟩ ?_
    refine RunC.cond_false rfl rfl ?_
    refine RunC.skip ?_
    refine RunC.seq ?_
    refine RunC.seq ?_
    obtain ⟨r15, r16, r17, hf12, h⟩ := obind3_some h
    obtain ⟨r18, hf13, h⟩ := obind_some h
    rcases bsel_some h with ⟨hc14, h⟩ | ⟨hc14, h⟩
    ·refine RunC.region_draw (Γ' := [⟨2, some (r9.map f32)⟩, ⟨1, some [i64 r7, i64 r8, oref 0 2 0 r9.length]⟩]) 5 mixed 
      (TR.d (r := agg [i64 r7, i64 r8, oref 0 2 0 r9.length]) (fs := []) rfl rfl (TOp.loadAgg_o rfl agg26 siz26 rfl rfl rfl rfl) <|
      (TR.l (r := agg [i64 a0, i64 a1, sl a2.length (a2.map f32)]) rfl rfl (LOp.loadAgg agg24 siz24 rfl rfl rfl rfl) <|
      (TR.d (r := agg [i64 r15, i64 r16, sl r17.length (r17.map f32)]) (fs := []) rfl rfl (TOp.callS (CallAs.func ent7 rfl rfl) (ALes.cons aR ALes.nil) (lts_cons (lt_agg (lts_cons rfl (lts_cons rfl (lts_cons (lt_sl (fun _ => rfl)) lts_nil)))) lts_nil) (lt_agg (lts_cons rfl (lts_cons rfl (lts_cons (lt_sl (fun _ => rfl)) lts_nil)))) (w_toMatrix_ok a0 a1 a2 r15 r16 r17 hf12) (Bor.agg (Bors.cons (Bor.pure rfl) (Bors.cons (Bor.pure rfl) (Bors.cons (Bor.own (f := f32) (fun _ => rfl) rfl rfl) Bors.nil))))) <|
      (TR.d (r := b true) (fs := []) rfl rfl (TOp.eqb (TOp.callB (CallAs.func ent9 rfl rfl) (Bors.cons (Bor.agg (Bors.cons (Bor.pure rfl) (Bors.cons (Bor.pure rfl) (Bors.cons (Bor.own (f := f32) (fun _ => rfl) rfl rfl) Bors.nil)))) (Bors.cons (Bor.agg (Bors.cons (Bor.pure rfl) (Bors.cons (Bor.pure rfl) (Bors.cons (Bor.sl (fun _ => rfl)) Bors.nil)))) Bors.nil)) rfl rfl (w_eqMatrix_ok r7 r8 r9 r15 r16 r17 r18 hf13)) hc14) <|
      (TR.l (r := b false) rfl rfl (LOp.eqb (LOp.not rfl rfl) rfl) <|
      TR.nil))))) rfl (by kernel_rfl) rfl fills_nil rfl ?_
     iterate 5 refine ROps.dropS ?_
     refine ROps.drop0 ?_
     refine zN ?_
     refine RunC.wl (τ' := [(42, b false)]) (Γ' := [⟨2, none⟩, ⟨1, none⟩]) ⟨aR, trivial⟩ ⟨⟨rfl, .inl rfl⟩, ⟨rfl, .inl rfl⟩, trivial⟩ ?_
     refine RunC.cond_false rfl rfl ?_
     refine RunC.skip ?_
     refine zQ ?_
     refine zA (r := b true) rfl rfl rfl rfl rfl ?_
     refine zN ?_
     refine RunC.ret ?_
     have hq := Option.some.inj h
     subst q0
     exact bodyQ.pure (.inr rfl) rfl (Res.one rfl (RV.tmp rfl))
    ·refine RunC.region_draw (Γ' := [⟨2, some (r9.map f32)⟩, ⟨1, some [i64 r7, i64 r8, oref 0 2 0 r9.length]⟩]) 5 mixed 
      (TR.d (r := agg [i64 r7, i64 r8, oref 0 2 0 r9.length]) (fs := []) rfl rfl (TOp.loadAgg_o rfl agg26 siz26 rfl rfl rfl rfl) <|
      (TR.l (r := agg [i64 a0, i64 a1, sl a2.length (a2.map f32)]) rfl rfl (LOp.loadAgg agg24 siz24 rfl rfl rfl rfl) <|
      (TR.d (r := agg [i64 r15, i64 r16, sl r17.length (r17.map f32)]) (fs := []) rfl rfl (TOp.callS (CallAs.func ent7 rfl rfl) (ALes.cons aR ALes.nil) (lts_cons (lt_agg (lts_cons rfl (lts_cons rfl (lts_cons (lt_sl (fun _ => rfl)) lts_nil)))) lts_nil) (lt_agg (lts_cons rfl (lts_cons rfl (lts_cons (lt_sl (fun _ => rfl)) lts_nil)))) (w_toMatrix_ok a0 a1 a2 r15 r16 r17 hf12) (Bor.agg (Bors.cons (Bor.pure rfl) (Bors.cons (Bor.pure rfl) (Bors.cons (Bor.own (f := f32) (fun _ => rfl) rfl rfl) Bors.nil))))) <|
      (TR.d (r := b false) (fs := []) rfl rfl (TOp.eqb (TOp.callB (CallAs.func ent9 rfl rfl) (Bors.cons (Bor.agg (Bors.cons (Bor.pure rfl) (Bors.cons (Bor.pure rfl) (Bors.cons (Bor.own (f := f32) (fun _ => rfl) rfl rfl) Bors.nil)))) (Bors.cons (Bor.agg (Bors.cons (Bor.pure rfl) (Bors.cons (Bor.pure rfl) (Bors.cons (Bor.sl (fun _ => rfl)) Bors.nil)))) Bors.nil)) rfl rfl (w_eqMatrix_ok r7 r8 r9 r15 r16 r17 r18 hf13)) hc14) <|
      (TR.l (r := b true) rfl rfl (LOp.eqb (LOp.not rfl rfl) rfl) <|
      TR.nil))))) rfl (by kernel_rfl) rfl fills_nil rfl ?_
     iterate 5 refine ROps.dropS ?_
     refine ROps.drop0 ?_
     refine zN ?_
     refine RunC.wl (τ' := [(42, b true)]) (Γ' := [⟨2, none⟩, ⟨1, none⟩]) ⟨aR, trivial⟩ ⟨⟨rfl, .inl rfl⟩, ⟨rfl, .inl rfl⟩, trivial⟩ ?_
     refine RunC.cond_true rfl rfl ?_
     refine zQ ?_
     refine zA (r := b false) rfl rfl rfl rfl rfl ?_
     refine zN ?_
     refine RunC.ret ?_
     have hq := Option.some.inj h
     subst q0
     exact bodyQ.pure (.inr rfl) rfl (Res.one rfl (RV.tmp rfl))
  ·refine RunC.regionW ?_
   refine zM (r := f32 r10) rfl rfl rfl rfl rfl ?_
   refine ROps.d (r := f64 x12) (fs := []) (Γ' := [⟨2, some (r9.map f32)⟩, ⟨1, some [i64 r7, i64 r8, oref 0 2 0 r9.length]⟩]) rfl rfl rfl (TOp.eqr (TOp.widen (src := 33) (dst := 37) ⟨_, pun33⟩ pun37 rfl (OpF.tmp rfl)) (congrArg (f .f64) hx7)) rfl ?_
   refine zM (r := f32 r5) rfl rfl rfl rfl rfl ?_
   refine ROps.d (r := f64 x13) (fs := []) (Γ' := [⟨2, some (r9.map f32)⟩, ⟨1, some [i64 r7, i64 r8, oref 0 2 0 r9.length]⟩]) rfl rfl rfl (TOp.eqr (TOp.widen (src := 33) (dst := 37) ⟨_, pun33⟩ pun37 rfl (OpF.tmp rfl)) (congrArg (f .f64) hx8)) rfl ?_
   refine ROps.d (r := b false) (fs := []) (Γ' := [⟨2, some (r9.map f32)⟩, ⟨1, some [i64 r7, i64 r8, oref 0 2 0 r9.length]⟩]) rfl rfl rfl (TOp.eqb (TOp.callB (CallAs.func ent14 rfl rfl) (Bors.cons (Bor.pure rfl) (Bors.cons (Bor.pure rfl) Bors.nil)) rfl rfl (w_sameFloat_ok x12 x13 r14 hf9)) hc10) rfl ?_
   refine zL (r := b true) rfl rfl rfl (LOp.eqb (LOp.not rfl rfl) rfl) ?_
   refine zM (r := b true) rfl rfl rfl rfl rfl ?_
   refine ROps.s rfl rfl rfl ?_
   refine ROps.s rfl rfl rfl ?_
   refine ROps.s rfl rfl rfl ?_
   refine zL (r := b true) rfl rfl rfl (LOp.pick_true rfl rfl rfl) ?_
   refine zN ?_
   refine RunC.wl (τ' := [(1, ptr [i64 a0, i64 a1, sl a2.length (a2.map f32)]), (6, optr 1 1 0), (37, b true)]) (Γ' := [⟨2, some (r9.map f32)⟩, ⟨1, some [i64 r7, i64 r8, oref 0 2 0 r9.length]⟩]) ⟨aR, aR, aR, trivial⟩ ⟨⟨rfl, .inr rfl⟩, ⟨rfl, .inr rfl⟩, trivial⟩ ?_
   refine RunC.cond_true rfl rfl ?_
   refine zQ ?_
   refine zA (r := b false) rfl rfl rfl rfl rfl ?_
   refine zN ?_
   refine RunC.ret ?_
   have hq := Option.some.inj h
   subst q0
   exact bodyQ.pure (.inr rfl) rfl (Res.one rfl (RV.tmp rfl))
end Go.Proofs.YtcoookgeialmnaaGreat
