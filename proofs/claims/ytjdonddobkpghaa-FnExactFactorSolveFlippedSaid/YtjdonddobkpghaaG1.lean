/- Generated. -/
import Derived.Test.YtjdonddobkpghaaG0
namespace Go.Proofs.Ytjdonddobkpghaa
open Go Go.AM Go.AM.AV
set_option maxRecDepth 20000
set_option maxHeartbeats 4000000
set_option linter.unusedVariables false
set_option linter.unusedSimpArgs false
noncomputable def i_isPermutation_b1 (r2 : List Int) (v3 : Int) : Option (LR (Int) (Unit) (Bool)) :=
 bsel (decide (v3 < ((r2.length : Nat) : Int))) (
  obind (at? r2 v3) fun (e4 : Int) =>
  bsel (!decide (e4 = v3)) (
   some (LR.ret false)) (
   olet (IntKind.i64.wrap (v3 + 1)) fun (x5 : Int) =>
   some (LR.next x5))) (
  some (LR.out ()))
noncomputable def i_isPermutation_s1 (r2 : List Int) : (Int) → Option (LR (Int) (Unit) (Bool)) := fun s => i_isPermutation_b1 r2 s
noncomputable def i_isPermutation_k1  : Option (Bool) :=
 some true
noncomputable def i_isPermutation (a0 : List Int) : Option (Bool) :=
 obind (x_slices_Values_int64_int64 a0) fun (r1 : List Int) =>
 obind (x_slices_Sorted_int64_0Fx_slices_Values_int64_int64_1 r1) fun (r2 : List Int) =>
 obind (loopM (i_isPermutation_s1 r2) 0) fun z => osum z (fun _ => i_isPermutation_k1) (fun r => some r)
theorem i_isPermutation_ok (a0 : List Int) (q0 : Bool) (h : i_isPermutation a0 = some q0) : Ev Try.prog 64 [sl a0.length (a0.map i64)] [] (b q0) [] := by
 refine Ev.start Try.func64 rfl rfl 1 (τ := [(0, sl a0.length (a0.map i64))]) rfl (Γ' := [⟨0, none⟩]) rfl (n := 37) rfl (g := 0) rfl (fun _ => rfl) ?_
 unfold i_isPermutation at h
 refine zQ ?_
 refine zA (r := b false) rfl rfl rfl rfl rfl ?_
 refine zN ?_
 refine RunC.seq ?_
 refine RunC.seq ?_
 obtain ⟨r1, hf1, h⟩ := obind_some h
 obtain ⟨r2, hf2, h⟩ := obind_some h
 refine RunC.regionW ?_
 refine zM (r := sl a0.length (a0.map i64)) rfl rfl rfl rfl rfl ?_
 refine ROps.d (r := fn (.func 74) [] [ptr [sl r1.length (r1.map i64)]]) (fs := []) (Γ' := [⟨0, none⟩]) rfl rfl rfl (TOp.call (CallAs.func ent69 rfl rfl) (lts_cons (lt_sl (fun _ => rfl)) lts_nil) (lt_fn lts_nil (lts_cons (lt_ptr (lts_cons (lt_sl (fun _ => rfl)) lts_nil)) lts_nil)) (x_slices_Values_int64_int64_ok a0 r1 hf1)) rfl ?_
 refine ROps.d (r := oref 0 1 0 r2.length) (fs := [(0, (r2.map i64))]) (Γ' := [⟨1, some (r2.map i64)⟩]) rfl rfl rfl (TOp.callBN (ls := [(r2.map i64)]) [0] (CallAs.func ent68 rfl rfl) (Bors.cons (Bor.fn Bors.nil (Bors.cons (Bor.ptr (Bors.cons (Bor.sl (fun _ => rfl)) Bors.nil)) Bors.nil)) Bors.nil) rfl (x_slices_Sorted_int64_0Fx_slices_Values_int64_int64_1_ok r1 r2 hf2) (and_all (lts0_map (f := i64) (fun _ => rfl) _) rfl) (and_all (noss_map (f := i64) (fun _ => rfl) _) rfl) rfl (by decide) (ns_of ⟨⟨_, rfl⟩, trivial⟩)) rfl ?_
 refine zL (r := i64 ((r2.length : Nat) : Int)) rfl rfl rfl (LOp.len_oref und25 rfl rfl) ?_
 refine zM (r := i64 0) rfl rfl rfl rfl rfl ?_
 refine zN ?_
 obtain ⟨z2, hz_2, h⟩ := obind_some h
 refine RunC.cutN (fun τ Γ => WeakLe τ [] ∧ DeadLe Γ [⟨1, none⟩] ∧ z2 = .inl ()) ?_ ?_
 ·refine RunC.block (RunC.loop (RunL.loopM (x := z2) (i_isPermutation_s1 r2) (fun (s : Int) τ Γ => WeakLe τ [(7, oref 0 1 0 r2.length), (8, i64 ((r2.length : Nat) : Int)), (9, i64 s)] ∧ DeadLe Γ [⟨1, some (r2.map i64)⟩]) ?_ _ _ _ hz_2 ⟨⟨aR, aR, aR, trivial⟩, ⟨⟨rfl, .inr rfl⟩, trivial⟩⟩))
  rintro v3 τ2 Γ2 y2_ ⟨hw2, hd2⟩ h2_ ho2 hr2
  refine RunC.wl (τ' := [(7, oref 0 1 0 r2.length), (8, i64 ((r2.length : Nat) : Int)), (9, i64 v3)]) (Γ' := [⟨1, some (r2.map i64)⟩]) hw2 hd2 ?_
  replace h2_ : i_isPermutation_b1 r2 v3 = some y2_ := h2_
  unfold i_isPermutation_b1 at h2_
  refine RunC.seq ?_
  rcases bsel_some h2_ with ⟨hc3, h2_⟩ | ⟨hc3, h2_⟩
  ·refine RunC.regionW ?_
   refine zL (r := b true) rfl rfl rfl (LOp.eqb (LOp.lss rfl rfl rfl) hc3) ?_
   refine zN ?_
   refine RunC.seq ?_
   refine RunC.cond_true rfl rfl ?_
   refine RunC.skip ?_
   refine RunC.seq ?_
   refine RunC.block ?_
   refine RunC.seq ?_
   obtain ⟨e4, he4, h2_⟩ := obind_some h2_
   refine RunC.regionW ?_
   refine zM (r := i64 v3) rfl rfl rfl rfl rfl ?_
   refine ROps.d (r := optr 0 1 v3.toNat) (fs := []) (Γ' := [⟨1, some (r2.map i64)⟩]) rfl rfl rfl (TOp.ixo und25 siz2 rfl rfl rfl (at_in he4 rfl) rfl) rfl ?_
   refine ROps.d (r := i64 e4) (fs := []) (Γ' := [⟨1, some (r2.map i64)⟩]) rfl rfl rfl (TOp.load1_o rfl (at_cell he4) agg2 rfl rfl) rfl ?_
   refine zA (r := i64 v3) rfl rfl rfl rfl rfl ?_
   refine zA (r := i64 e4) rfl rfl rfl rfl rfl ?_
   refine zN ?_
   refine RunC.seq ?_
   rcases bsel_some h2_ with ⟨hc5, h2_⟩ | ⟨hc5, h2_⟩
   ·refine RunC.regionW ?_
    refine zM (r := i64 e4) rfl rfl rfl rfl rfl ?_
    refine zM (r := i64 v3) rfl rfl rfl rfl rfl ?_
    refine zL (r := b true) rfl rfl rfl (LOp.eqb (LOp.neq rfl rfl rfl) hc5) ?_
    refine zN ?_
    refine RunC.cond_true rfl rfl ?_
    refine zQ ?_
    refine zA (r := b false) rfl rfl rfl rfl rfl ?_
    refine zN ?_
    refine RunC.ret ?_
    cases Option.some.inj h2_
    have hx3_ := hr2 _ rfl
    subst hx3_
    have hq := Option.some.inj h
    subst q0
    exact bodyQ.pure (.inr rfl) rfl (Res.one rfl (RV.tmp rfl))
   ·refine RunC.regionW ?_
    refine zM (r := i64 e4) rfl rfl rfl rfl rfl ?_
    refine zM (r := i64 v3) rfl rfl rfl rfl rfl ?_
    refine zL (r := b false) rfl rfl rfl (LOp.eqb (LOp.neq rfl rfl rfl) hc5) ?_
    refine zN ?_
    refine RunC.cond_false rfl rfl ?_
    refine RunC.skip ?_
    obtain ⟨x5, hx6, h2_⟩ := olet_some h2_
    refine RunC.regionW ?_
    refine zL (r := i64 x5) rfl rfl rfl (LOp.eqr (LOp.add rfl rfl rfl) (congrArg (ik .i64) hx6)) ?_
    refine zM (r := i64 x5) rfl rfl rfl rfl rfl ?_
    refine zN ?_
    cases Option.some.inj h2_
    exact ⟨_, rfl, ⟨aR, aR, aR, trivial⟩, ⟨⟨rfl, .inr rfl⟩, trivial⟩⟩
  ·refine RunC.regionW ?_
   refine zL (r := b false) rfl rfl rfl (LOp.eqb (LOp.lss rfl rfl rfl) hc3) ?_
   refine zN ?_
   refine RunC.seq ?_
   refine RunC.cond_false rfl rfl ?_
   refine RunC.exit ?_
   cases Option.some.inj h2_
   have hx := ho2 _ rfl
   exact ⟨trivial, ⟨⟨rfl, .inl rfl⟩, trivial⟩, hx⟩
 ·rintro τ4 Γ4 ⟨hw4, hd4, rfl⟩
  refine RunC.wl hw4 hd4 ?_
  replace h : i_isPermutation_k1 = some q0 := h
  unfold i_isPermutation_k1 at h
  refine zQ ?_
  refine zA (r := b true) rfl rfl rfl rfl rfl ?_
  refine zN ?_
  refine RunC.ret ?_
  have hq := Option.some.inj h
  subst q0
  exact bodyQ.pure (.inr rfl) rfl (Res.one rfl (RV.tmp rfl))
noncomputable def i_IsOrder (a0 : List Int) : Option (Bool) :=
 obind (i_length_int64 a0) fun (r1 : Int) =>
 obind (i_isSide r1) fun (r2 : Bool) =>
 bsel r2 (
  obind (i_isPermutation a0) fun (r3 : Bool) =>
  some r3) (
  some false)
theorem i_IsOrder_ok (a0 : List Int) (q0 : Bool) (h : i_IsOrder a0 = some q0) : Ev Try.prog 53 [sl a0.length (a0.map i64)] [] (b q0) [] := by
 refine Ev.start Try.func53 rfl rfl 0 (τ := [(0, sl a0.length (a0.map i64))]) rfl (Γ' := []) rfl (n := 21) rfl (g := 0) rfl (fun _ => rfl) ?_
 unfold i_IsOrder at h
 refine zQ ?_
 refine zA (r := b false) rfl rfl rfl rfl rfl ?_
 refine zN ?_
 refine RunC.seq ?_
 obtain ⟨r1, hf1, h⟩ := obind_some h
 obtain ⟨r2, hf2, h⟩ := obind_some h
 rcases bsel_some h with ⟨hc3, h⟩ | ⟨hc3, h⟩
 ·obtain ⟨r3, hf4, h⟩ := obind_some h
  refine RunC.regionW ?_
  refine zM (r := sl a0.length (a0.map i64)) rfl rfl rfl rfl rfl ?_
  refine ROps.d (r := i64 r1) (fs := []) (Γ' := []) rfl rfl rfl (TOp.callB (CallAs.func ent54 rfl rfl) (Bors.cons (Bor.sl (fun _ => rfl)) Bors.nil) rfl rfl (i_length_int64_ok a0 r1 hf1)) rfl ?_
  refine ROps.d (r := b true) (fs := []) (Γ' := []) rfl rfl rfl (TOp.eqb (TOp.callB (CallAs.func ent63 rfl rfl) (Bors.cons (Bor.pure rfl) Bors.nil) rfl rfl (i_isSide_ok r1 r2 hf2)) hc3) rfl ?_
  refine zM (r := b true) rfl rfl rfl rfl rfl ?_
  refine zM (r := sl a0.length (a0.map i64)) rfl rfl rfl rfl rfl ?_
  refine ROps.d (r := b r3) (fs := []) (Γ' := []) rfl rfl rfl (TOp.callB (CallAs.func ent64 rfl rfl) (Bors.cons (Bor.sl (fun _ => rfl)) Bors.nil) rfl rfl (i_isPermutation_ok a0 r3 hf4)) rfl ?_
  refine zL (r := b r3) rfl rfl rfl (LOp.pick_true rfl rfl rfl) ?_
  refine zA (r := b r3) rfl rfl rfl rfl rfl ?_
  refine zN ?_
  refine RunC.ret ?_
  have hq := Option.some.inj h
  subst q0
  exact bodyQ.pure (.inr rfl) rfl (Res.one rfl (RV.tmp rfl))
 ·refine RunC.regionW ?_
  refine zM (r := sl a0.length (a0.map i64)) rfl rfl rfl rfl rfl ?_
  refine ROps.d (r := i64 r1) (fs := []) (Γ' := []) rfl rfl rfl (TOp.callB (CallAs.func ent54 rfl rfl) (Bors.cons (Bor.sl (fun _ => rfl)) Bors.nil) rfl rfl (i_length_int64_ok a0 r1 hf1)) rfl ?_
  refine ROps.d (r := b false) (fs := []) (Γ' := []) rfl rfl rfl (TOp.eqb (TOp.callB (CallAs.func ent63 rfl rfl) (Bors.cons (Bor.pure rfl) Bors.nil) rfl rfl (i_isSide_ok r1 r2 hf2)) hc3) rfl ?_
  refine zM (r := b false) rfl rfl rfl rfl rfl ?_
  refine ROps.s rfl rfl rfl ?_
  refine ROps.s rfl rfl rfl ?_
  refine zL (r := b false) rfl rfl rfl (LOp.pick_false rfl rfl rfl) ?_
  refine zA (r := b false) rfl rfl rfl rfl rfl ?_
  refine zN ?_
  refine RunC.ret ?_
  have hq := Option.some.inj h
  subst q0
  exact bodyQ.pure (.inr rfl) rfl (Res.one rfl (RV.tmp rfl))
noncomputable def i_ValidFactor (a0 : Int) (a1 : Int) (a2 : List F) (a3 : List Int) : Option (Bool) :=
 obind (i_isSquare a0 a1 a2) fun (r1 : Bool) =>
 bsel r1 (
  obind (i_Matrix_middle a0 a1 a2) fun (r2 : List F) =>
  obind (x_slices_Contains_float32_float32 r2 (some 0)) fun (r3 : Bool) =>
  bsel r3 (
   some false) (
   obind (i_IsOrder a3) fun (r4 : Bool) =>
   bsel r4 (
    obind (i_length_int64 a3) fun (r5 : Int) =>
    some (decide (r5 = a0))) (
    some false))) (
  some false)
theorem i_ValidFactor_ok (a0 : Int) (a1 : Int) (a2 : List F) (a3 : List Int) (q0 : Bool) (h : i_ValidFactor a0 a1 a2 a3 = some q0) : Ev Try.prog 40 [agg [i64 a0, i64 a1, sl a2.length (a2.map f32), sl a3.length (a3.map i64)]] [] (b q0) [] := by
 refine Ev.start Try.func40 rfl rfl 0 (τ := [(0, agg [i64 a0, i64 a1, sl a2.length (a2.map f32), sl a3.length (a3.map i64)])]) rfl (Γ' := []) rfl (n := 55) rfl (g := 0) rfl (fun _ => rfl) ?_
 unfold i_ValidFactor at h
 refine zQ ?_
 refine ROps.d (r := ptr [i64 a0, i64 a1, sl a2.length (a2.map f32), sl a3.length (a3.map i64)]) (fs := []) (Γ' := []) rfl rfl rfl (TOp.box_s rfl rfl rfl) rfl ?_
 refine zA (r := b false) rfl rfl rfl rfl rfl ?_
 refine zN ?_
 refine RunC.seq ?_
 obtain ⟨r1, hf1, h⟩ := obind_some h
 rcases bsel_some h with ⟨hc2, h⟩ | ⟨hc2, h⟩
 ·obtain ⟨r2, hf3, h⟩ := obind_some h
  obtain ⟨r3, hf4, h⟩ := obind_some h
  rcases bsel_some h with ⟨hc5, h⟩ | ⟨hc5, h⟩
  ·refine RunC.region_draw (Γ' := []) 25 mixed 
    (TR.l (r := ptr [i64 a0, i64 a1, sl a2.length (a2.map f32), sl a3.length (a3.map i64)]) rfl rfl (LOp.fap und33 rfl siz31 rfl rfl rfl) <|
    (TR.l (r := agg [i64 a0, i64 a1, sl a2.length (a2.map f32)]) rfl rfl (LOp.loadAgg agg31 siz31 rfl rfl rfl rfl) <|
    (TR.d (r := b true) (fs := []) rfl rfl (TOp.eqb (TOp.callB (CallAs.func ent50 rfl rfl) (Bors.cons (Bor.agg (Bors.cons (Bor.pure rfl) (Bors.cons (Bor.pure rfl) (Bors.cons (Bor.sl (fun _ => rfl)) Bors.nil)))) Bors.nil) rfl rfl (i_isSquare_ok a0 a1 a2 r1 hf1)) hc2) <|
    (TR.l (r := b true) rfl rfl (LOp.move rfl rfl) <|
    (TR.l (r := ptr [i64 a0, i64 a1, sl a2.length (a2.map f32), sl a3.length (a3.map i64)]) rfl rfl (LOp.fap und33 rfl siz31 rfl rfl rfl) <|
    (TR.l (r := agg [i64 a0, i64 a1, sl a2.length (a2.map f32)]) rfl rfl (LOp.loadAgg agg31 siz31 rfl rfl rfl rfl) <|
    (TR.d (r := sl r2.length (r2.map f32)) (fs := []) rfl rfl (TOp.callS (CallAs.func ent52 rfl rfl) (ALes.cons aR ALes.nil) (lts_cons (lt_agg (lts_cons rfl (lts_cons rfl (lts_cons (lt_sl (fun _ => rfl)) lts_nil)))) lts_nil) (lt_sl (fun _ => rfl)) (i_Matrix_middle_ok a0 a1 a2 r2 hf3) (Bor.own (f := f32) (fun _ => rfl) rfl rfl)) <|
    (TR.d (r := b true) (fs := []) rfl rfl (TOp.eqb (TOp.callB (CallAs.func ent51 rfl rfl) (Bors.cons (Bor.sl (fun _ => rfl)) (Bors.cons (Bor.le (ALe.fl (by kernel_rfl) (by kernel_rfl)) (Bor.pure rfl)) Bors.nil)) rfl rfl (x_slices_Contains_float32_float32_ok r2 (some 0) r3 hf4)) hc5) <|
    (TR.l (r := b false) rfl rfl (LOp.eqb (LOp.not rfl rfl) rfl) <|
    (TR.l (r := b false) rfl rfl (LOp.pick_true rfl rfl rfl) <|
    (TR.l (r := b false) rfl rfl (LOp.move rfl rfl) <|
    (TR.s rfl rfl <|
    (TR.s rfl rfl <|
    (TR.s rfl rfl <|
    (TR.l (r := b false) rfl rfl (LOp.pick_false rfl rfl rfl) <|
    (TR.l (r := b false) rfl rfl (LOp.move rfl rfl) <|
    (TR.s rfl rfl <|
    (TR.s rfl rfl <|
    (TR.s rfl rfl <|
    (TR.s rfl rfl <|
    (TR.s rfl rfl <|
    (TR.s rfl rfl <|
    (TR.s rfl rfl <|
    (TR.l (r := b false) rfl rfl (LOp.pick_false rfl rfl rfl) <|
    (TR.l (r := b false) rfl rfl (LOp.assign rfl rfl) <|
    TR.nil))))))))))))))))))))))))) rfl (by kernel_rfl) rfl fills_nil rfl ?_
   iterate 25 refine ROps.dropS ?_
   refine ROps.drop0 ?_
   refine zN ?_
   refine RunC.ret ?_
   have hq := Option.some.inj h
   subst q0
   exact bodyQ.pure (.inr rfl) rfl (Res.one rfl (RV.tmp rfl))
  ·obtain ⟨r4, hf6, h⟩ := obind_some h
   rcases bsel_some h with ⟨hc7, h⟩ | ⟨hc7, h⟩
   ·obtain ⟨r5, hf8, h⟩ := obind_some h
    refine RunC.region_draw (Γ' := []) 25 mixed 
     (TR.l (r := ptr [i64 a0, i64 a1, sl a2.length (a2.map f32), sl a3.length (a3.map i64)]) rfl rfl (LOp.fap und33 rfl siz31 rfl rfl rfl) <|
     (TR.l (r := agg [i64 a0, i64 a1, sl a2.length (a2.map f32)]) rfl rfl (LOp.loadAgg agg31 siz31 rfl rfl rfl rfl) <|
     (TR.d (r := b true) (fs := []) rfl rfl (TOp.eqb (TOp.callB (CallAs.func ent50 rfl rfl) (Bors.cons (Bor.agg (Bors.cons (Bor.pure rfl) (Bors.cons (Bor.pure rfl) (Bors.cons (Bor.sl (fun _ => rfl)) Bors.nil)))) Bors.nil) rfl rfl (i_isSquare_ok a0 a1 a2 r1 hf1)) hc2) <|
     (TR.l (r := b true) rfl rfl (LOp.move rfl rfl) <|
     (TR.l (r := ptr [i64 a0, i64 a1, sl a2.length (a2.map f32), sl a3.length (a3.map i64)]) rfl rfl (LOp.fap und33 rfl siz31 rfl rfl rfl) <|
     (TR.l (r := agg [i64 a0, i64 a1, sl a2.length (a2.map f32)]) rfl rfl (LOp.loadAgg agg31 siz31 rfl rfl rfl rfl) <|
     (TR.d (r := sl r2.length (r2.map f32)) (fs := []) rfl rfl (TOp.callS (CallAs.func ent52 rfl rfl) (ALes.cons aR ALes.nil) (lts_cons (lt_agg (lts_cons rfl (lts_cons rfl (lts_cons (lt_sl (fun _ => rfl)) lts_nil)))) lts_nil) (lt_sl (fun _ => rfl)) (i_Matrix_middle_ok a0 a1 a2 r2 hf3) (Bor.own (f := f32) (fun _ => rfl) rfl rfl)) <|
     (TR.d (r := b false) (fs := []) rfl rfl (TOp.eqb (TOp.callB (CallAs.func ent51 rfl rfl) (Bors.cons (Bor.sl (fun _ => rfl)) (Bors.cons (Bor.le (ALe.fl (by kernel_rfl) (by kernel_rfl)) (Bor.pure rfl)) Bors.nil)) rfl rfl (x_slices_Contains_float32_float32_ok r2 (some 0) r3 hf4)) hc5) <|
     (TR.l (r := b true) rfl rfl (LOp.eqb (LOp.not rfl rfl) rfl) <|
     (TR.l (r := b true) rfl rfl (LOp.pick_true rfl rfl rfl) <|
     (TR.l (r := b true) rfl rfl (LOp.move rfl rfl) <|
     (TR.l (r := ptr [sl a3.length (a3.map i64)]) rfl rfl (LOp.fap und33 rfl siz25 rfl rfl rfl) <|
     (TR.l (r := sl a3.length (a3.map i64)) rfl rfl (LOp.load1 agg25 rfl rfl) <|
     (TR.d (r := b true) (fs := []) rfl rfl (TOp.eqb (TOp.callB (CallAs.func ent53 rfl rfl) (Bors.cons (Bor.sl (fun _ => rfl)) Bors.nil) rfl rfl (i_IsOrder_ok a3 r4 hf6)) hc7) <|
     (TR.l (r := b true) rfl rfl (LOp.pick_true rfl rfl rfl) <|
     (TR.l (r := b true) rfl rfl (LOp.move rfl rfl) <|
     (TR.l (r := ptr [sl a3.length (a3.map i64)]) rfl rfl (LOp.fap und33 rfl siz25 rfl rfl rfl) <|
     (TR.l (r := sl a3.length (a3.map i64)) rfl rfl (LOp.load1 agg25 rfl rfl) <|
     (TR.d (r := i64 r5) (fs := []) rfl rfl (TOp.callB (CallAs.func ent54 rfl rfl) (Bors.cons (Bor.sl (fun _ => rfl)) Bors.nil) rfl rfl (i_length_int64_ok a3 r5 hf8)) <|
     (TR.l (r := ptr [i64 a0, i64 a1, sl a2.length (a2.map f32), sl a3.length (a3.map i64)]) rfl rfl (LOp.fap und33 rfl siz31 rfl rfl rfl) <|
     (TR.l (r := ptr [i64 a0, i64 a1, sl a2.length (a2.map f32), sl a3.length (a3.map i64)]) rfl rfl (LOp.fap und31 rfl siz2 rfl rfl rfl) <|
     (TR.l (r := i64 a0) rfl rfl (LOp.load1 agg2 rfl rfl) <|
     (TR.l (r := b (decide (r5 = a0))) rfl rfl (LOp.eql rfl rfl rfl) <|
     (TR.l (r := b (decide (r5 = a0))) rfl rfl (LOp.pick_true rfl rfl rfl) <|
     (TR.l (r := b (decide (r5 = a0))) rfl rfl (LOp.assign rfl rfl) <|
     TR.nil))))))))))))))))))))))))) rfl (by kernel_rfl) rfl fills_nil rfl ?_
    iterate 25 refine ROps.dropS ?_
    refine ROps.drop0 ?_
    refine zN ?_
    refine RunC.ret ?_
    have hq := Option.some.inj h
    subst q0
    exact bodyQ.pure (.inr rfl) rfl (Res.one rfl (RV.tmp rfl))
   ·refine RunC.region_draw (Γ' := []) 25 mixed 
     (TR.l (r := ptr [i64 a0, i64 a1, sl a2.length (a2.map f32), sl a3.length (a3.map i64)]) rfl rfl (LOp.fap und33 rfl siz31 rfl rfl rfl) <|
     (TR.l (r := agg [i64 a0, i64 a1, sl a2.length (a2.map f32)]) rfl rfl (LOp.loadAgg agg31 siz31 rfl rfl rfl rfl) <|
     (TR.d (r := b true) (fs := []) rfl rfl (TOp.eqb (TOp.callB (CallAs.func ent50 rfl rfl) (Bors.cons (Bor.agg (Bors.cons (Bor.pure rfl) (Bors.cons (Bor.pure rfl) (Bors.cons (Bor.sl (fun _ => rfl)) Bors.nil)))) Bors.nil) rfl rfl (i_isSquare_ok a0 a1 a2 r1 hf1)) hc2) <|
     (TR.l (r := b true) rfl rfl (LOp.move rfl rfl) <|
     (TR.l (r := ptr [i64 a0, i64 a1, sl a2.length (a2.map f32), sl a3.length (a3.map i64)]) rfl rfl (LOp.fap und33 rfl siz31 rfl rfl rfl) <|
     (TR.l (r := agg [i64 a0, i64 a1, sl a2.length (a2.map f32)]) rfl rfl (LOp.loadAgg agg31 siz31 rfl rfl rfl rfl) <|
     (TR.d (r := sl r2.length (r2.map f32)) (fs := []) rfl rfl (TOp.callS (CallAs.func ent52 rfl rfl) (ALes.cons aR ALes.nil) (lts_cons (lt_agg (lts_cons rfl (lts_cons rfl (lts_cons (lt_sl (fun _ => rfl)) lts_nil)))) lts_nil) (lt_sl (fun _ => rfl)) (i_Matrix_middle_ok a0 a1 a2 r2 hf3) (Bor.own (f := f32) (fun _ => rfl) rfl rfl)) <|
     (TR.d (r := b false) (fs := []) rfl rfl (TOp.eqb (TOp.callB (CallAs.func ent51 rfl rfl) (Bors.cons (Bor.sl (fun _ => rfl)) (Bors.cons (Bor.le (ALe.fl (by kernel_rfl) (by kernel_rfl)) (Bor.pure rfl)) Bors.nil)) rfl rfl (x_slices_Contains_float32_float32_ok r2 (some 0) r3 hf4)) hc5) <|
     (TR.l (r := b true) rfl rfl (LOp.eqb (LOp.not rfl rfl) rfl) <|
     (TR.l (r := b true) rfl rfl (LOp.pick_true rfl rfl rfl) <|
     (TR.l (r := b true) rfl rfl (LOp.move rfl rfl) <|
     (TR.l (r := ptr [sl a3.length (a3.map i64)]) rfl rfl (LOp.fap und33 rfl siz25 rfl rfl rfl) <|
     (TR.l (r := sl a3.length (a3.map i64)) rfl rfl (LOp.load1 agg25 rfl rfl) <|
     (TR.d (r := b false) (fs := []) rfl rfl (TOp.eqb (TOp.callB (CallAs.func ent53 rfl rfl) (Bors.cons (Bor.sl (fun _ => rfl)) Bors.nil) rfl rfl (i_IsOrder_ok a3 r4 hf6)) hc7) <|
     (TR.l (r := b false) rfl rfl (LOp.pick_true rfl rfl rfl) <|
     (TR.l (r := b false) rfl rfl (LOp.move rfl rfl) <|
     (TR.s rfl rfl <|
     (TR.s rfl rfl <|
     (TR.s rfl rfl <|
     (TR.s rfl rfl <|
     (TR.s rfl rfl <|
     (TR.s rfl rfl <|
     (TR.s rfl rfl <|
     (TR.l (r := b false) rfl rfl (LOp.pick_false rfl rfl rfl) <|
     (TR.l (r := b false) rfl rfl (LOp.assign rfl rfl) <|
     TR.nil))))))))))))))))))))))))) rfl (by kernel_rfl) rfl fills_nil rfl ?_
    iterate 25 refine ROps.dropS ?_
    refine ROps.drop0 ?_
    refine zN ?_
    refine RunC.ret ?_
    have hq := Option.some.inj h
    subst q0
    exact bodyQ.pure (.inr rfl) rfl (Res.one rfl (RV.tmp rfl))
 ·refine RunC.region_draw (Γ' := []) 25 mixed 
   (TR.l (r := ptr [i64 a0, i64 a1, sl a2.length (a2.map f32), sl a3.length (a3.map i64)]) rfl rfl (LOp.fap und33 rfl siz31 rfl rfl rfl) <|
   (TR.l (r := agg [i64 a0, i64 a1, sl a2.length (a2.map f32)]) rfl rfl (LOp.loadAgg agg31 siz31 rfl rfl rfl rfl) <|
   (TR.d (r := b false) (fs := []) rfl rfl (TOp.eqb (TOp.callB (CallAs.func ent50 rfl rfl) (Bors.cons (Bor.agg (Bors.cons (Bor.pure rfl) (Bors.cons (Bor.pure rfl) (Bors.cons (Bor.sl (fun _ => rfl)) Bors.nil)))) Bors.nil) rfl rfl (i_isSquare_ok a0 a1 a2 r1 hf1)) hc2) <|
   (TR.l (r := b false) rfl rfl (LOp.move rfl rfl) <|
   (TR.s rfl rfl <|
   (TR.s rfl rfl <|
   (TR.s rfl rfl <|
   (TR.s rfl rfl <|
   (TR.s rfl rfl <|
   (TR.l (r := b false) rfl rfl (LOp.pick_false rfl rfl rfl) <|
   (TR.l (r := b false) rfl rfl (LOp.move rfl rfl) <|
   (TR.s rfl rfl <|
   (TR.s rfl rfl <|
   (TR.s rfl rfl <|
   (TR.l (r := b false) rfl rfl (LOp.pick_false rfl rfl rfl) <|
   (TR.l (r := b false) rfl rfl (LOp.move rfl rfl) <|
   (TR.s rfl rfl <|
   (TR.s rfl rfl <|
   (TR.s rfl rfl <|
   (TR.s rfl rfl <|
   (TR.s rfl rfl <|
   (TR.s rfl rfl <|
   (TR.s rfl rfl <|
   (TR.l (r := b false) rfl rfl (LOp.pick_false rfl rfl rfl) <|
   (TR.l (r := b false) rfl rfl (LOp.assign rfl rfl) <|
   TR.nil))))))))))))))))))))))))) rfl (by kernel_rfl) rfl fills_nil rfl ?_
  iterate 25 refine ROps.dropS ?_
  refine ROps.drop0 ?_
  refine zN ?_
  refine RunC.ret ?_
  have hq := Option.some.inj h
  subst q0
  exact bodyQ.pure (.inr rfl) rfl (Res.one rfl (RV.tmp rfl))
noncomputable def i_IsVector (a0 : List F) : Option (Bool) :=
 obind (i_length_float32 a0) fun (r1 : Int) =>
 obind (i_inRange r1 1 256) fun (r2 : Bool) =>
 bsel r2 (
  obind (i_areFinite a0) fun (r3 : Bool) =>
  some r3) (
  some false)
theorem i_IsVector_ok (a0 : List F) (q0 : Bool) (h : i_IsVector a0 = some q0) : Ev Try.prog 41 [sl a0.length (a0.map f32)] [] (b q0) [] := by
 refine Ev.start Try.func41 rfl rfl 0 (τ := [(0, sl a0.length (a0.map f32))]) rfl (Γ' := []) rfl (n := 21) rfl (g := 0) rfl (fun _ => rfl) ?_
 unfold i_IsVector at h
 refine zQ ?_
 refine zA (r := b false) rfl rfl rfl rfl rfl ?_
 refine zN ?_
 refine RunC.seq ?_
 obtain ⟨r1, hf1, h⟩ := obind_some h
 obtain ⟨r2, hf2, h⟩ := obind_some h
 rcases bsel_some h with ⟨hc3, h⟩ | ⟨hc3, h⟩
 ·obtain ⟨r3, hf4, h⟩ := obind_some h
  refine RunC.regionW ?_
  refine zM (r := sl a0.length (a0.map f32)) rfl rfl rfl rfl rfl ?_
  refine ROps.d (r := i64 r1) (fs := []) (Γ' := []) rfl rfl rfl (TOp.callB (CallAs.func ent42 rfl rfl) (Bors.cons (Bor.sl (fun _ => rfl)) Bors.nil) rfl rfl (i_length_float32_ok a0 r1 hf1)) rfl ?_
  refine ROps.d (r := b true) (fs := []) (Γ' := []) rfl rfl rfl (TOp.eqb (TOp.callB (CallAs.func ent55 rfl rfl) (Bors.cons (Bor.pure rfl) (Bors.cons (Bor.pure rfl) (Bors.cons (Bor.pure rfl) Bors.nil))) rfl rfl (i_inRange_ok r1 1 256 r2 hf2)) hc3) rfl ?_
  refine zM (r := b true) rfl rfl rfl rfl rfl ?_
  refine zM (r := sl a0.length (a0.map f32)) rfl rfl rfl rfl rfl ?_
  refine ROps.d (r := b r3) (fs := []) (Γ' := []) rfl rfl rfl (TOp.callB (CallAs.func ent44 rfl rfl) (Bors.cons (Bor.sl (fun _ => rfl)) Bors.nil) rfl rfl (i_areFinite_ok a0 r3 hf4)) rfl ?_
  refine zL (r := b r3) rfl rfl rfl (LOp.pick_true rfl rfl rfl) ?_
  refine zA (r := b r3) rfl rfl rfl rfl rfl ?_
  refine zN ?_
  refine RunC.ret ?_
  have hq := Option.some.inj h
  subst q0
  exact bodyQ.pure (.inr rfl) rfl (Res.one rfl (RV.tmp rfl))
 ·refine RunC.regionW ?_
  refine zM (r := sl a0.length (a0.map f32)) rfl rfl rfl rfl rfl ?_
  refine ROps.d (r := i64 r1) (fs := []) (Γ' := []) rfl rfl rfl (TOp.callB (CallAs.func ent42 rfl rfl) (Bors.cons (Bor.sl (fun _ => rfl)) Bors.nil) rfl rfl (i_length_float32_ok a0 r1 hf1)) rfl ?_
  refine ROps.d (r := b false) (fs := []) (Γ' := []) rfl rfl rfl (TOp.eqb (TOp.callB (CallAs.func ent55 rfl rfl) (Bors.cons (Bor.pure rfl) (Bors.cons (Bor.pure rfl) (Bors.cons (Bor.pure rfl) Bors.nil))) rfl rfl (i_inRange_ok r1 1 256 r2 hf2)) hc3) rfl ?_
  refine zM (r := b false) rfl rfl rfl rfl rfl ?_
  refine ROps.s rfl rfl rfl ?_
  refine ROps.s rfl rfl rfl ?_
  refine zL (r := b false) rfl rfl rfl (LOp.pick_false rfl rfl rfl) ?_
  refine zA (r := b false) rfl rfl rfl rfl rfl ?_
  refine zN ?_
  refine RunC.ret ?_
  have hq := Option.some.inj h
  subst q0
  exact bodyQ.pure (.inr rfl) rfl (Res.one rfl (RV.tmp rfl))
noncomputable def i_Factor_takes (a0 : Int) (a1 : Int) (a2 : List F) (a3 : List Int) (a4 : List F) : Option (Bool) :=
 obind (i_ValidFactor a0 a1 a2 a3) fun (r1 : Bool) =>
 bsel r1 (
  obind (i_IsVector a4) fun (r2 : Bool) =>
  bsel r2 (
   obind (i_length_float32 a4) fun (r3 : Int) =>
   some (decide (r3 = a0))) (
   some false)) (
  some false)
theorem i_Factor_takes_ok (a0 : Int) (a1 : Int) (a2 : List F) (a3 : List Int) (a4 : List F) (q0 : Bool) (h : i_Factor_takes a0 a1 a2 a3 a4 = some q0) : Ev Try.prog 24 [agg [i64 a0, i64 a1, sl a2.length (a2.map f32), sl a3.length (a3.map i64)], sl a4.length (a4.map f32)] [] (b q0) [] := by
 refine Ev.start Try.func24 rfl rfl 0 (τ := [(0, agg [i64 a0, i64 a1, sl a2.length (a2.map f32), sl a3.length (a3.map i64)]), (1, sl a4.length (a4.map f32))]) rfl (Γ' := []) rfl (n := 39) rfl (g := 0) rfl (fun _ => rfl) ?_
 unfold i_Factor_takes at h
 refine zQ ?_
 refine ROps.d (r := ptr [i64 a0, i64 a1, sl a2.length (a2.map f32), sl a3.length (a3.map i64)]) (fs := []) (Γ' := []) rfl rfl rfl (TOp.box_s rfl rfl rfl) rfl ?_
 refine zA (r := b false) rfl rfl rfl rfl rfl ?_
 refine zN ?_
 refine RunC.seq ?_
 obtain ⟨r1, hf1, h⟩ := obind_some h
 rcases bsel_some h with ⟨hc2, h⟩ | ⟨hc2, h⟩
 ·obtain ⟨r2, hf3, h⟩ := obind_some h
  rcases bsel_some h with ⟨hc4, h⟩ | ⟨hc4, h⟩
  ·obtain ⟨r3, hf5, h⟩ := obind_some h
   refine RunC.region_draw (Γ' := []) 15 mixed 
    (TR.l (r := agg [i64 a0, i64 a1, sl a2.length (a2.map f32), sl a3.length (a3.map i64)]) rfl rfl (LOp.loadAgg agg33 siz33 rfl rfl rfl rfl) <|
    (TR.d (r := b true) (fs := []) rfl rfl (TOp.eqb (TOp.callB (CallAs.func ent40 rfl rfl) (Bors.cons (Bor.agg (Bors.cons (Bor.pure rfl) (Bors.cons (Bor.pure rfl) (Bors.cons (Bor.sl (fun _ => rfl)) (Bors.cons (Bor.sl (fun _ => rfl)) Bors.nil))))) Bors.nil) rfl rfl (i_ValidFactor_ok a0 a1 a2 a3 r1 hf1)) hc2) <|
    (TR.l (r := b true) rfl rfl (LOp.move rfl rfl) <|
    (TR.l (r := sl a4.length (a4.map f32)) rfl rfl (LOp.move rfl rfl) <|
    (TR.d (r := b true) (fs := []) rfl rfl (TOp.eqb (TOp.callB (CallAs.func ent41 rfl rfl) (Bors.cons (Bor.sl (fun _ => rfl)) Bors.nil) rfl rfl (i_IsVector_ok a4 r2 hf3)) hc4) <|
    (TR.l (r := b true) rfl rfl (LOp.pick_true rfl rfl rfl) <|
    (TR.l (r := b true) rfl rfl (LOp.move rfl rfl) <|
    (TR.l (r := sl a4.length (a4.map f32)) rfl rfl (LOp.move rfl rfl) <|
    (TR.d (r := i64 r3) (fs := []) rfl rfl (TOp.callB (CallAs.func ent42 rfl rfl) (Bors.cons (Bor.sl (fun _ => rfl)) Bors.nil) rfl rfl (i_length_float32_ok a4 r3 hf5)) <|
    (TR.l (r := ptr [i64 a0, i64 a1, sl a2.length (a2.map f32), sl a3.length (a3.map i64)]) rfl rfl (LOp.fap und33 rfl siz31 rfl rfl rfl) <|
    (TR.l (r := ptr [i64 a0, i64 a1, sl a2.length (a2.map f32), sl a3.length (a3.map i64)]) rfl rfl (LOp.fap und31 rfl siz2 rfl rfl rfl) <|
    (TR.l (r := i64 a0) rfl rfl (LOp.load1 agg2 rfl rfl) <|
    (TR.l (r := b (decide (r3 = a0))) rfl rfl (LOp.eql rfl rfl rfl) <|
    (TR.l (r := b (decide (r3 = a0))) rfl rfl (LOp.pick_true rfl rfl rfl) <|
    (TR.l (r := b (decide (r3 = a0))) rfl rfl (LOp.assign rfl rfl) <|
    TR.nil))))))))))))))) rfl (by kernel_rfl) rfl fills_nil rfl ?_
   iterate 15 refine ROps.dropS ?_
   refine ROps.drop0 ?_
   refine zN ?_
   refine RunC.ret ?_
   have hq := Option.some.inj h
   subst q0
   exact bodyQ.pure (.inr rfl) rfl (Res.one rfl (RV.tmp rfl))
  ·refine RunC.region_draw (Γ' := []) 15 mixed 
    (TR.l (r := agg [i64 a0, i64 a1, sl a2.length (a2.map f32), sl a3.length (a3.map i64)]) rfl rfl (LOp.loadAgg agg33 siz33 rfl rfl rfl rfl) <|
    (TR.d (r := b true) (fs := []) rfl rfl (TOp.eqb (TOp.callB (CallAs.func ent40 rfl rfl) (Bors.cons (Bor.agg (Bors.cons (Bor.pure rfl) (Bors.cons (Bor.pure rfl) (Bors.cons (Bor.sl (fun _ => rfl)) (Bors.cons (Bor.sl (fun _ => rfl)) Bors.nil))))) Bors.nil) rfl rfl (i_ValidFactor_ok a0 a1 a2 a3 r1 hf1)) hc2) <|
    (TR.l (r := b true) rfl rfl (LOp.move rfl rfl) <|
    (TR.l (r := sl a4.length (a4.map f32)) rfl rfl (LOp.move rfl rfl) <|
    (TR.d (r := b false) (fs := []) rfl rfl (TOp.eqb (TOp.callB (CallAs.func ent41 rfl rfl) (Bors.cons (Bor.sl (fun _ => rfl)) Bors.nil) rfl rfl (i_IsVector_ok a4 r2 hf3)) hc4) <|
    (TR.l (r := b false) rfl rfl (LOp.pick_true rfl rfl rfl) <|
    (TR.l (r := b false) rfl rfl (LOp.move rfl rfl) <|
    (TR.s rfl rfl <|
    (TR.s rfl rfl <|
    (TR.s rfl rfl <|
    (TR.s rfl rfl <|
    (TR.s rfl rfl <|
    (TR.s rfl rfl <|
    (TR.l (r := b false) rfl rfl (LOp.pick_false rfl rfl rfl) <|
    (TR.l (r := b false) rfl rfl (LOp.assign rfl rfl) <|
    TR.nil))))))))))))))) rfl (by kernel_rfl) rfl fills_nil rfl ?_
   iterate 15 refine ROps.dropS ?_
   refine ROps.drop0 ?_
   refine zN ?_
   refine RunC.ret ?_
   have hq := Option.some.inj h
   subst q0
   exact bodyQ.pure (.inr rfl) rfl (Res.one rfl (RV.tmp rfl))
 ·refine RunC.region_draw (Γ' := []) 15 mixed 
   (TR.l (r := agg [i64 a0, i64 a1, sl a2.length (a2.map f32), sl a3.length (a3.map i64)]) rfl rfl (LOp.loadAgg agg33 siz33 rfl rfl rfl rfl) <|
   (TR.d (r := b false) (fs := []) rfl rfl (TOp.eqb (TOp.callB (CallAs.func ent40 rfl rfl) (Bors.cons (Bor.agg (Bors.cons (Bor.pure rfl) (Bors.cons (Bor.pure rfl) (Bors.cons (Bor.sl (fun _ => rfl)) (Bors.cons (Bor.sl (fun _ => rfl)) Bors.nil))))) Bors.nil) rfl rfl (i_ValidFactor_ok a0 a1 a2 a3 r1 hf1)) hc2) <|
   (TR.l (r := b false) rfl rfl (LOp.move rfl rfl) <|
   (TR.s rfl rfl <|
   (TR.s rfl rfl <|
   (TR.l (r := b false) rfl rfl (LOp.pick_false rfl rfl rfl) <|
   (TR.l (r := b false) rfl rfl (LOp.move rfl rfl) <|
   (TR.s rfl rfl <|
   (TR.s rfl rfl <|
   (TR.s rfl rfl <|
   (TR.s rfl rfl <|
   (TR.s rfl rfl <|
   (TR.s rfl rfl <|
   (TR.l (r := b false) rfl rfl (LOp.pick_false rfl rfl rfl) <|
   (TR.l (r := b false) rfl rfl (LOp.assign rfl rfl) <|
   TR.nil))))))))))))))) rfl (by kernel_rfl) rfl fills_nil rfl ?_
  iterate 15 refine ROps.dropS ?_
  refine ROps.drop0 ?_
  refine zN ?_
  refine RunC.ret ?_
  have hq := Option.some.inj h
  subst q0
  exact bodyQ.pure (.inr rfl) rfl (Res.one rfl (RV.tmp rfl))
noncomputable def x_slices_Clone_float32_float32 (a0 : List F) : Option ((List F)) :=
 need (apok 4 0 a0.length) <|
 some (([] : List F) ++ a0)
theorem x_slices_Clone_float32_float32_ok (a0 : List F) (q0 : List F) (h : x_slices_Clone_float32_float32 a0 = some q0) : Ev Try.prog 25 [sl a0.length (a0.map f32)] [] (oref 0 0 0 q0.length) [⟨0, some (q0.map f32)⟩] := by
 refine Ev.start Try.func25 rfl rfl 1 (τ := [(0, sl a0.length (a0.map f32))]) rfl (Γ' := [⟨0, none⟩]) rfl (n := 17) rfl (g := 0) rfl (fun _ => rfl) ?_
 unfold x_slices_Clone_float32_float32 at h
 refine zQ ?_
 refine zA (r := nilsl) rfl rfl rfl rfl rfl ?_
 refine zN ?_
 refine RunC.seq ?_
 refine zQ ?_
 refine zM (r := sl a0.length (a0.map f32)) rfl rfl rfl rfl rfl ?_
 refine ROps.eqnil rfl pun22 rfl rfl rfl rfl rfl ?_ ?_
 ·intro hnil1
  refine zN ?_
  refine RunC.cond_true rfl rfl ?_
  refine zQ ?_
  refine zA (r := nilsl) rfl rfl rfl rfl rfl ?_
  refine zN ?_
  refine RunC.nil_slot (Γ' := [⟨1, some (([] : List F).map f32)⟩]) 2 0 rfl rfl rfl ?_
  refine RunC.ret ?_
  have hnl := List.map_eq_nil_iff.1 hnil1
  have hq : some ([] : List F) = some q0 := by
   rw [← h]; subst hnl; simp [need, apok]
  have hq := Option.some.inj hq
  subst q0
  exact bodyQ.mk (r' := oref 0 1 0 (([] : List F).length)) [(0, 1)] (.inr rfl) rfl (show List.Nodup [0] from by decide) rfl rfl (Res.eq (Res.one rfl (RV.tmp rfl)) (by rw [(show ([] : List F).length = 0 from rfl)] <;> rfl)) (SelL.arr0 (f := f32) (fun _ => rfl) rfl trivial)
 ·refine zN ?_
  refine RunC.cond_false rfl rfl ?_
  refine RunC.skip ?_
  refine RunC.seq ?_
  obtain ⟨hm2, h⟩ := need_some h
  refine RunC.regionW ?_
  refine ROps.d (r := oref 0 1 0 0) (fs := [(0, (([] : List F).map f32))]) (Γ' := [⟨1, some (([] : List F).map f32)⟩]) rfl rfl rfl (TOp.buildSlice_o (g := ⟨0, none⟩) (za := f32 (some 0)) (qs := []) 0 rfl und22 siz45 zer45 rfl zel45 rfl rfl trivial rfl) rfl ?_
  refine zM (r := sl a0.length (a0.map f32)) rfl rfl rfl rfl rfl ?_
  refine ROps.app (f := f32) (xs := ([] : List F)) (ys := a0) (Γ' := [⟨2, some ((([] : List F) ++ a0).map f32)⟩]) rfl pun22 inf45 rfl rfl rfl rfl rfl rfl rfl rfl rfl (by simp) (ReadAs.sl (by simp)) (ones_map (fun _ => rfl)) (ap_by hm2) (ap_mx hm2) rfl ?_
  refine zA (r := oref 0 2 0 (0 + a0.length)) rfl rfl rfl rfl rfl ?_
  refine zN ?_
  refine RunC.ret ?_
  have hq := Option.some.inj h
  subst q0
  exact bodyQ.mk (r' := oref 0 2 0 ((([] : List F) ++ a0).length)) [(0, 2)] (.inr rfl) rfl (show List.Nodup [0] from by decide) rfl rfl (Res.eq (Res.one rfl (RV.tmp rfl)) (by rw [(show (([] : List F) ++ a0).length = (0 + a0.length) from (app_len rfl rfl))] <;> rfl)) (SelL.arr0 (f := f32) (fun _ => rfl) rfl trivial)
noncomputable def i_mul (a0 : F) (a1 : F) : Option (F) :=
 olet (fop .mul .f32 a0 a1) fun (x1 : F) =>
 some x1
theorem i_mul_ok (a0 : F) (a1 : F) (q0 : F) (h : i_mul a0 a1 = some q0) : Ev Try.prog 43 [f32 a0, f32 a1] [] (f32 q0) [] := by
 refine Ev.start Try.func43 rfl rfl 0 (τ := [(0, f32 a0), (1, f32 a1)]) rfl (Γ' := []) rfl (n := 17) rfl (g := 0) rfl (fun _ => rfl) ?_
 unfold i_mul at h
 refine zQ ?_
 refine zL (r := f32 (some 0)) rfl rfl rfl (LOp.le (LOp.assign rfl rfl) (ALe.fl (by kernel_rfl) (by kernel_rfl))) ?_
 refine zN ?_
 refine RunC.seq ?_
 obtain ⟨x1, hx1, h⟩ := olet_some h
 refine RunC.regionW ?_
 refine zM (r := f32 a0) rfl rfl rfl rfl rfl ?_
 refine zM (r := f32 a1) rfl rfl rfl rfl rfl ?_
 refine ROps.d (r := f32 x1) (fs := []) (Γ' := []) rfl rfl rfl (TOp.eqr (TOp.fop (.inr (.inr (.inl rfl))) rfl (OpF.tmp rfl) (OpF.tmp rfl)) (congrArg (f .f32) hx1)) rfl ?_
 refine zA (r := f32 x1) rfl rfl rfl rfl rfl ?_
 refine zN ?_
 refine RunC.ret ?_
 have hq := Option.some.inj h
 subst q0
 exact bodyQ.pure (.inr rfl) rfl (Res.one rfl (RV.tmp rfl))
noncomputable def i_Matrix_lessColumn_b1 (a0 : Int) (a1 : Int) (a2 : List F) (a4 : Int) (a6 : Int) (a7 : List F) (y1 : F) (v2 : Int) : Option (LR (F × Int) (F) (F)) :=
 bsel (decide (v2 < a6)) (
  obind (i_Matrix_at a0 a1 a2 v2 a4) fun (r3 : F) =>
  obind (at? a7 v2) fun (e4 : F) =>
  obind (i_mul r3 e4) fun (r5 : F) =>
  olet (fop .sub .f32 y1 r5) fun (x6 : F) =>
  olet (IntKind.i64.wrap (v2 + 1)) fun (x7 : Int) =>
  some (LR.next (x6, x7))) (
  some (LR.out y1))
noncomputable def i_Matrix_lessColumn_s1 (a0 : Int) (a1 : Int) (a2 : List F) (a4 : Int) (a6 : Int) (a7 : List F) : (F × Int) → Option (LR (F × Int) (F) (F)) := fun s => i_Matrix_lessColumn_b1 a0 a1 a2 a4 a6 a7 s.1 s.2
noncomputable def i_Matrix_lessColumn_k1 (y8 : F) : Option (F) :=
 some y8
noncomputable def i_Matrix_lessColumn (a0 : Int) (a1 : Int) (a2 : List F) (a3 : F) (a4 : Int) (a5 : Int) (a6 : Int) (a7 : List F) : Option (F) :=
 obind (loopM (i_Matrix_lessColumn_s1 a0 a1 a2 a4 a6 a7) (a3, a5)) fun z => osum z (fun e => i_Matrix_lessColumn_k1 e) (fun r => some r)
theorem i_Matrix_lessColumn_ok (a0 : Int) (a1 : Int) (a2 : List F) (a3 : F) (a4 : Int) (a5 : Int) (a6 : Int) (a7 : List F) (q0 : F) (h : i_Matrix_lessColumn a0 a1 a2 a3 a4 a5 a6 a7 = some q0) : Ev Try.prog 26 [agg [i64 a0, i64 a1, sl a2.length (a2.map f32)], f32 a3, i64 a4, i64 a5, i64 a6, sl a7.length (a7.map f32)] [] (f32 q0) [] := by
 refine Ev.start Try.func26 rfl rfl 0 (τ := [(0, agg [i64 a0, i64 a1, sl a2.length (a2.map f32)]), (1, f32 a3), (2, i64 a4), (3, i64 a5), (4, i64 a6), (5, sl a7.length (a7.map f32))]) rfl (Γ' := []) rfl (n := 65) rfl (g := 0) rfl (fun _ => rfl) ?_
 unfold i_Matrix_lessColumn at h
 refine zQ ?_
 refine ROps.d (r := ptr [i64 a0, i64 a1, sl a2.length (a2.map f32)]) (fs := []) (Γ' := []) rfl rfl rfl (TOp.box_s rfl rfl rfl) rfl ?_
 refine zL (r := f32 (some 0)) rfl rfl rfl (LOp.le (LOp.assign rfl rfl) (ALe.fl (by kernel_rfl) (by kernel_rfl))) ?_
 refine zN ?_
 refine RunC.seq ?_
 refine zQ ?_
 refine zM (r := i64 a5) rfl rfl rfl rfl rfl ?_
 refine zA (r := i64 a5) rfl rfl rfl rfl rfl ?_
 refine zN ?_
 obtain ⟨z2, hz_2, h⟩ := obind_some h
 refine RunC.cutN (fun τ Γ => ∃ (y8 : F), WeakLe τ [(1, f32 y8)] ∧ DeadLe Γ [] ∧ z2 = .inl y8) ?_ ?_
 ·refine RunC.block (RunC.loop (RunL.loopM (x := z2) (i_Matrix_lessColumn_s1 a0 a1 a2 a4 a6 a7) (fun (s : F × Int) τ Γ => WeakLe τ [(1, f32 s.1), (2, i64 a4), (4, i64 a6), (5, sl a7.length (a7.map f32)), (6, ptr [i64 a0, i64 a1, sl a2.length (a2.map f32)]), (13, i64 s.2)] ∧ DeadLe Γ []) ?_ _ _ _ hz_2 ⟨⟨aR, aR, aR, aR, aR, aR, trivial⟩, trivial⟩))
  rintro ⟨y1, v2⟩ τ2 Γ2 y2_ ⟨hw2, hd2⟩ h2_ ho2 hr2
  refine RunC.wl (τ' := [(1, f32 y1), (2, i64 a4), (4, i64 a6), (5, sl a7.length (a7.map f32)), (6, ptr [i64 a0, i64 a1, sl a2.length (a2.map f32)]), (13, i64 v2)]) (Γ' := []) hw2 hd2 ?_
  replace h2_ : i_Matrix_lessColumn_b1 a0 a1 a2 a4 a6 a7 y1 v2 = some y2_ := h2_
  unfold i_Matrix_lessColumn_b1 at h2_
  refine RunC.seq ?_
  refine RunC.seq ?_
  rcases bsel_some h2_ with ⟨hc1, h2_⟩ | ⟨hc1, h2_⟩
  ·refine RunC.regionW ?_
   refine zM (r := i64 v2) rfl rfl rfl rfl rfl ?_
   refine zM (r := i64 a6) rfl rfl rfl rfl rfl ?_
   refine zL (r := b true) rfl rfl rfl (LOp.eqb (LOp.lss rfl rfl rfl) hc1) ?_
   refine zN ?_
   refine RunC.cond_true rfl rfl ?_
   refine RunC.skip ?_
   refine RunC.seq ?_
   refine RunC.block ?_
   obtain ⟨r3, hf2, h2_⟩ := obind_some h2_
   obtain ⟨e4, he3, h2_⟩ := obind_some h2_
   obtain ⟨r5, hf4, h2_⟩ := obind_some h2_
   obtain ⟨x6, hx5, h2_⟩ := olet_some h2_
   refine RunC.region_draw (Γ' := []) 12 mixed 
    (TR.l (r := f32 y1) rfl rfl (LOp.move rfl rfl) <|
    (TR.l (r := agg [i64 a0, i64 a1, sl a2.length (a2.map f32)]) rfl rfl (LOp.loadAgg agg31 siz31 rfl rfl rfl rfl) <|
    (TR.l (r := i64 v2) rfl rfl (LOp.move rfl rfl) <|
    (TR.l (r := i64 a4) rfl rfl (LOp.move rfl rfl) <|
    (TR.d (r := f32 r3) (fs := []) rfl rfl (TOp.callB (CallAs.func ent27 rfl rfl) (Bors.cons (Bor.agg (Bors.cons (Bor.pure rfl) (Bors.cons (Bor.pure rfl) (Bors.cons (Bor.sl (fun _ => rfl)) Bors.nil)))) (Bors.cons (Bor.pure rfl) (Bors.cons (Bor.pure rfl) Bors.nil))) rfl rfl (i_Matrix_at_ok a0 a1 a2 v2 a4 r3 hf2)) <|
    (TR.l (r := sl a7.length (a7.map f32)) rfl rfl (LOp.move rfl rfl) <|
    (TR.l (r := i64 v2) rfl rfl (LOp.move rfl rfl) <|
    (TR.l (r := ptr [f32 e4]) rfl rfl (LOp.le (LOp.ix (f := f32) und22 siz45 rfl rfl rfl rfl he3) ALe.ptr) <|
    (TR.l (r := f32 e4) rfl rfl (LOp.load1 agg45 rfl rfl) <|
    (TR.d (r := f32 r5) (fs := []) rfl rfl (TOp.callB (CallAs.func ent43 rfl rfl) (Bors.cons (Bor.pure rfl) (Bors.cons (Bor.pure rfl) Bors.nil)) rfl rfl (i_mul_ok r3 e4 r5 hf4)) <|
    (TR.d (r := f32 x6) (fs := []) rfl rfl (TOp.eqr (TOp.fop (.inr (.inl rfl)) rfl (OpF.tmp rfl) (OpF.tmp rfl)) (congrArg (f .f32) hx5)) <|
    (TR.l (r := f32 x6) rfl rfl (LOp.assign rfl rfl) <|
    TR.nil)))))))))))) rfl (by kernel_rfl) rfl fills_nil rfl ?_
   iterate 12 refine ROps.dropS ?_
   refine ROps.drop0 ?_
   refine zN ?_
   refine RunC.wl (τ' := [(1, f32 x6), (2, i64 a4), (4, i64 a6), (5, sl a7.length (a7.map f32)), (6, ptr [i64 a0, i64 a1, sl a2.length (a2.map f32)]), (13, i64 v2)]) (Γ' := []) ⟨aR, aR, aR, aR, aR, aR, trivial⟩ trivial ?_
   obtain ⟨x7, hx6, h2_⟩ := olet_some h2_
   refine RunC.regionW ?_
   refine zM (r := i64 v2) rfl rfl rfl rfl rfl ?_
   refine zL (r := i64 x7) rfl rfl rfl (LOp.eqr (LOp.add rfl rfl rfl) (congrArg (ik .i64) hx6)) ?_
   refine zA (r := i64 x7) rfl rfl rfl rfl rfl ?_
   refine zN ?_
   cases Option.some.inj h2_
   exact ⟨_, rfl, ⟨aR, aR, aR, aR, aR, aR, trivial⟩, trivial⟩
  ·refine RunC.regionW ?_
   refine zM (r := i64 v2) rfl rfl rfl rfl rfl ?_
   refine zM (r := i64 a6) rfl rfl rfl rfl rfl ?_
   refine zL (r := b false) rfl rfl rfl (LOp.eqb (LOp.lss rfl rfl rfl) hc1) ?_
   refine zN ?_
   refine RunC.cond_false rfl rfl ?_
   refine RunC.exit ?_
   cases Option.some.inj h2_
   have hx := ho2 _ rfl
   exact ⟨y1, ⟨aR, trivial⟩, trivial, hx⟩
 ·rintro τ3 Γ3 ⟨y8, hw3, hd3, rfl⟩
  refine RunC.wl hw3 hd3 ?_
  replace h : i_Matrix_lessColumn_k1 y8 = some q0 := h
  unfold i_Matrix_lessColumn_k1 at h
  refine zQ ?_
  refine zM (r := f32 y8) rfl rfl rfl rfl rfl ?_
  refine zA (r := f32 y8) rfl rfl rfl rfl rfl ?_
  refine zN ?_
  refine RunC.ret ?_
  have hq := Option.some.inj h
  subst q0
  exact bodyQ.pure (.inr rfl) rfl (Res.one rfl (RV.tmp rfl))
noncomputable def i_allFinite_0o (a0 : List F) : Option ((Bool × (List F)) ⊕ (Bool × (List F) × (List F))) :=
 obind (i_areFinite a0) fun (r1 : Bool) =>
 bsel r1 (
  some (Sum.inl (true, a0))) (
  some (Sum.inr (false, a0, ([] : List F))))
theorem i_allFinite_0o_ok0 (a0 : List F) (q0 : Bool) (q1 : List F) (h : i_allFinite_0o a0 = some (Sum.inl (q0, q1))) : Ev Try.prog 28 [oref 0 0 0 a0.length] [⟨0, some (a0.map f32)⟩] (tup [oref 0 0 0 q1.length, b q0]) [⟨0, some (q1.map f32)⟩] := by
 refine Ev.start Try.func28 rfl rfl 1 (τ := [(0, oref 0 0 0 a0.length)]) rfl (Γ' := [⟨0, some (a0.map f32)⟩, ⟨0, none⟩]) rfl (n := 16) rfl (g := 1) rfl (by decide) ?_
 unfold i_allFinite_0o at h
 refine zQ ?_
 refine zA (r := nilsl) rfl rfl rfl rfl rfl ?_
 refine zA (r := b false) rfl rfl rfl rfl rfl ?_
 refine zN ?_
 refine RunC.seq ?_
 refine RunC.seq ?_
 obtain ⟨r1, hf1, h⟩ := obind_some h
 rcases bsel_some h with ⟨hc2, h⟩ | ⟨hc2, h⟩
 ·refine RunC.regionW ?_
  refine zM (r := oref 0 0 0 a0.length) rfl rfl rfl rfl rfl ?_
  refine ROps.d (r := b true) (fs := []) (Γ' := [⟨0, some (a0.map f32)⟩, ⟨0, none⟩]) rfl rfl rfl (TOp.eqb (TOp.callB (CallAs.func ent44 rfl rfl) (Bors.cons (Bor.own (f := f32) (fun _ => rfl) rfl rfl) Bors.nil) rfl rfl (i_areFinite_ok a0 r1 hf1)) hc2) rfl ?_
  refine zL (r := b false) rfl rfl rfl (LOp.eqb (LOp.not rfl rfl) rfl) ?_
  refine zN ?_
  refine RunC.cond_false rfl rfl ?_
  refine RunC.skip ?_
  refine zQ ?_
  refine zM (r := oref 0 0 0 a0.length) rfl rfl rfl rfl rfl ?_
  refine zA (r := oref 0 0 0 a0.length) rfl rfl rfl rfl rfl ?_
  refine zA (r := b true) rfl rfl rfl rfl rfl ?_
  refine zN ?_
  refine RunC.ret ?_
  have hq := Option.some.inj h
  have hq := Sum.inl.inj hq
  obtain ⟨hq0, hq⟩ := Prod.mk.inj hq
  subst q0
  subst q1
  exact bodyQ.mk (r' := tup [oref 0 0 0 a0.length, b true]) [(0, 0)] (.inr rfl) rfl (show List.Nodup [0] from by decide) rfl rfl (Res.two rfl (RV.tmp rfl) (RV.tmp rfl)) (SelL.arr (f := f32) (fun _ => rfl) rfl trivial)
 ·refine RunC.regionW ?_
  refine zM (r := oref 0 0 0 a0.length) rfl rfl rfl rfl rfl ?_
  refine ROps.d (r := b false) (fs := []) (Γ' := [⟨0, some (a0.map f32)⟩, ⟨0, none⟩]) rfl rfl rfl (TOp.eqb (TOp.callB (CallAs.func ent44 rfl rfl) (Bors.cons (Bor.own (f := f32) (fun _ => rfl) rfl rfl) Bors.nil) rfl rfl (i_areFinite_ok a0 r1 hf1)) hc2) rfl ?_
  refine zL (r := b true) rfl rfl rfl (LOp.eqb (LOp.not rfl rfl) rfl) ?_
  refine zN ?_
  refine RunC.cond_true rfl rfl ?_
  refine zQ ?_
  refine zA (r := nilsl) rfl rfl rfl rfl rfl ?_
  refine zA (r := b false) rfl rfl rfl rfl rfl ?_
  refine zN ?_
  cases Option.some.inj h
theorem i_allFinite_0o_ok1 (a0 : List F) (q0 : Bool) (q1 : List F) (q2 : List F) (h : i_allFinite_0o a0 = some (Sum.inr (q0, q1, q2))) : Ev Try.prog 28 [oref 0 0 0 a0.length] [⟨0, some (a0.map f32)⟩] (tup [oref 1 0 0 q2.length, b q0]) [⟨0, some (q1.map f32)⟩, ⟨0, some (q2.map f32)⟩] := by
 refine Ev.start Try.func28 rfl rfl 1 (τ := [(0, oref 0 0 0 a0.length)]) rfl (Γ' := [⟨0, some (a0.map f32)⟩, ⟨0, none⟩]) rfl (n := 16) rfl (g := 1) rfl (by decide) ?_
 unfold i_allFinite_0o at h
 refine zQ ?_
 refine zA (r := nilsl) rfl rfl rfl rfl rfl ?_
 refine zA (r := b false) rfl rfl rfl rfl rfl ?_
 refine zN ?_
 refine RunC.seq ?_
 refine RunC.seq ?_
 obtain ⟨r1, hf1, h⟩ := obind_some h
 rcases bsel_some h with ⟨hc2, h⟩ | ⟨hc2, h⟩
 ·refine RunC.regionW ?_
  refine zM (r := oref 0 0 0 a0.length) rfl rfl rfl rfl rfl ?_
  refine ROps.d (r := b true) (fs := []) (Γ' := [⟨0, some (a0.map f32)⟩, ⟨0, none⟩]) rfl rfl rfl (TOp.eqb (TOp.callB (CallAs.func ent44 rfl rfl) (Bors.cons (Bor.own (f := f32) (fun _ => rfl) rfl rfl) Bors.nil) rfl rfl (i_areFinite_ok a0 r1 hf1)) hc2) rfl ?_
  refine zL (r := b false) rfl rfl rfl (LOp.eqb (LOp.not rfl rfl) rfl) ?_
  refine zN ?_
  refine RunC.cond_false rfl rfl ?_
  refine RunC.skip ?_
  refine zQ ?_
  refine zM (r := oref 0 0 0 a0.length) rfl rfl rfl rfl rfl ?_
  refine zA (r := oref 0 0 0 a0.length) rfl rfl rfl rfl rfl ?_
  refine zA (r := b true) rfl rfl rfl rfl rfl ?_
  refine zN ?_
  cases Option.some.inj h
 ·refine RunC.regionW ?_
  refine zM (r := oref 0 0 0 a0.length) rfl rfl rfl rfl rfl ?_
  refine ROps.d (r := b false) (fs := []) (Γ' := [⟨0, some (a0.map f32)⟩, ⟨0, none⟩]) rfl rfl rfl (TOp.eqb (TOp.callB (CallAs.func ent44 rfl rfl) (Bors.cons (Bor.own (f := f32) (fun _ => rfl) rfl rfl) Bors.nil) rfl rfl (i_areFinite_ok a0 r1 hf1)) hc2) rfl ?_
  refine zL (r := b true) rfl rfl rfl (LOp.eqb (LOp.not rfl rfl) rfl) ?_
  refine zN ?_
  refine RunC.cond_true rfl rfl ?_
  refine zQ ?_
  refine zA (r := nilsl) rfl rfl rfl rfl rfl ?_
  refine zA (r := b false) rfl rfl rfl rfl rfl ?_
  refine zN ?_
  refine RunC.nil_slot (Γ' := [⟨0, some (a0.map f32)⟩, ⟨1, some (([] : List F).map f32)⟩]) 2 1 rfl rfl rfl ?_
  refine RunC.ret ?_
  have hq := Option.some.inj h
  have hq := Sum.inr.inj hq
  obtain ⟨hq0, hq⟩ := Prod.mk.inj hq
  obtain ⟨hq1, hq⟩ := Prod.mk.inj hq
  subst q0
  subst q1
  subst q2
  exact bodyQ.mk (r' := tup [oref 1 1 0 (([] : List F).length), b false]) [(0, 0), (1, 1)] (.inr rfl) rfl (show List.Nodup [0, 1] from by decide) rfl rfl (Res.eq (Res.two rfl (RV.tmp rfl) (RV.tmp rfl)) (by rw [(show ([] : List F).length = 0 from rfl)] <;> rfl)) (SelL.arr (f := f32) (fun _ => rfl) rfl (SelL.arr0 (f := f32) (fun _ => rfl) rfl trivial))
noncomputable def i_FactorSolveFlipped_b1 (a0 : Int) (a1 : Int) (a2 : List F) (L3 : List F) (v5 : Int) : Option (LR ((List F) × Int) ((List F)) (Bool × (List F))) :=
 bsel (decide (v5 < a0)) (
  obind (at? L3 v5) fun (e6 : F) =>
  obind (i_Matrix_lessColumn a0 a1 a2 e6 v5 0 v5 L3) fun (r7 : F) =>
  obind (i_Matrix_at a0 a1 a2 v5 v5) fun (r8 : F) =>
  olet (fop .quo .f32 r7 r8) fun (x9 : F) =>
  obind (setAt? L3 v5 x9) fun (L10 : List F) =>
  olet (IntKind.i64.wrap (v5 + 1)) fun (x11 : Int) =>
  some (LR.next (L10, x11))) (
  some (LR.out L3))
noncomputable def i_FactorSolveFlipped_s1 (a0 : Int) (a1 : Int) (a2 : List F) : ((List F) × Int) → Option (LR ((List F) × Int) ((List F)) (Bool × (List F))) := fun s => i_FactorSolveFlipped_b1 a0 a1 a2 s.1 s.2
noncomputable def i_FactorSolveFlipped_b2 (a0 : Int) (a1 : Int) (a2 : List F) (a3 : List Int) (L15 : List F) (L17 : List F) (v19 : Int) : Option (LR ((List F) × (List F) × Int) ((List F)) (Bool × (List F))) :=
 bsel (decide (0 ≤ v19)) (
  obind (at? L15 v19) fun (e20 : F) =>
  olet (IntKind.i64.wrap (v19 + 1)) fun (x21 : Int) =>
  obind (i_Matrix_lessColumn a0 a1 a2 e20 v19 x21 a0 L15) fun (r22 : F) =>
  obind (setAt? L15 v19 r22) fun (L23 : List F) =>
  obind (at? a3 v19) fun (e24 : Int) =>
  obind (at? L23 v19) fun (e25 : F) =>
  obind (setAt? L17 e24 e25) fun (L26 : List F) =>
  olet (IntKind.i64.wrap (v19 - 1)) fun (x27 : Int) =>
  some (LR.next (L23, L26, x27))) (
  some (LR.out L17))
noncomputable def i_FactorSolveFlipped_s2 (a0 : Int) (a1 : Int) (a2 : List F) (a3 : List Int) : ((List F) × (List F) × Int) → Option (LR ((List F) × (List F) × Int) ((List F)) (Bool × (List F))) := fun s => i_FactorSolveFlipped_b2 a0 a1 a2 a3 s.1 s.2.1 s.2.2
noncomputable def i_FactorSolveFlipped_k2 (a0 : Int) (L28 : List F) : Option (Bool × (List F)) :=
 obind (i_allFinite_0o L28) (fun z => osum z (fun y => obind2 (some y) fun (r30 : Bool) (r31 : List F) =>
  need (decide (r31.length = a0.toNat)) <|
  some (r30, r31)) (fun y => obind3 (some y) fun (r32 : Bool) (r33 : List F) (r34 : List F) =>
  need (decide (r33.length = a0.toNat)) <|
  some (r32, r34)))
noncomputable def i_FactorSolveFlipped_k1 (a0 : Int) (a1 : Int) (a2 : List F) (a3 : List Int) (L12 : List F) : Option (Bool × (List F)) :=
 need (mkok 4 a0) <|
 olet (IntKind.i64.wrap (a0 - 1)) fun (x14 : Int) =>
 obind (loopM (i_FactorSolveFlipped_s2 a0 a1 a2 a3) (L12, (List.replicate a0.toNat (some 0)), x14)) fun z => osum z (fun e => i_FactorSolveFlipped_k2 a0 e) (fun r => some r)
noncomputable def i_FactorSolveFlipped (a0 : Int) (a1 : Int) (a2 : List F) (a3 : List Int) (a4 : List F) : Option (Bool × (List F)) :=
 obind (i_Factor_takes a0 a1 a2 a3 a4) fun (r1 : Bool) =>
 bsel r1 (
  obind (x_slices_Clone_float32_float32 a4) fun (r2 : List F) =>
  obind (loopM (i_FactorSolveFlipped_s1 a0 a1 a2) (r2, 0)) fun z => osum z (fun e => i_FactorSolveFlipped_k1 a0 a1 a2 a3 e) (fun r => some r)) (
  some (false, ([] : List F)))
theorem i_FactorSolveFlipped_ok (a0 : Int) (a1 : Int) (a2 : List F) (a3 : List Int) (a4 : List F) (q0 : Bool) (q1 : List F) (h : i_FactorSolveFlipped a0 a1 a2 a3 a4 = some (q0, q1)) : Ev Try.prog 9 [agg [i64 a0, i64 a1, sl a2.length (a2.map f32), sl a3.length (a3.map i64)], sl a4.length (a4.map f32)] [] (tup [oref 0 0 0 q1.length, b q0]) [⟨0, some (q1.map f32)⟩] := by
 refine Ev.start Try.func9 rfl rfl 2 (τ := [(0, agg [i64 a0, i64 a1, sl a2.length (a2.map f32), sl a3.length (a3.map i64)]), (1, sl a4.length (a4.map f32))]) rfl (Γ' := [⟨0, none⟩, ⟨0, none⟩]) rfl (n := 165) rfl (g := 0) rfl (fun _ => rfl) ?_
 unfold i_FactorSolveFlipped at h
 refine zQ ?_
 refine ROps.d (r := ptr [i64 a0, i64 a1, sl a2.length (a2.map f32), sl a3.length (a3.map i64)]) (fs := []) (Γ' := [⟨0, none⟩, ⟨0, none⟩]) rfl rfl rfl (TOp.box_s rfl rfl rfl) rfl ?_
 refine zA (r := nilsl) rfl rfl rfl rfl rfl ?_
 refine zA (r := b false) rfl rfl rfl rfl rfl ?_
 refine zN ?_
 refine RunC.seq ?_
 refine RunC.seq ?_
 obtain ⟨r1, hf1, h⟩ := obind_some h
 rcases bsel_some h with ⟨hc2, h⟩ | ⟨hc2, h⟩
 ·refine RunC.regionW ?_
  refine zL (r := agg [i64 a0, i64 a1, sl a2.length (a2.map f32), sl a3.length (a3.map i64)]) rfl rfl rfl (LOp.loadAgg agg33 siz33 rfl rfl rfl rfl) ?_
  refine zM (r := sl a4.length (a4.map f32)) rfl rfl rfl rfl rfl ?_
  refine ROps.d (r := b true) (fs := []) (Γ' := [⟨0, none⟩, ⟨0, none⟩]) rfl rfl rfl (TOp.eqb (TOp.callB (CallAs.func ent24 rfl rfl) (Bors.cons (Bor.agg (Bors.cons (Bor.pure rfl) (Bors.cons (Bor.pure rfl) (Bors.cons (Bor.sl (fun _ => rfl)) (Bors.cons (Bor.sl (fun _ => rfl)) Bors.nil))))) (Bors.cons (Bor.sl (fun _ => rfl)) Bors.nil)) rfl rfl (i_Factor_takes_ok a0 a1 a2 a3 a4 r1 hf1)) hc2) rfl ?_
  refine zL (r := b false) rfl rfl rfl (LOp.eqb (LOp.not rfl rfl) rfl) ?_
  refine zN ?_
  refine RunC.cond_false rfl rfl ?_
  refine RunC.skip ?_
  refine RunC.seq ?_
  obtain ⟨r2, hf3, h⟩ := obind_some h
  refine RunC.region_draw (Γ' := [⟨1, some (r2.map f32)⟩, ⟨0, none⟩]) 7 mixed 
   (TR.l (r := ptr [i64 a0, i64 a1, sl a2.length (a2.map f32), sl a3.length (a3.map i64)]) rfl rfl (LOp.fap und33 rfl siz31 rfl rfl rfl) <|
   (TR.l (r := ptr [i64 a0, i64 a1, sl a2.length (a2.map f32), sl a3.length (a3.map i64)]) rfl rfl (LOp.fap und31 rfl siz2 rfl rfl rfl) <|
   (TR.l (r := i64 a0) rfl rfl (LOp.load1 agg2 rfl rfl) <|
   (TR.l (r := sl a4.length (a4.map f32)) rfl rfl (LOp.move rfl rfl) <|
   (TR.d (r := oref 0 1 0 r2.length) (fs := [(0, (r2.map f32))]) rfl rfl (TOp.callBN (ls := [(r2.map f32)]) [0] (CallAs.func ent25 rfl rfl) (Bors.cons (Bor.sl (fun _ => rfl)) Bors.nil) rfl (x_slices_Clone_float32_float32_ok a4 r2 hf3) (and_all (lts0_map (f := f32) (fun _ => rfl) _) rfl) (and_all (noss_map (f := f32) (fun _ => rfl) _) rfl) rfl (by decide) (ns_of ⟨⟨_, rfl⟩, trivial⟩)) <|
   (TR.l (r := i64 a0) rfl rfl (LOp.assign rfl rfl) <|
   (TR.l (r := oref 0 1 0 r2.length) rfl rfl (LOp.assign rfl rfl) <|
   TR.nil))))))) rfl (by kernel_rfl) rfl (fills_of (by show List.Nodup [0]; decide) ⟨⟨_, rfl⟩, trivial⟩) rfl ?_
  iterate 7 refine ROps.dropS ?_
  refine ROps.drop0 ?_
  refine zN ?_
  refine RunC.wl (τ' := [(2, ptr [i64 a0, i64 a1, sl a2.length (a2.map f32), sl a3.length (a3.map i64)]), (6, i64 a0), (7, oref 0 1 0 r2.length)]) (Γ' := [⟨1, some (r2.map f32)⟩, ⟨0, none⟩]) ⟨aR, aR, aR, trivial⟩ ⟨⟨rfl, .inr rfl⟩, ⟨rfl, .inr rfl⟩, trivial⟩ ?_
  refine RunC.seq ?_
  refine zQ ?_
  refine zM (r := i64 a0) rfl rfl rfl rfl rfl ?_
  refine zM (r := i64 0) rfl rfl rfl rfl rfl ?_
  refine zN ?_
  obtain ⟨z3, hz_3, h⟩ := obind_some h
  refine RunC.cutN (fun τ Γ => ∃ (L12 : List F), L12.length = r2.length ∧ WeakLe τ [(2, ptr [i64 a0, i64 a1, sl a2.length (a2.map f32), sl a3.length (a3.map i64)]), (6, i64 a0), (7, oref 0 1 0 r2.length)] ∧ DeadLe Γ [⟨1, some (L12.map f32)⟩, ⟨0, none⟩] ∧ z3 = .inl L12) ?_ ?_
  ·refine RunC.block (RunC.loop (RunL.loopM (x := z3) (i_FactorSolveFlipped_s1 a0 a1 a2) (fun (s : (List F) × Int) τ Γ => s.1.length = r2.length ∧ WeakLe τ [(2, ptr [i64 a0, i64 a1, sl a2.length (a2.map f32), sl a3.length (a3.map i64)]), (6, i64 a0), (7, oref 0 1 0 r2.length), (20, i64 a0), (21, i64 s.2)] ∧ DeadLe Γ [⟨1, some (s.1.map f32)⟩, ⟨0, none⟩]) ?_ _ _ _ hz_3 ⟨rfl, ⟨aR, aR, aR, aR, aR, trivial⟩, ⟨⟨rfl, .inr rfl⟩, ⟨rfl, .inr rfl⟩, trivial⟩⟩))
   rintro ⟨L3, v5⟩ τ3 Γ3 y3_ ⟨hl4, hw3, hd3⟩ h3_ ho3 hr3
   refine RunC.wl (τ' := [(2, ptr [i64 a0, i64 a1, sl a2.length (a2.map f32), sl a3.length (a3.map i64)]), (6, i64 a0), (7, oref 0 1 0 r2.length), (20, i64 a0), (21, i64 v5)]) (Γ' := [⟨1, some (L3.map f32)⟩, ⟨0, none⟩]) hw3 hd3 ?_
   replace hl4 : L3.length = r2.length := hl4
   replace h3_ : i_FactorSolveFlipped_b1 a0 a1 a2 L3 v5 = some y3_ := h3_
   unfold i_FactorSolveFlipped_b1 at h3_
   refine RunC.seq ?_
   rcases bsel_some h3_ with ⟨hc4, h3_⟩ | ⟨hc4, h3_⟩
   ·refine RunC.regionW ?_
    refine zL (r := b true) rfl rfl rfl (LOp.eqb (LOp.lss rfl rfl rfl) hc4) ?_
    refine zN ?_
    refine RunC.seq ?_
    refine RunC.cond_true rfl rfl ?_
    refine RunC.skip ?_
    refine RunC.seq ?_
    refine RunC.block ?_
    refine zQ ?_
    refine zM (r := i64 v5) rfl rfl rfl rfl rfl ?_
    refine zA (r := i64 v5) rfl rfl rfl rfl rfl ?_
    refine zN ?_
    obtain ⟨e6, he5, h3_⟩ := obind_some h3_
    obtain ⟨r7, hf6, h3_⟩ := obind_some h3_
    obtain ⟨r8, hf7, h3_⟩ := obind_some h3_
    obtain ⟨x9, hx8, h3_⟩ := olet_some h3_
    obtain ⟨L10, he9, h3_⟩ := obind_some h3_
    refine RunC.region_draw (Γ' := [⟨1, some (L3.map f32)⟩, ⟨0, none⟩]) 19 mixed 
     (TR.l (r := oref 0 1 0 r2.length) rfl rfl (LOp.move rfl rfl) <|
     (TR.l (r := i64 v5) rfl rfl (LOp.move rfl rfl) <|
     (TR.l (r := ptr [i64 a0, i64 a1, sl a2.length (a2.map f32), sl a3.length (a3.map i64)]) rfl rfl (LOp.fap und33 rfl siz31 rfl rfl rfl) <|
     (TR.l (r := agg [i64 a0, i64 a1, sl a2.length (a2.map f32)]) rfl rfl (LOp.loadAgg agg31 siz31 rfl rfl rfl rfl) <|
     (TR.l (r := oref 0 1 0 r2.length) rfl rfl (LOp.move rfl rfl) <|
     (TR.l (r := i64 v5) rfl rfl (LOp.move rfl rfl) <|
     (TR.d (r := optr 0 1 v5.toNat) (fs := []) rfl rfl (TOp.ixo und22 siz45 rfl rfl rfl (at_in he5 hl4) rfl) <|
     (TR.d (r := f32 e6) (fs := []) rfl rfl (TOp.load1_o rfl (at_cell he5) agg45 rfl rfl) <|
     (TR.l (r := i64 v5) rfl rfl (LOp.move rfl rfl) <|
     (TR.l (r := i64 v5) rfl rfl (LOp.move rfl rfl) <|
     (TR.l (r := oref 0 1 0 r2.length) rfl rfl (LOp.move rfl rfl) <|
     (TR.d (r := f32 r7) (fs := []) rfl rfl (TOp.callB (CallAs.func ent26 rfl rfl) (Bors.cons (Bor.agg (Bors.cons (Bor.pure rfl) (Bors.cons (Bor.pure rfl) (Bors.cons (Bor.sl (fun _ => rfl)) Bors.nil)))) (Bors.cons (Bor.pure rfl) (Bors.cons (Bor.pure rfl) (Bors.cons (Bor.pure rfl) (Bors.cons (Bor.pure rfl) (Bors.cons (Bor.own (f := f32) (fun _ => rfl) rfl hl4) Bors.nil)))))) rfl rfl (i_Matrix_lessColumn_ok a0 a1 a2 e6 v5 0 v5 L3 r7 hf6)) <|
     (TR.l (r := ptr [i64 a0, i64 a1, sl a2.length (a2.map f32), sl a3.length (a3.map i64)]) rfl rfl (LOp.fap und33 rfl siz31 rfl rfl rfl) <|
     (TR.l (r := agg [i64 a0, i64 a1, sl a2.length (a2.map f32)]) rfl rfl (LOp.loadAgg agg31 siz31 rfl rfl rfl rfl) <|
     (TR.l (r := i64 v5) rfl rfl (LOp.move rfl rfl) <|
     (TR.l (r := i64 v5) rfl rfl (LOp.move rfl rfl) <|
     (TR.d (r := f32 r8) (fs := []) rfl rfl (TOp.callB (CallAs.func ent27 rfl rfl) (Bors.cons (Bor.agg (Bors.cons (Bor.pure rfl) (Bors.cons (Bor.pure rfl) (Bors.cons (Bor.sl (fun _ => rfl)) Bors.nil)))) (Bors.cons (Bor.pure rfl) (Bors.cons (Bor.pure rfl) Bors.nil))) rfl rfl (i_Matrix_at_ok a0 a1 a2 v5 v5 r8 hf7)) <|
     (TR.d (r := f32 x9) (fs := []) rfl rfl (TOp.eqr (TOp.fop (.inr (.inr (.inr rfl))) rfl (OpF.tmp rfl) (OpF.tmp rfl)) (congrArg (f .f32) hx8)) <|
     (TR.d (r := optr 0 1 v5.toNat) (fs := []) rfl rfl (TOp.ixo und22 siz45 rfl rfl rfl (set_in he9 hl4) rfl) <|
     TR.nil))))))))))))))))))) rfl (by kernel_rfl) rfl fills_nil rfl ?_
    iterate 19 refine ROps.dropS ?_
    refine ROps.drop0 ?_
    refine ROps.st (f := f32) (i := v5) (Γ' := [⟨1, some (L10.map f32)⟩, ⟨0, none⟩]) rfl siz45 rfl rfl rfl aR rfl rfl rfl he9 rfl ?_
    refine zN ?_
    refine RunC.wl (τ' := [(2, ptr [i64 a0, i64 a1, sl a2.length (a2.map f32), sl a3.length (a3.map i64)]), (6, i64 a0), (7, oref 0 1 0 r2.length), (20, i64 a0), (21, i64 v5)]) (Γ' := [⟨1, some (L10.map f32)⟩, ⟨0, none⟩]) ⟨aR, aR, aR, aR, aR, trivial⟩ ⟨⟨rfl, .inr rfl⟩, ⟨rfl, .inr rfl⟩, trivial⟩ ?_
    obtain ⟨x11, hx10, h3_⟩ := olet_some h3_
    refine RunC.regionW ?_
    refine zL (r := i64 x11) rfl rfl rfl (LOp.eqr (LOp.add rfl rfl rfl) (congrArg (ik .i64) hx10)) ?_
    refine zM (r := i64 x11) rfl rfl rfl rfl rfl ?_
    refine zN ?_
    cases Option.some.inj h3_
    exact ⟨_, rfl, ((setAt?_len he9).trans hl4), ⟨aR, aR, aR, aR, aR, trivial⟩, ⟨⟨rfl, .inr rfl⟩, ⟨rfl, .inr rfl⟩, trivial⟩⟩
   ·refine RunC.regionW ?_
    refine zL (r := b false) rfl rfl rfl (LOp.eqb (LOp.lss rfl rfl rfl) hc4) ?_
    refine zN ?_
    refine RunC.seq ?_
    refine RunC.cond_false rfl rfl ?_
    refine RunC.exit ?_
    cases Option.some.inj h3_
    have hx := ho3 _ rfl
    exact ⟨L3, hl4, ⟨aR, aR, aR, trivial⟩, ⟨⟨rfl, .inr rfl⟩, ⟨rfl, .inr rfl⟩, trivial⟩, hx⟩
  ·rintro τ4 Γ4 ⟨L12, hl13, hw4, hd4, rfl⟩
   refine RunC.wl hw4 hd4 ?_
   replace h : i_FactorSolveFlipped_k1 a0 a1 a2 a3 L12 = some (q0, q1) := h
   unfold i_FactorSolveFlipped_k1 at h
   refine RunC.seq ?_
   obtain ⟨hm11, h⟩ := need_some h
   refine RunC.regionW ?_
   refine zM (r := i64 a0) rfl rfl rfl rfl rfl ?_
   refine ROps.d (r := oref 1 1 0 a0.toNat) (fs := [(1, ((List.replicate a0.toNat (some 0)).map f32))]) (Γ' := [⟨1, some (L12.map f32)⟩, ⟨1, some ((List.replicate a0.toNat (some 0)).map f32)⟩]) rfl rfl rfl (TOp.mkS (g := ⟨0, none⟩) (t := 22) (e := 45) (by_ := 4) (f := f32) (zv := some 0) 1 rfl und22 tin45 rfl siz45 zer45 rfl zel45 rfl rfl rfl hm11) rfl ?_
   refine zA (r := oref 1 1 0 a0.toNat) rfl rfl rfl rfl rfl ?_
   refine zN ?_
   refine RunC.seq ?_
   refine RunC.seq ?_
   obtain ⟨x14, hx12, h⟩ := olet_some h
   refine RunC.regionW ?_
   refine zM (r := i64 a0) rfl rfl rfl rfl rfl ?_
   refine zL (r := i64 x14) rfl rfl rfl (LOp.eqr (LOp.sub rfl rfl rfl) (congrArg (ik .i64) hx12)) ?_
   refine zA (r := i64 x14) rfl rfl rfl rfl rfl ?_
   refine zN ?_
   obtain ⟨z5, hz_5, h⟩ := obind_some h
   refine RunC.cutN (fun τ Γ => ∃ (L28 : List F), L28.length = a0.toNat ∧ WeakLe τ [(9, oref 1 1 0 a0.toNat)] ∧ DeadLe Γ [⟨1, none⟩, ⟨1, some (L28.map f32)⟩] ∧ z5 = .inl L28) ?_ ?_
   ·refine RunC.block (RunC.loop (RunL.loopM (x := z5) (i_FactorSolveFlipped_s2 a0 a1 a2 a3) (fun (s : (List F) × (List F) × Int) τ Γ => s.1.length = r2.length ∧ s.2.1.length = a0.toNat ∧ WeakLe τ [(2, ptr [i64 a0, i64 a1, sl a2.length (a2.map f32), sl a3.length (a3.map i64)]), (6, i64 a0), (7, oref 0 1 0 r2.length), (9, oref 1 1 0 a0.toNat), (10, i64 s.2.2)] ∧ DeadLe Γ [⟨1, some (s.1.map f32)⟩, ⟨1, some (s.2.1.map f32)⟩]) ?_ _ _ _ hz_5 ⟨hl13, List.length_replicate, ⟨aR, aR, aR, aR, aR, trivial⟩, ⟨⟨rfl, .inr rfl⟩, ⟨rfl, .inr rfl⟩, trivial⟩⟩))
    rintro ⟨L15, L17, v19⟩ τ5 Γ5 y5_ ⟨hl16, hl18, hw5, hd5⟩ h5_ ho5 hr5
    refine RunC.wl (τ' := [(2, ptr [i64 a0, i64 a1, sl a2.length (a2.map f32), sl a3.length (a3.map i64)]), (6, i64 a0), (7, oref 0 1 0 r2.length), (9, oref 1 1 0 a0.toNat), (10, i64 v19)]) (Γ' := [⟨1, some (L15.map f32)⟩, ⟨1, some (L17.map f32)⟩]) hw5 hd5 ?_
    replace hl16 : L15.length = r2.length := hl16
    replace hl18 : L17.length = a0.toNat := hl18
    replace h5_ : i_FactorSolveFlipped_b2 a0 a1 a2 a3 L15 L17 v19 = some y5_ := h5_
    unfold i_FactorSolveFlipped_b2 at h5_
    refine RunC.seq ?_
    refine RunC.seq ?_
    rcases bsel_some h5_ with ⟨hc13, h5_⟩ | ⟨hc13, h5_⟩
    ·refine RunC.regionW ?_
     refine zM (r := i64 v19) rfl rfl rfl rfl rfl ?_
     refine zL (r := b true) rfl rfl rfl (LOp.eqb (LOp.geq rfl rfl rfl) hc13) ?_
     refine zN ?_
     refine RunC.cond_true rfl rfl ?_
     refine RunC.skip ?_
     refine RunC.seq ?_
     refine RunC.block ?_
     refine RunC.seq ?_
     obtain ⟨e20, he14, h5_⟩ := obind_some h5_
     obtain ⟨x21, hx15, h5_⟩ := olet_some h5_
     obtain ⟨r22, hf16, h5_⟩ := obind_some h5_
     obtain ⟨L23, he17, h5_⟩ := obind_some h5_
     refine RunC.region_draw (Γ' := [⟨1, some (L15.map f32)⟩, ⟨1, some (L17.map f32)⟩]) 15 mixed 
      (TR.l (r := oref 0 1 0 r2.length) rfl rfl (LOp.move rfl rfl) <|
      (TR.l (r := i64 v19) rfl rfl (LOp.move rfl rfl) <|
      (TR.l (r := ptr [i64 a0, i64 a1, sl a2.length (a2.map f32), sl a3.length (a3.map i64)]) rfl rfl (LOp.fap und33 rfl siz31 rfl rfl rfl) <|
      (TR.l (r := agg [i64 a0, i64 a1, sl a2.length (a2.map f32)]) rfl rfl (LOp.loadAgg agg31 siz31 rfl rfl rfl rfl) <|
      (TR.l (r := oref 0 1 0 r2.length) rfl rfl (LOp.move rfl rfl) <|
      (TR.l (r := i64 v19) rfl rfl (LOp.move rfl rfl) <|
      (TR.d (r := optr 0 1 v19.toNat) (fs := []) rfl rfl (TOp.ixo und22 siz45 rfl rfl rfl (at_in he14 hl16) rfl) <|
      (TR.d (r := f32 e20) (fs := []) rfl rfl (TOp.load1_o rfl (at_cell he14) agg45 rfl rfl) <|
      (TR.l (r := i64 v19) rfl rfl (LOp.move rfl rfl) <|
      (TR.l (r := i64 v19) rfl rfl (LOp.move rfl rfl) <|
      (TR.l (r := i64 x21) rfl rfl (LOp.eqr (LOp.add rfl rfl rfl) (congrArg (ik .i64) hx15)) <|
      (TR.l (r := i64 a0) rfl rfl (LOp.move rfl rfl) <|
      (TR.l (r := oref 0 1 0 r2.length) rfl rfl (LOp.move rfl rfl) <|
      (TR.d (r := f32 r22) (fs := []) rfl rfl (TOp.callB (CallAs.func ent26 rfl rfl) (Bors.cons (Bor.agg (Bors.cons (Bor.pure rfl) (Bors.cons (Bor.pure rfl) (Bors.cons (Bor.sl (fun _ => rfl)) Bors.nil)))) (Bors.cons (Bor.pure rfl) (Bors.cons (Bor.pure rfl) (Bors.cons (Bor.pure rfl) (Bors.cons (Bor.pure rfl) (Bors.cons (Bor.own (f := f32) (fun _ => rfl) rfl hl16) Bors.nil)))))) rfl rfl (i_Matrix_lessColumn_ok a0 a1 a2 e20 v19 x21 a0 L15 r22 hf16)) <|
      (TR.d (r := optr 0 1 v19.toNat) (fs := []) rfl rfl (TOp.ixo und22 siz45 rfl rfl rfl (set_in he17 hl16) rfl) <|
      TR.nil))))))))))))))) rfl (by kernel_rfl) rfl fills_nil rfl ?_
     iterate 15 refine ROps.dropS ?_
     refine ROps.drop0 ?_
     refine ROps.st (f := f32) (i := v19) (Γ' := [⟨1, some (L23.map f32)⟩, ⟨1, some (L17.map f32)⟩]) rfl siz45 rfl rfl rfl aR rfl rfl rfl he17 rfl ?_
     refine zN ?_
     refine RunC.wl (τ' := [(2, ptr [i64 a0, i64 a1, sl a2.length (a2.map f32), sl a3.length (a3.map i64)]), (6, i64 a0), (7, oref 0 1 0 r2.length), (9, oref 1 1 0 a0.toNat), (10, i64 v19)]) (Γ' := [⟨1, some (L23.map f32)⟩, ⟨1, some (L17.map f32)⟩]) ⟨aR, aR, aR, aR, aR, trivial⟩ ⟨⟨rfl, .inr rfl⟩, ⟨rfl, .inr rfl⟩, trivial⟩ ?_
     obtain ⟨e24, he18, h5_⟩ := obind_some h5_
     obtain ⟨e25, he19, h5_⟩ := obind_some h5_
     obtain ⟨L26, he20, h5_⟩ := obind_some h5_
     refine RunC.region_draw (Γ' := [⟨1, some (L23.map f32)⟩, ⟨1, some (L17.map f32)⟩]) 11 mixed 
      (TR.l (r := oref 1 1 0 a0.toNat) rfl rfl (LOp.move rfl rfl) <|
      (TR.l (r := ptr [sl a3.length (a3.map i64)]) rfl rfl (LOp.fap und33 rfl siz25 rfl rfl rfl) <|
      (TR.l (r := sl a3.length (a3.map i64)) rfl rfl (LOp.load1 agg25 rfl rfl) <|
      (TR.l (r := i64 v19) rfl rfl (LOp.move rfl rfl) <|
      (TR.l (r := ptr [i64 e24]) rfl rfl (LOp.le (LOp.ix (f := i64) und25 siz2 rfl rfl rfl rfl he18) ALe.ptr) <|
      (TR.l (r := i64 e24) rfl rfl (LOp.load1 agg2 rfl rfl) <|
      (TR.l (r := oref 0 1 0 r2.length) rfl rfl (LOp.move rfl rfl) <|
      (TR.l (r := i64 v19) rfl rfl (LOp.move rfl rfl) <|
      (TR.d (r := optr 0 1 v19.toNat) (fs := []) rfl rfl (TOp.ixo und22 siz45 rfl rfl rfl (at_in he19 ((setAt?_len he17).trans hl16)) rfl) <|
      (TR.d (r := f32 e25) (fs := []) rfl rfl (TOp.load1_o rfl (at_cell he19) agg45 rfl rfl) <|
      (TR.d (r := optr 1 1 e24.toNat) (fs := []) rfl rfl (TOp.ixo und22 siz45 rfl rfl rfl (set_in he20 hl18) rfl) <|
      TR.nil))))))))))) rfl (by kernel_rfl) rfl fills_nil rfl ?_
     iterate 11 refine ROps.dropS ?_
     refine ROps.drop0 ?_
     refine ROps.st (f := f32) (i := e24) (Γ' := [⟨1, some (L23.map f32)⟩, ⟨1, some (L26.map f32)⟩]) rfl siz45 rfl rfl rfl aR rfl rfl rfl he20 rfl ?_
     refine zN ?_
     obtain ⟨x27, hx21, h5_⟩ := olet_some h5_
     refine RunC.regionW ?_
     refine zM (r := i64 v19) rfl rfl rfl rfl rfl ?_
     refine zL (r := i64 x27) rfl rfl rfl (LOp.eqr (LOp.sub rfl rfl rfl) (congrArg (ik .i64) hx21)) ?_
     refine zA (r := i64 x27) rfl rfl rfl rfl rfl ?_
     refine zN ?_
     cases Option.some.inj h5_
     exact ⟨_, rfl, ((setAt?_len he17).trans hl16), ((setAt?_len he20).trans hl18), ⟨aR, aR, aR, aR, aR, trivial⟩, ⟨⟨rfl, .inr rfl⟩, ⟨rfl, .inr rfl⟩, trivial⟩⟩
    ·refine RunC.regionW ?_
     refine zM (r := i64 v19) rfl rfl rfl rfl rfl ?_
     refine zL (r := b false) rfl rfl rfl (LOp.eqb (LOp.geq rfl rfl rfl) hc13) ?_
     refine zN ?_
     refine RunC.cond_false rfl rfl ?_
     refine RunC.exit ?_
     cases Option.some.inj h5_
     have hx := ho5 _ rfl
     exact ⟨L17, hl18, ⟨aR, trivial⟩, ⟨⟨rfl, .inl rfl⟩, ⟨rfl, .inr rfl⟩, trivial⟩, hx⟩
   ·rintro τ6 Γ6 ⟨L28, hl29, hw6, hd6, rfl⟩
    refine RunC.wl hw6 hd6 ?_
    replace h : i_FactorSolveFlipped_k2 a0 L28 = some (q0, q1) := h
    unfold i_FactorSolveFlipped_k2 at h
    refine RunC.seq ?_
    obtain ⟨z7, hf22, h⟩ := obind_some h
    rcases z7 with z7 | z7
    ·replace h := (osum_inl _ _ _).symm.trans h
     obtain ⟨r30, r31, hz8, h⟩ := obind2_some h
     cases hz8
     obtain ⟨hn23, h⟩ := need_some h
     refine RunC.regionW ?_
     refine zM (r := oref 1 1 0 a0.toNat) rfl rfl rfl rfl rfl ?_
     refine ROps.callO (A := [oref 1 1 0 a0.toNat]) (args := [oref 0 0 0 L28.length]) (Γc := [⟨0, some (L28.map f32)⟩]) (Γc' := [⟨0, some (r31.map f32)⟩]) (r' := tup [oref 1 1 0 a0.toNat, b r30]) (Γ' := [⟨1, none⟩, ⟨1, some (r31.map f32)⟩]) [(1, 1)] [] rfl (CallAs.func ent28 rfl rfl) rfl rfl (SelOk.of (show List.Nodup [1] from by decide) (SelL.arr0 (f := f32) (fun _ => rfl) rfl trivial)) (live_of ⟨⟨_, _, rfl⟩, trivial⟩) (by simp [ren, rens, sigma, rens_f32, rens_f64, rens_i64, rens_ik, rens_str, rens_cp, hl29]) rfl (i_allFinite_0o_ok0 L28 r30 r31 hf22) rfl (news_of trivial) (show List.Nodup [1] from by decide) (by simp [ren, rens, sigma, of_decide_eq_true hn23]) (by simp [backOb, sigma, ren, rens, rens_f32, rens_f64, rens_i64, rens_ik, rens_str, rens_cp]) ?_
     refine zL (r := oref 1 1 0 a0.toNat) rfl rfl rfl (LOp.extract rfl rfl rfl) ?_
     refine zL (r := b r30) rfl rfl rfl (LOp.extract rfl rfl rfl) ?_
     refine zA (r := oref 1 1 0 a0.toNat) rfl rfl rfl rfl rfl ?_
     refine zA (r := b r30) rfl rfl rfl rfl rfl ?_
     refine zN ?_
     refine RunC.ret ?_
     have hq := Option.some.inj h
     obtain ⟨hq0, hq⟩ := Prod.mk.inj hq
     subst q0
     subst q1
     exact bodyQ.mk (r' := tup [oref 1 1 0 r31.length, b r30]) [(1, 1)] (.inr rfl) rfl (show List.Nodup [1] from by decide) rfl rfl (Res.eq (Res.two rfl (RV.tmp rfl) (RV.tmp rfl)) (by rw [(show r31.length = a0.toNat from (of_decide_eq_true hn23))] <;> rfl)) (SelL.arr0 (f := f32) (fun _ => rfl) rfl trivial)
    ·replace h := (osum_inr _ _ _).symm.trans h
     obtain ⟨r32, r33, r34, hz9, h⟩ := obind3_some h
     cases hz9
     obtain ⟨hn24, h⟩ := need_some h
     refine RunC.regionW ?_
     refine zM (r := oref 1 1 0 a0.toNat) rfl rfl rfl rfl rfl ?_
     refine ROps.callO (A := [oref 1 1 0 a0.toNat]) (args := [oref 0 0 0 L28.length]) (Γc := [⟨0, some (L28.map f32)⟩]) (Γc' := [⟨0, some (r33.map f32)⟩, ⟨0, some (r34.map f32)⟩]) (r' := tup [oref 0 2 0 r34.length, b r32]) (Γ' := [⟨2, some (r34.map f32)⟩, ⟨1, some (r33.map f32)⟩]) [(1, 1)] [(0, 2)] rfl (CallAs.func ent28 rfl rfl) rfl rfl (SelOk.of (show List.Nodup [1] from by decide) (SelL.arr0 (f := f32) (fun _ => rfl) rfl trivial)) (live_of ⟨⟨_, _, rfl⟩, trivial⟩) (by simp [ren, rens, sigma, rens_f32, rens_f64, rens_i64, rens_ik, rens_str, rens_cp, hl29]) rfl (i_allFinite_0o_ok1 L28 r32 r33 r34 hf22) rfl (news_of ⟨⟨_, rfl, rfl⟩, trivial⟩) (show List.Nodup [1, 0] from by decide) (by simp [ren, rens, sigma, of_decide_eq_true hn24]) (by simp [backOb, sigma, ren, rens, rens_f32, rens_f64, rens_i64, rens_ik, rens_str, rens_cp]) ?_
     refine zL (r := oref 0 2 0 r34.length) rfl rfl rfl (LOp.extract rfl rfl rfl) ?_
     refine zL (r := b r32) rfl rfl rfl (LOp.extract rfl rfl rfl) ?_
     refine zA (r := oref 0 2 0 r34.length) rfl rfl rfl rfl rfl ?_
     refine zA (r := b r32) rfl rfl rfl rfl rfl ?_
     refine zN ?_
     refine RunC.ret ?_
     have hq := Option.some.inj h
     obtain ⟨hq0, hq⟩ := Prod.mk.inj hq
     subst q0
     subst q1
     exact bodyQ.mk (r' := tup [oref 0 2 0 r34.length, b r32]) [(0, 2)] (.inr rfl) rfl (show List.Nodup [0] from by decide) rfl rfl (Res.two rfl (RV.tmp rfl) (RV.tmp rfl)) (SelL.arr0 (f := f32) (fun _ => rfl) rfl trivial)
 ·refine RunC.regionW ?_
  refine zL (r := agg [i64 a0, i64 a1, sl a2.length (a2.map f32), sl a3.length (a3.map i64)]) rfl rfl rfl (LOp.loadAgg agg33 siz33 rfl rfl rfl rfl) ?_
  refine zM (r := sl a4.length (a4.map f32)) rfl rfl rfl rfl rfl ?_
  refine ROps.d (r := b false) (fs := []) (Γ' := [⟨0, none⟩, ⟨0, none⟩]) rfl rfl rfl (TOp.eqb (TOp.callB (CallAs.func ent24 rfl rfl) (Bors.cons (Bor.agg (Bors.cons (Bor.pure rfl) (Bors.cons (Bor.pure rfl) (Bors.cons (Bor.sl (fun _ => rfl)) (Bors.cons (Bor.sl (fun _ => rfl)) Bors.nil))))) (Bors.cons (Bor.sl (fun _ => rfl)) Bors.nil)) rfl rfl (i_Factor_takes_ok a0 a1 a2 a3 a4 r1 hf1)) hc2) rfl ?_
  refine zL (r := b true) rfl rfl rfl (LOp.eqb (LOp.not rfl rfl) rfl) ?_
  refine zN ?_
  refine RunC.cond_true rfl rfl ?_
  refine zQ ?_
  refine zA (r := nilsl) rfl rfl rfl rfl rfl ?_
  refine zA (r := b false) rfl rfl rfl rfl rfl ?_
  refine zN ?_
  refine RunC.nil_slot (Γ' := [⟨1, some (([] : List F).map f32)⟩, ⟨0, none⟩]) 4 0 rfl rfl rfl ?_
  refine RunC.ret ?_
  have hq := Option.some.inj h
  obtain ⟨hq0, hq⟩ := Prod.mk.inj hq
  subst q0
  subst q1
  exact bodyQ.mk (r' := tup [oref 0 1 0 (([] : List F).length), b false]) [(0, 1)] (.inr rfl) rfl (show List.Nodup [0] from by decide) rfl rfl (Res.eq (Res.two rfl (RV.tmp rfl) (RV.tmp rfl)) (by rw [(show ([] : List F).length = 0 from rfl)] <;> rfl)) (SelL.arr0 (f := f32) (fun _ => rfl) rfl trivial)
noncomputable def w_sameFloat_k1 (a0 : F) (a1 : F) : Option (Bool) :=
 some (feq .f64 a0 a1)
noncomputable def w_sameFloat (a0 : F) (a1 : F) : Option (Bool) :=
 bsel (!feq .f64 a0 a0) (
  some (!feq .f64 a1 a1)) (
  bsel (!feq .f64 a1 a1) (
   some false) (
   bsel (feq .f64 a0 (some 0)) (
    bsel (feq .f64 a1 (some 0)) (
     olet (fop .quo .f64 (some 4607182418800017408) a0) fun (x1 : F) =>
     olet (fop .quo .f64 (some 4607182418800017408) a1) fun (x2 : F) =>
     some ((flt .f64 (some 0) x1) == (flt .f64 (some 0) x2))) (
     w_sameFloat_k1 a0 a1)) (
    w_sameFloat_k1 a0 a1)))
theorem w_sameFloat_ok (a0 : F) (a1 : F) (q0 : Bool) (h : w_sameFloat a0 a1 = some q0) : Ev Try.prog 29 [f64 a0, f64 a1] [] (b q0) [] := by
 refine Ev.start Try.func29 rfl rfl 0 (τ := [(0, f64 a0), (1, f64 a1)]) rfl (Γ' := []) rfl (n := 75) rfl (g := 0) rfl (fun _ => rfl) ?_
 unfold w_sameFloat at h
 refine zQ ?_
 refine zA (r := b false) rfl rfl rfl rfl rfl ?_
 refine zN ?_
 refine RunC.seq ?_
 refine RunC.seq ?_
 rcases bsel_some h with ⟨hc1, h⟩ | ⟨hc1, h⟩
 ·refine RunC.regionW ?_
  refine zM (r := f64 a0) rfl rfl rfl rfl rfl ?_
  refine zM (r := f64 a0) rfl rfl rfl rfl rfl ?_
  refine zL (r := b true) rfl rfl rfl (LOp.eqb (LOp.fne rfl (OpF.tmp rfl) (OpF.tmp rfl)) hc1) ?_
  refine zM (r := b true) rfl rfl rfl rfl rfl ?_
  refine ROps.s rfl rfl rfl ?_
  refine ROps.s rfl rfl rfl ?_
  refine ROps.s rfl rfl rfl ?_
  refine zL (r := b true) rfl rfl rfl (LOp.pick_true rfl rfl rfl) ?_
  refine zN ?_
  refine RunC.cond_true rfl rfl ?_
  refine zQ ?_
  refine zM (r := f64 a0) rfl rfl rfl rfl rfl ?_
  refine zM (r := f64 a0) rfl rfl rfl rfl rfl ?_
  refine zL (r := b true) rfl rfl rfl (LOp.eqb (LOp.fne rfl (OpF.tmp rfl) (OpF.tmp rfl)) hc1) ?_
  refine zM (r := b true) rfl rfl rfl rfl rfl ?_
  refine zM (r := f64 a1) rfl rfl rfl rfl rfl ?_
  refine zM (r := f64 a1) rfl rfl rfl rfl rfl ?_
  refine zL (r := b (!feq .f64 a1 a1)) rfl rfl rfl (LOp.fne rfl (OpF.tmp rfl) (OpF.tmp rfl)) ?_
  refine zL (r := b (!feq .f64 a1 a1)) rfl rfl rfl (LOp.pick_true rfl rfl rfl) ?_
  refine zA (r := b (!feq .f64 a1 a1)) rfl rfl rfl rfl rfl ?_
  refine zN ?_
  refine RunC.ret ?_
  have hq := Option.some.inj h
  subst q0
  exact bodyQ.pure (.inr rfl) rfl (Res.one rfl (RV.tmp rfl))
 ·rcases bsel_some h with ⟨hc2, h⟩ | ⟨hc2, h⟩
  ·refine RunC.regionW ?_
   refine zM (r := f64 a0) rfl rfl rfl rfl rfl ?_
   refine zM (r := f64 a0) rfl rfl rfl rfl rfl ?_
   refine zL (r := b false) rfl rfl rfl (LOp.eqb (LOp.fne rfl (OpF.tmp rfl) (OpF.tmp rfl)) hc1) ?_
   refine zM (r := b false) rfl rfl rfl rfl rfl ?_
   refine zM (r := f64 a1) rfl rfl rfl rfl rfl ?_
   refine zM (r := f64 a1) rfl rfl rfl rfl rfl ?_
   refine zL (r := b true) rfl rfl rfl (LOp.eqb (LOp.fne rfl (OpF.tmp rfl) (OpF.tmp rfl)) hc2) ?_
   refine zL (r := b true) rfl rfl rfl (LOp.pick_false rfl rfl rfl) ?_
   refine zN ?_
   refine RunC.cond_true rfl rfl ?_
   refine zQ ?_
   refine zM (r := f64 a0) rfl rfl rfl rfl rfl ?_
   refine zM (r := f64 a0) rfl rfl rfl rfl rfl ?_
   refine zL (r := b false) rfl rfl rfl (LOp.eqb (LOp.fne rfl (OpF.tmp rfl) (OpF.tmp rfl)) hc1) ?_
   refine zM (r := b false) rfl rfl rfl rfl rfl ?_
   refine ROps.s rfl rfl rfl ?_
   refine ROps.s rfl rfl rfl ?_
   refine ROps.s rfl rfl rfl ?_
   refine zL (r := b false) rfl rfl rfl (LOp.pick_false rfl rfl rfl) ?_
   refine zA (r := b false) rfl rfl rfl rfl rfl ?_
   refine zN ?_
   refine RunC.ret ?_
   have hq := Option.some.inj h
   subst q0
   exact bodyQ.pure (.inr rfl) rfl (Res.one rfl (RV.tmp rfl))
  ·refine RunC.regionW ?_
   refine zM (r := f64 a0) rfl rfl rfl rfl rfl ?_
   refine zM (r := f64 a0) rfl rfl rfl rfl rfl ?_
   refine zL (r := b false) rfl rfl rfl (LOp.eqb (LOp.fne rfl (OpF.tmp rfl) (OpF.tmp rfl)) hc1) ?_
   refine zM (r := b false) rfl rfl rfl rfl rfl ?_
   refine zM (r := f64 a1) rfl rfl rfl rfl rfl ?_
   refine zM (r := f64 a1) rfl rfl rfl rfl rfl ?_
   refine zL (r := b false) rfl rfl rfl (LOp.eqb (LOp.fne rfl (OpF.tmp rfl) (OpF.tmp rfl)) hc2) ?_
   refine zL (r := b false) rfl rfl rfl (LOp.pick_false rfl rfl rfl) ?_
   refine zN ?_
   refine RunC.cond_false rfl rfl ?_
   refine RunC.skip ?_
   refine RunC.seq ?_
   refine RunC.cutN (fun τ Γ =>  WeakLe τ [(0, f64 a0), (1, f64 a1)] ∧ DeadLe Γ [] ∧ w_sameFloat_k1 a0 a1 = some q0) ?_ ?_
   ·refine RunC.seq ?_
    rcases bsel_some h with ⟨hc3, h⟩ | ⟨hc3, h⟩
    ·rcases bsel_some h with ⟨hc4, h⟩ | ⟨hc4, h⟩
     ·refine RunC.regionW ?_
      refine zM (r := f64 a0) rfl rfl rfl rfl rfl ?_
      refine zL (r := b true) rfl rfl rfl (LOp.eqb (LOp.feq rfl (OpF.tmp rfl) (OpF.const rfl (by kernel_rfl) (by kernel_rfl))) hc3) ?_
      refine zM (r := b true) rfl rfl rfl rfl rfl ?_
      refine zM (r := f64 a1) rfl rfl rfl rfl rfl ?_
      refine zL (r := b true) rfl rfl rfl (LOp.eqb (LOp.feq rfl (OpF.tmp rfl) (OpF.const rfl (by kernel_rfl) (by kernel_rfl))) hc4) ?_
      refine zL (r := b true) rfl rfl rfl (LOp.pick_true rfl rfl rfl) ?_
      refine zN ?_
      refine RunC.wl (τ' := [(0, f64 a0), (1, f64 a1), (26, b true)]) (Γ' := []) ⟨aR, aR, aR, trivial⟩ trivial ?_
      refine RunC.cond_true rfl rfl ?_
      refine RunC.seq ?_
      obtain ⟨x1, hx5, h⟩ := olet_some h
      obtain ⟨x2, hx6, h⟩ := olet_some h
      refine RunC.regionW ?_
      refine zM (r := f64 a0) rfl rfl rfl rfl rfl ?_
      refine ROps.d (r := f64 x1) (fs := []) (Γ' := []) rfl rfl rfl (TOp.eqr (TOp.fop (.inr (.inr (.inr rfl))) rfl (OpF.const rfl (by kernel_rfl) (by kernel_rfl)) (OpF.tmp rfl)) (congrArg (f .f64) hx5)) rfl ?_
      refine zL (r := b (flt .f64 (some 0) x1)) rfl rfl rfl (LOp.fgt rfl (OpF.tmp rfl) (OpF.const rfl (by kernel_rfl) (by kernel_rfl))) ?_
      refine zM (r := f64 a1) rfl rfl rfl rfl rfl ?_
      refine ROps.d (r := f64 x2) (fs := []) (Γ' := []) rfl rfl rfl (TOp.eqr (TOp.fop (.inr (.inr (.inr rfl))) rfl (OpF.const rfl (by kernel_rfl) (by kernel_rfl)) (OpF.tmp rfl)) (congrArg (f .f64) hx6)) rfl ?_
      refine zL (r := b (flt .f64 (some 0) x2)) rfl rfl rfl (LOp.fgt rfl (OpF.tmp rfl) (OpF.const rfl (by kernel_rfl) (by kernel_rfl))) ?_
      refine zL (r := b ((flt .f64 (some 0) x1) == (flt .f64 (some 0) x2))) rfl rfl rfl (LOp.eqlb pun4 rfl rfl rfl) ?_
      refine zA (r := b ((flt .f64 (some 0) x1) == (flt .f64 (some 0) x2))) rfl rfl rfl rfl rfl ?_
      refine zN ?_
      refine RunC.ret ?_
      have hq := Option.some.inj h
      subst q0
      exact bodyQ.pure (.inr rfl) rfl (Res.one rfl (RV.tmp rfl))
     ·refine RunC.regionW ?_
      refine zM (r := f64 a0) rfl rfl rfl rfl rfl ?_
      refine zL (r := b true) rfl rfl rfl (LOp.eqb (LOp.feq rfl (OpF.tmp rfl) (OpF.const rfl (by kernel_rfl) (by kernel_rfl))) hc3) ?_
      refine zM (r := b true) rfl rfl rfl rfl rfl ?_
      refine zM (r := f64 a1) rfl rfl rfl rfl rfl ?_
      refine zL (r := b false) rfl rfl rfl (LOp.eqb (LOp.feq rfl (OpF.tmp rfl) (OpF.const rfl (by kernel_rfl) (by kernel_rfl))) hc4) ?_
      refine zL (r := b false) rfl rfl rfl (LOp.pick_true rfl rfl rfl) ?_
      refine zN ?_
      refine RunC.wl (τ' := [(0, f64 a0), (1, f64 a1), (26, b false)]) (Γ' := []) ⟨aR, aR, aR, trivial⟩ trivial ?_
      refine RunC.cond_false rfl rfl ?_
      refine RunC.skip ?_
      exact ⟨⟨aR, aR, trivial⟩, trivial, h⟩
    ·refine RunC.regionW ?_
     refine zM (r := f64 a0) rfl rfl rfl rfl rfl ?_
     refine zL (r := b false) rfl rfl rfl (LOp.eqb (LOp.feq rfl (OpF.tmp rfl) (OpF.const rfl (by kernel_rfl) (by kernel_rfl))) hc3) ?_
     refine zM (r := b false) rfl rfl rfl rfl rfl ?_
     refine ROps.s rfl rfl rfl ?_
     refine ROps.s rfl rfl rfl ?_
     refine zL (r := b false) rfl rfl rfl (LOp.pick_false rfl rfl rfl) ?_
     refine zN ?_
     refine RunC.wl (τ' := [(0, f64 a0), (1, f64 a1), (26, b false)]) (Γ' := []) ⟨aR, aR, aR, trivial⟩ trivial ?_
     refine RunC.cond_false rfl rfl ?_
     refine RunC.skip ?_
     exact ⟨⟨aR, aR, trivial⟩, trivial, h⟩
   ·rintro τ2 Γ2 ⟨hw2, hd2, h⟩
    refine RunC.wl hw2 hd2 ?_
    unfold w_sameFloat_k1 at h
    refine zQ ?_
    refine zM (r := f64 a0) rfl rfl rfl rfl rfl ?_
    refine zM (r := f64 a1) rfl rfl rfl rfl rfl ?_
    refine zL (r := b (feq .f64 a0 a1)) rfl rfl rfl (LOp.feq rfl (OpF.tmp rfl) (OpF.tmp rfl)) ?_
    refine zA (r := b (feq .f64 a0 a1)) rfl rfl rfl rfl rfl ?_
    refine zN ?_
    refine RunC.ret ?_
    have hq := Option.some.inj h
    subst q0
    exact bodyQ.pure (.inr rfl) rfl (Res.one rfl (RV.tmp rfl))
noncomputable def w_eqFloat32S_b1 (a0 : List F) (a1 : List F) (v1 : Int) : Option (LR (Int) (Unit) (Bool)) :=
 bsel (decide (v1 < (a0.length : Int))) (
  obind (at? a0 v1) fun (e2 : F) =>
  olet (fwiden e2) fun (x3 : F) =>
  obind (at? a1 v1) fun (e4 : F) =>
  olet (fwiden e4) fun (x5 : F) =>
  obind (w_sameFloat x3 x5) fun (r6 : Bool) =>
  bsel r6 (
   olet (IntKind.i64.wrap (v1 + 1)) fun (x7 : Int) =>
   some (LR.next x7)) (
   some (LR.ret false))) (
  some (LR.out ()))
noncomputable def w_eqFloat32S_s1 (a0 : List F) (a1 : List F) : (Int) → Option (LR (Int) (Unit) (Bool)) := fun s => w_eqFloat32S_b1 a0 a1 s
noncomputable def w_eqFloat32S_k1  : Option (Bool) :=
 some true
noncomputable def w_eqFloat32S (a0 : List F) (a1 : List F) : Option (Bool) :=
 bsel (!decide ((a0.length : Int) = (a1.length : Int))) (
  some false) (
  obind (loopM (w_eqFloat32S_s1 a0 a1) 0) fun z => osum z (fun _ => w_eqFloat32S_k1) (fun r => some r))
theorem w_eqFloat32S_ok (a0 : List F) (a1 : List F) (q0 : Bool) (h : w_eqFloat32S a0 a1 = some q0) : Ev Try.prog 10 [sl a0.length (a0.map f32), sl a1.length (a1.map f32)] [] (b q0) [] := by
 refine Ev.start Try.func10 rfl rfl 0 (τ := [(0, sl a0.length (a0.map f32)), (1, sl a1.length (a1.map f32))]) rfl (Γ' := []) rfl (n := 59) rfl (g := 0) rfl (fun _ => rfl) ?_
 unfold w_eqFloat32S at h
 refine zQ ?_
 refine zA (r := b false) rfl rfl rfl rfl rfl ?_
 refine zN ?_
 refine RunC.seq ?_
 refine RunC.seq ?_
 rcases bsel_some h with ⟨hc1, h⟩ | ⟨hc1, h⟩
 ·refine RunC.regionW ?_
  refine zM (r := sl a0.length (a0.map f32)) rfl rfl rfl rfl rfl ?_
  refine zL (r := i64 (a0.length : Int)) rfl rfl rfl (LOp.len_sl und22 rfl rfl) ?_
  refine zM (r := sl a1.length (a1.map f32)) rfl rfl rfl rfl rfl ?_
  refine zL (r := i64 (a1.length : Int)) rfl rfl rfl (LOp.len_sl und22 rfl rfl) ?_
  refine zL (r := b true) rfl rfl rfl (LOp.eqb (LOp.neq rfl rfl rfl) hc1) ?_
  refine zN ?_
  refine RunC.cond_true rfl rfl ?_
  refine zQ ?_
  refine zA (r := b false) rfl rfl rfl rfl rfl ?_
  refine zN ?_
  refine RunC.ret ?_
  have hq := Option.some.inj h
  subst q0
  exact bodyQ.pure (.inr rfl) rfl (Res.one rfl (RV.tmp rfl))
 ·refine RunC.regionW ?_
  refine zM (r := sl a0.length (a0.map f32)) rfl rfl rfl rfl rfl ?_
  refine zL (r := i64 (a0.length : Int)) rfl rfl rfl (LOp.len_sl und22 rfl rfl) ?_
  refine zM (r := sl a1.length (a1.map f32)) rfl rfl rfl rfl rfl ?_
  refine zL (r := i64 (a1.length : Int)) rfl rfl rfl (LOp.len_sl und22 rfl rfl) ?_
  refine zL (r := b false) rfl rfl rfl (LOp.eqb (LOp.neq rfl rfl rfl) hc1) ?_
  refine zN ?_
  refine RunC.cond_false rfl rfl ?_
  refine RunC.skip ?_
  refine RunC.seq ?_
  refine zQ ?_
  refine zA (r := i64 0) rfl rfl rfl rfl rfl ?_
  refine zN ?_
  obtain ⟨z2, hz_2, h⟩ := obind_some h
  refine RunC.cutN (fun τ Γ => WeakLe τ [] ∧ DeadLe Γ [] ∧ z2 = .inl ()) ?_ ?_
  ·refine RunC.block (RunC.loop (RunL.loopM (x := z2) (w_eqFloat32S_s1 a0 a1) (fun (s : Int) τ Γ => WeakLe τ [(0, sl a0.length (a0.map f32)), (1, sl a1.length (a1.map f32)), (5, i64 s)] ∧ DeadLe Γ []) ?_ _ _ _ hz_2 ⟨⟨aR, aR, aR, trivial⟩, trivial⟩))
   rintro v1 τ2 Γ2 y2_ ⟨hw2, hd2⟩ h2_ ho2 hr2
   refine RunC.wl (τ' := [(0, sl a0.length (a0.map f32)), (1, sl a1.length (a1.map f32)), (5, i64 v1)]) (Γ' := []) hw2 hd2 ?_
   replace h2_ : w_eqFloat32S_b1 a0 a1 v1 = some y2_ := h2_
   unfold w_eqFloat32S_b1 at h2_
   refine RunC.seq ?_
   refine RunC.seq ?_
   rcases bsel_some h2_ with ⟨hc2, h2_⟩ | ⟨hc2, h2_⟩
   ·refine RunC.regionW ?_
    refine zM (r := i64 v1) rfl rfl rfl rfl rfl ?_
    refine zM (r := sl a0.length (a0.map f32)) rfl rfl rfl rfl rfl ?_
    refine zL (r := i64 (a0.length : Int)) rfl rfl rfl (LOp.len_sl und22 rfl rfl) ?_
    refine zL (r := b true) rfl rfl rfl (LOp.eqb (LOp.lss rfl rfl rfl) hc2) ?_
    refine zN ?_
    refine RunC.cond_true rfl rfl ?_
    refine RunC.skip ?_
    refine RunC.seq ?_
    refine RunC.block ?_
    refine RunC.seq ?_
    obtain ⟨e2, he3, h2_⟩ := obind_some h2_
    obtain ⟨x3, hx4, h2_⟩ := olet_some h2_
    obtain ⟨e4, he5, h2_⟩ := obind_some h2_
    obtain ⟨x5, hx6, h2_⟩ := olet_some h2_
    obtain ⟨r6, hf7, h2_⟩ := obind_some h2_
    rcases bsel_some h2_ with ⟨hc8, h2_⟩ | ⟨hc8, h2_⟩
    ·refine RunC.region_draw (Γ' := []) 12 mixed 
      (TR.l (r := sl a0.length (a0.map f32)) rfl rfl (LOp.move rfl rfl) <|
      (TR.l (r := i64 v1) rfl rfl (LOp.move rfl rfl) <|
      (TR.l (r := ptr [f32 e2]) rfl rfl (LOp.le (LOp.ix (f := f32) und22 siz45 rfl rfl rfl rfl he3) ALe.ptr) <|
      (TR.l (r := f32 e2) rfl rfl (LOp.load1 agg45 rfl rfl) <|
      (TR.d (r := f64 x3) (fs := []) rfl rfl (TOp.eqr (TOp.widen (src := 45) (dst := 55) ⟨_, pun45⟩ pun55 rfl (OpF.tmp rfl)) (congrArg (f .f64) hx4)) <|
      (TR.l (r := sl a1.length (a1.map f32)) rfl rfl (LOp.move rfl rfl) <|
      (TR.l (r := i64 v1) rfl rfl (LOp.move rfl rfl) <|
      (TR.l (r := ptr [f32 e4]) rfl rfl (LOp.le (LOp.ix (f := f32) und22 siz45 rfl rfl rfl rfl he5) ALe.ptr) <|
      (TR.l (r := f32 e4) rfl rfl (LOp.load1 agg45 rfl rfl) <|
      (TR.d (r := f64 x5) (fs := []) rfl rfl (TOp.eqr (TOp.widen (src := 45) (dst := 55) ⟨_, pun45⟩ pun55 rfl (OpF.tmp rfl)) (congrArg (f .f64) hx6)) <|
      (TR.d (r := b true) (fs := []) rfl rfl (TOp.eqb (TOp.callB (CallAs.func ent29 rfl rfl) (Bors.cons (Bor.pure rfl) (Bors.cons (Bor.pure rfl) Bors.nil)) rfl rfl (w_sameFloat_ok x3 x5 r6 hf7)) hc8) <|
      (TR.l (r := b false) rfl rfl (LOp.eqb (LOp.not rfl rfl) rfl) <|
      TR.nil)))))))))))) rfl (by kernel_rfl) rfl fills_nil rfl ?_
     iterate 12 refine ROps.dropS ?_
     refine ROps.drop0 ?_
     refine zN ?_
     refine RunC.wl (τ' := [(0, sl a0.length (a0.map f32)), (1, sl a1.length (a1.map f32)), (5, i64 v1), (28, b false)]) (Γ' := []) ⟨aR, aR, aR, aR, trivial⟩ trivial ?_
     refine RunC.cond_false rfl rfl ?_
     refine RunC.skip ?_
     obtain ⟨x7, hx9, h2_⟩ := olet_some h2_
     refine RunC.regionW ?_
     refine zM (r := i64 v1) rfl rfl rfl rfl rfl ?_
     refine zL (r := i64 x7) rfl rfl rfl (LOp.eqr (LOp.add rfl rfl rfl) (congrArg (ik .i64) hx9)) ?_
     refine zA (r := i64 x7) rfl rfl rfl rfl rfl ?_
     refine zN ?_
     cases Option.some.inj h2_
     exact ⟨_, rfl, ⟨aR, aR, aR, trivial⟩, trivial⟩
    ·refine RunC.region_draw (Γ' := []) 12 mixed 
      (TR.l (r := sl a0.length (a0.map f32)) rfl rfl (LOp.move rfl rfl) <|
      (TR.l (r := i64 v1) rfl rfl (LOp.move rfl rfl) <|
      (TR.l (r := ptr [f32 e2]) rfl rfl (LOp.le (LOp.ix (f := f32) und22 siz45 rfl rfl rfl rfl he3) ALe.ptr) <|
      (TR.l (r := f32 e2) rfl rfl (LOp.load1 agg45 rfl rfl) <|
      (TR.d (r := f64 x3) (fs := []) rfl rfl (TOp.eqr (TOp.widen (src := 45) (dst := 55) ⟨_, pun45⟩ pun55 rfl (OpF.tmp rfl)) (congrArg (f .f64) hx4)) <|
      (TR.l (r := sl a1.length (a1.map f32)) rfl rfl (LOp.move rfl rfl) <|
      (TR.l (r := i64 v1) rfl rfl (LOp.move rfl rfl) <|
      (TR.l (r := ptr [f32 e4]) rfl rfl (LOp.le (LOp.ix (f := f32) und22 siz45 rfl rfl rfl rfl he5) ALe.ptr) <|
      (TR.l (r := f32 e4) rfl rfl (LOp.load1 agg45 rfl rfl) <|
      (TR.d (r := f64 x5) (fs := []) rfl rfl (TOp.eqr (TOp.widen (src := 45) (dst := 55) ⟨_, pun45⟩ pun55 rfl (OpF.tmp rfl)) (congrArg (f .f64) hx6)) <|
      (TR.d (r := b false) (fs := []) rfl rfl (TOp.eqb (TOp.callB (CallAs.func ent29 rfl rfl) (Bors.cons (Bor.pure rfl) (Bors.cons (Bor.pure rfl) Bors.nil)) rfl rfl (w_sameFloat_ok x3 x5 r6 hf7)) hc8) <|
      (TR.l (r := b true) rfl rfl (LOp.eqb (LOp.not rfl rfl) rfl) <|
      TR.nil)))))))))))) rfl (by kernel_rfl) rfl fills_nil rfl ?_
     iterate 12 refine ROps.dropS ?_
     refine ROps.drop0 ?_
     refine zN ?_
     refine RunC.wl (τ' := [(0, sl a0.length (a0.map f32)), (1, sl a1.length (a1.map f32)), (5, i64 v1), (28, b true)]) (Γ' := []) ⟨aR, aR, aR, aR, trivial⟩ trivial ?_
     refine RunC.cond_true rfl rfl ?_
     refine zQ ?_
     refine zA (r := b false) rfl rfl rfl rfl rfl ?_
     refine zN ?_
     refine RunC.ret ?_
     cases Option.some.inj h2_
     have hx3_ := hr2 _ rfl
     subst hx3_
     have hq := Option.some.inj h
     subst q0
     exact bodyQ.pure (.inr rfl) rfl (Res.one rfl (RV.tmp rfl))
   ·refine RunC.regionW ?_
    refine zM (r := i64 v1) rfl rfl rfl rfl rfl ?_
    refine zM (r := sl a0.length (a0.map f32)) rfl rfl rfl rfl rfl ?_
    refine zL (r := i64 (a0.length : Int)) rfl rfl rfl (LOp.len_sl und22 rfl rfl) ?_
    refine zL (r := b false) rfl rfl rfl (LOp.eqb (LOp.lss rfl rfl rfl) hc2) ?_
    refine zN ?_
    refine RunC.cond_false rfl rfl ?_
    refine RunC.exit ?_
    cases Option.some.inj h2_
    have hx := ho2 _ rfl
    exact ⟨trivial, trivial, hx⟩
  ·rintro τ4 Γ4 ⟨hw4, hd4, rfl⟩
   refine RunC.wl hw4 hd4 ?_
   replace h : w_eqFloat32S_k1 = some q0 := h
   unfold w_eqFloat32S_k1 at h
   refine zQ ?_
   refine zA (r := b true) rfl rfl rfl rfl rfl ?_
   refine zN ?_
   refine RunC.ret ?_
   have hq := Option.some.inj h
   subst q0
   exact bodyQ.pure (.inr rfl) rfl (Res.one rfl (RV.tmp rfl))
noncomputable def w_eqMatrix (a0 : Int) (a1 : Int) (a2 : List F) (a3 : Int) (a4 : Int) (a5 : List F) : Option (Bool) :=
 bsel (!decide (a0 = a3)) (
  some false) (
  bsel (!decide (a1 = a4)) (
   some false) (
   obind (w_eqFloat32S a2 a5) fun (r1 : Bool) =>
   bsel r1 (
    some true) (
    some false)))
theorem w_eqMatrix_ok (a0 : Int) (a1 : Int) (a2 : List F) (a3 : Int) (a4 : Int) (a5 : List F) (q0 : Bool) (h : w_eqMatrix a0 a1 a2 a3 a4 a5 = some q0) : Ev Try.prog 30 [agg [i64 a0, i64 a1, sl a2.length (a2.map f32)], agg [i64 a3, i64 a4, sl a5.length (a5.map f32)]] [] (b q0) [] := by
 refine Ev.start Try.func30 rfl rfl 0 (τ := [(0, agg [i64 a0, i64 a1, sl a2.length (a2.map f32)]), (1, agg [i64 a3, i64 a4, sl a5.length (a5.map f32)])]) rfl (Γ' := []) rfl (n := 43) rfl (g := 0) rfl (fun _ => rfl) ?_
 unfold w_eqMatrix at h
 refine zQ ?_
 refine ROps.d (r := ptr [i64 a0, i64 a1, sl a2.length (a2.map f32)]) (fs := []) (Γ' := []) rfl rfl rfl (TOp.box_s rfl rfl rfl) rfl ?_
 refine ROps.d (r := ptr [i64 a3, i64 a4, sl a5.length (a5.map f32)]) (fs := []) (Γ' := []) rfl rfl rfl (TOp.box_s rfl rfl rfl) rfl ?_
 refine zA (r := b false) rfl rfl rfl rfl rfl ?_
 refine zN ?_
 refine RunC.seq ?_
 refine RunC.seq ?_
 rcases bsel_some h with ⟨hc1, h⟩ | ⟨hc1, h⟩
 ·refine RunC.regionW ?_
  refine zL (r := ptr [i64 a0, i64 a1, sl a2.length (a2.map f32)]) rfl rfl rfl (LOp.fap und31 rfl siz2 rfl rfl rfl) ?_
  refine zL (r := i64 a0) rfl rfl rfl (LOp.load1 agg2 rfl rfl) ?_
  refine zL (r := ptr [i64 a3, i64 a4, sl a5.length (a5.map f32)]) rfl rfl rfl (LOp.fap und31 rfl siz2 rfl rfl rfl) ?_
  refine zL (r := i64 a3) rfl rfl rfl (LOp.load1 agg2 rfl rfl) ?_
  refine zL (r := b true) rfl rfl rfl (LOp.eqb (LOp.neq rfl rfl rfl) hc1) ?_
  refine zN ?_
  refine RunC.cond_true rfl rfl ?_
  refine zQ ?_
  refine zA (r := b false) rfl rfl rfl rfl rfl ?_
  refine zN ?_
  refine RunC.ret ?_
  have hq := Option.some.inj h
  subst q0
  exact bodyQ.pure (.inr rfl) rfl (Res.one rfl (RV.tmp rfl))
 ·refine RunC.regionW ?_
  refine zL (r := ptr [i64 a0, i64 a1, sl a2.length (a2.map f32)]) rfl rfl rfl (LOp.fap und31 rfl siz2 rfl rfl rfl) ?_
  refine zL (r := i64 a0) rfl rfl rfl (LOp.load1 agg2 rfl rfl) ?_
  refine zL (r := ptr [i64 a3, i64 a4, sl a5.length (a5.map f32)]) rfl rfl rfl (LOp.fap und31 rfl siz2 rfl rfl rfl) ?_
  refine zL (r := i64 a3) rfl rfl rfl (LOp.load1 agg2 rfl rfl) ?_
  refine zL (r := b false) rfl rfl rfl (LOp.eqb (LOp.neq rfl rfl rfl) hc1) ?_
  refine zN ?_
  refine RunC.cond_false rfl rfl ?_
  refine RunC.skip ?_
  refine RunC.seq ?_
  refine RunC.seq ?_
  rcases bsel_some h with ⟨hc2, h⟩ | ⟨hc2, h⟩
  ·refine RunC.regionW ?_
   refine zL (r := ptr [i64 a1, sl a2.length (a2.map f32)]) rfl rfl rfl (LOp.fap und31 rfl siz2 rfl rfl rfl) ?_
   refine zL (r := i64 a1) rfl rfl rfl (LOp.load1 agg2 rfl rfl) ?_
   refine zL (r := ptr [i64 a4, sl a5.length (a5.map f32)]) rfl rfl rfl (LOp.fap und31 rfl siz2 rfl rfl rfl) ?_
   refine zL (r := i64 a4) rfl rfl rfl (LOp.load1 agg2 rfl rfl) ?_
   refine zL (r := b true) rfl rfl rfl (LOp.eqb (LOp.neq rfl rfl rfl) hc2) ?_
   refine zN ?_
   refine RunC.cond_true rfl rfl ?_
   refine zQ ?_
   refine zA (r := b false) rfl rfl rfl rfl rfl ?_
   refine zN ?_
   refine RunC.ret ?_
   have hq := Option.some.inj h
   subst q0
   exact bodyQ.pure (.inr rfl) rfl (Res.one rfl (RV.tmp rfl))
  ·refine RunC.regionW ?_
   refine zL (r := ptr [i64 a1, sl a2.length (a2.map f32)]) rfl rfl rfl (LOp.fap und31 rfl siz2 rfl rfl rfl) ?_
   refine zL (r := i64 a1) rfl rfl rfl (LOp.load1 agg2 rfl rfl) ?_
   refine zL (r := ptr [i64 a4, sl a5.length (a5.map f32)]) rfl rfl rfl (LOp.fap und31 rfl siz2 rfl rfl rfl) ?_
   refine zL (r := i64 a4) rfl rfl rfl (LOp.load1 agg2 rfl rfl) ?_
   refine zL (r := b false) rfl rfl rfl (LOp.eqb (LOp.neq rfl rfl rfl) hc2) ?_
   refine zN ?_
   refine RunC.cond_false rfl rfl ?_
   refine RunC.skip ?_
   refine RunC.wl (τ' := [(2, ptr [i64 a0, i64 a1, sl a2.length (a2.map f32)]), (3, ptr [i64 a3, i64 a4, sl a5.length (a5.map f32)])]) (Γ' := []) ⟨aR, aR, trivial⟩ trivial ?_
   refine RunC.seq ?_
   refine RunC.seq ?_
   obtain ⟨r1, hf3, h⟩ := obind_some h
   rcases bsel_some h with ⟨hc4, h⟩ | ⟨hc4, h⟩
   ·refine RunC.regionW ?_
    refine zL (r := ptr [sl a2.length (a2.map f32)]) rfl rfl rfl (LOp.fap und31 rfl siz22 rfl rfl rfl) ?_
    refine zL (r := sl a2.length (a2.map f32)) rfl rfl rfl (LOp.load1 agg22 rfl rfl) ?_
    refine zL (r := ptr [sl a5.length (a5.map f32)]) rfl rfl rfl (LOp.fap und31 rfl siz22 rfl rfl rfl) ?_
    refine zL (r := sl a5.length (a5.map f32)) rfl rfl rfl (LOp.load1 agg22 rfl rfl) ?_
    refine ROps.d (r := b true) (fs := []) (Γ' := []) rfl rfl rfl (TOp.eqb (TOp.callB (CallAs.func ent10 rfl rfl) (Bors.cons (Bor.sl (fun _ => rfl)) (Bors.cons (Bor.sl (fun _ => rfl)) Bors.nil)) rfl rfl (w_eqFloat32S_ok a2 a5 r1 hf3)) hc4) rfl ?_
    refine zL (r := b false) rfl rfl rfl (LOp.eqb (LOp.not rfl rfl) rfl) ?_
    refine zN ?_
    refine RunC.cond_false rfl rfl ?_
    refine RunC.skip ?_
    refine zQ ?_
    refine zA (r := b true) rfl rfl rfl rfl rfl ?_
    refine zN ?_
    refine RunC.ret ?_
    have hq := Option.some.inj h
    subst q0
    exact bodyQ.pure (.inr rfl) rfl (Res.one rfl (RV.tmp rfl))
   ·refine RunC.regionW ?_
    refine zL (r := ptr [sl a2.length (a2.map f32)]) rfl rfl rfl (LOp.fap und31 rfl siz22 rfl rfl rfl) ?_
    refine zL (r := sl a2.length (a2.map f32)) rfl rfl rfl (LOp.load1 agg22 rfl rfl) ?_
    refine zL (r := ptr [sl a5.length (a5.map f32)]) rfl rfl rfl (LOp.fap und31 rfl siz22 rfl rfl rfl) ?_
    refine zL (r := sl a5.length (a5.map f32)) rfl rfl rfl (LOp.load1 agg22 rfl rfl) ?_
    refine ROps.d (r := b false) (fs := []) (Γ' := []) rfl rfl rfl (TOp.eqb (TOp.callB (CallAs.func ent10 rfl rfl) (Bors.cons (Bor.sl (fun _ => rfl)) (Bors.cons (Bor.sl (fun _ => rfl)) Bors.nil)) rfl rfl (w_eqFloat32S_ok a2 a5 r1 hf3)) hc4) rfl ?_
    refine zL (r := b true) rfl rfl rfl (LOp.eqb (LOp.not rfl rfl) rfl) ?_
    refine zN ?_
    refine RunC.cond_true rfl rfl ?_
    refine zQ ?_
    refine zA (r := b false) rfl rfl rfl rfl rfl ?_
    refine zN ?_
    refine RunC.ret ?_
    have hq := Option.some.inj h
    subst q0
    exact bodyQ.pure (.inr rfl) rfl (Res.one rfl (RV.tmp rfl))
noncomputable def w_eqInt64S_b1 (a0 : List Int) (a1 : List Int) (v1 : Int) : Option (LR (Int) (Unit) (Bool)) :=
 bsel (decide (v1 < (a0.length : Int))) (
  obind (at? a0 v1) fun (e2 : Int) =>
  obind (at? a1 v1) fun (e3 : Int) =>
  bsel (!decide (e2 = e3)) (
   some (LR.ret false)) (
   olet (IntKind.i64.wrap (v1 + 1)) fun (x4 : Int) =>
   some (LR.next x4))) (
  some (LR.out ()))
noncomputable def w_eqInt64S_s1 (a0 : List Int) (a1 : List Int) : (Int) → Option (LR (Int) (Unit) (Bool)) := fun s => w_eqInt64S_b1 a0 a1 s
noncomputable def w_eqInt64S_k1  : Option (Bool) :=
 some true
noncomputable def w_eqInt64S (a0 : List Int) (a1 : List Int) : Option (Bool) :=
 bsel (!decide ((a0.length : Int) = (a1.length : Int))) (
  some false) (
  obind (loopM (w_eqInt64S_s1 a0 a1) 0) fun z => osum z (fun _ => w_eqInt64S_k1) (fun r => some r))
theorem w_eqInt64S_ok (a0 : List Int) (a1 : List Int) (q0 : Bool) (h : w_eqInt64S a0 a1 = some q0) : Ev Try.prog 31 [sl a0.length (a0.map i64), sl a1.length (a1.map i64)] [] (b q0) [] := by
 refine Ev.start Try.func31 rfl rfl 0 (τ := [(0, sl a0.length (a0.map i64)), (1, sl a1.length (a1.map i64))]) rfl (Γ' := []) rfl (n := 53) rfl (g := 0) rfl (fun _ => rfl) ?_
 unfold w_eqInt64S at h
 refine zQ ?_
 refine zA (r := b false) rfl rfl rfl rfl rfl ?_
 refine zN ?_
 refine RunC.seq ?_
 refine RunC.seq ?_
 rcases bsel_some h with ⟨hc1, h⟩ | ⟨hc1, h⟩
 ·refine RunC.regionW ?_
  refine zM (r := sl a0.length (a0.map i64)) rfl rfl rfl rfl rfl ?_
  refine zL (r := i64 (a0.length : Int)) rfl rfl rfl (LOp.len_sl und25 rfl rfl) ?_
  refine zM (r := sl a1.length (a1.map i64)) rfl rfl rfl rfl rfl ?_
  refine zL (r := i64 (a1.length : Int)) rfl rfl rfl (LOp.len_sl und25 rfl rfl) ?_
  refine zL (r := b true) rfl rfl rfl (LOp.eqb (LOp.neq rfl rfl rfl) hc1) ?_
  refine zN ?_
  refine RunC.cond_true rfl rfl ?_
  refine zQ ?_
  refine zA (r := b false) rfl rfl rfl rfl rfl ?_
  refine zN ?_
  refine RunC.ret ?_
  have hq := Option.some.inj h
  subst q0
  exact bodyQ.pure (.inr rfl) rfl (Res.one rfl (RV.tmp rfl))
 ·refine RunC.regionW ?_
  refine zM (r := sl a0.length (a0.map i64)) rfl rfl rfl rfl rfl ?_
  refine zL (r := i64 (a0.length : Int)) rfl rfl rfl (LOp.len_sl und25 rfl rfl) ?_
  refine zM (r := sl a1.length (a1.map i64)) rfl rfl rfl rfl rfl ?_
  refine zL (r := i64 (a1.length : Int)) rfl rfl rfl (LOp.len_sl und25 rfl rfl) ?_
  refine zL (r := b false) rfl rfl rfl (LOp.eqb (LOp.neq rfl rfl rfl) hc1) ?_
  refine zN ?_
  refine RunC.cond_false rfl rfl ?_
  refine RunC.skip ?_
  refine RunC.seq ?_
  refine zQ ?_
  refine zA (r := i64 0) rfl rfl rfl rfl rfl ?_
  refine zN ?_
  obtain ⟨z2, hz_2, h⟩ := obind_some h
  refine RunC.cutN (fun τ Γ => WeakLe τ [] ∧ DeadLe Γ [] ∧ z2 = .inl ()) ?_ ?_
  ·refine RunC.block (RunC.loop (RunL.loopM (x := z2) (w_eqInt64S_s1 a0 a1) (fun (s : Int) τ Γ => WeakLe τ [(0, sl a0.length (a0.map i64)), (1, sl a1.length (a1.map i64)), (5, i64 s)] ∧ DeadLe Γ []) ?_ _ _ _ hz_2 ⟨⟨aR, aR, aR, trivial⟩, trivial⟩))
   rintro v1 τ2 Γ2 y2_ ⟨hw2, hd2⟩ h2_ ho2 hr2
   refine RunC.wl (τ' := [(0, sl a0.length (a0.map i64)), (1, sl a1.length (a1.map i64)), (5, i64 v1)]) (Γ' := []) hw2 hd2 ?_
   replace h2_ : w_eqInt64S_b1 a0 a1 v1 = some y2_ := h2_
   unfold w_eqInt64S_b1 at h2_
   refine RunC.seq ?_
   refine RunC.seq ?_
   rcases bsel_some h2_ with ⟨hc2, h2_⟩ | ⟨hc2, h2_⟩
   ·refine RunC.regionW ?_
    refine zM (r := i64 v1) rfl rfl rfl rfl rfl ?_
    refine zM (r := sl a0.length (a0.map i64)) rfl rfl rfl rfl rfl ?_
    refine zL (r := i64 (a0.length : Int)) rfl rfl rfl (LOp.len_sl und25 rfl rfl) ?_
    refine zL (r := b true) rfl rfl rfl (LOp.eqb (LOp.lss rfl rfl rfl) hc2) ?_
    refine zN ?_
    refine RunC.cond_true rfl rfl ?_
    refine RunC.skip ?_
    refine RunC.seq ?_
    refine RunC.block ?_
    refine RunC.seq ?_
    obtain ⟨e2, he3, h2_⟩ := obind_some h2_
    obtain ⟨e3, he4, h2_⟩ := obind_some h2_
    rcases bsel_some h2_ with ⟨hc5, h2_⟩ | ⟨hc5, h2_⟩
    ·refine RunC.region_draw (Γ' := []) 9 mixed 
      (TR.l (r := sl a0.length (a0.map i64)) rfl rfl (LOp.move rfl rfl) <|
      (TR.l (r := i64 v1) rfl rfl (LOp.move rfl rfl) <|
      (TR.l (r := ptr [i64 e2]) rfl rfl (LOp.le (LOp.ix (f := i64) und25 siz2 rfl rfl rfl rfl he3) ALe.ptr) <|
      (TR.l (r := i64 e2) rfl rfl (LOp.load1 agg2 rfl rfl) <|
      (TR.l (r := sl a1.length (a1.map i64)) rfl rfl (LOp.move rfl rfl) <|
      (TR.l (r := i64 v1) rfl rfl (LOp.move rfl rfl) <|
      (TR.l (r := ptr [i64 e3]) rfl rfl (LOp.le (LOp.ix (f := i64) und25 siz2 rfl rfl rfl rfl he4) ALe.ptr) <|
      (TR.l (r := i64 e3) rfl rfl (LOp.load1 agg2 rfl rfl) <|
      (TR.l (r := b true) rfl rfl (LOp.eqb (LOp.neq rfl rfl rfl) hc5) <|
      TR.nil))))))))) rfl (by kernel_rfl) rfl fills_nil rfl ?_
     iterate 9 refine ROps.dropS ?_
     refine ROps.drop0 ?_
     refine zN ?_
     refine RunC.cond_true rfl rfl ?_
     refine zQ ?_
     refine zA (r := b false) rfl rfl rfl rfl rfl ?_
     refine zN ?_
     refine RunC.ret ?_
     cases Option.some.inj h2_
     have hx3_ := hr2 _ rfl
     subst hx3_
     have hq := Option.some.inj h
     subst q0
     exact bodyQ.pure (.inr rfl) rfl (Res.one rfl (RV.tmp rfl))
    ·refine RunC.region_draw (Γ' := []) 9 mixed 
      (TR.l (r := sl a0.length (a0.map i64)) rfl rfl (LOp.move rfl rfl) <|
      (TR.l (r := i64 v1) rfl rfl (LOp.move rfl rfl) <|
      (TR.l (r := ptr [i64 e2]) rfl rfl (LOp.le (LOp.ix (f := i64) und25 siz2 rfl rfl rfl rfl he3) ALe.ptr) <|
      (TR.l (r := i64 e2) rfl rfl (LOp.load1 agg2 rfl rfl) <|
      (TR.l (r := sl a1.length (a1.map i64)) rfl rfl (LOp.move rfl rfl) <|
      (TR.l (r := i64 v1) rfl rfl (LOp.move rfl rfl) <|
      (TR.l (r := ptr [i64 e3]) rfl rfl (LOp.le (LOp.ix (f := i64) und25 siz2 rfl rfl rfl rfl he4) ALe.ptr) <|
      (TR.l (r := i64 e3) rfl rfl (LOp.load1 agg2 rfl rfl) <|
      (TR.l (r := b false) rfl rfl (LOp.eqb (LOp.neq rfl rfl rfl) hc5) <|
      TR.nil))))))))) rfl (by kernel_rfl) rfl fills_nil rfl ?_
     iterate 9 refine ROps.dropS ?_
     refine ROps.drop0 ?_
     refine zN ?_
     refine RunC.cond_false rfl rfl ?_
     refine RunC.skip ?_
     refine RunC.wl (τ' := [(0, sl a0.length (a0.map i64)), (1, sl a1.length (a1.map i64)), (5, i64 v1)]) (Γ' := []) ⟨aR, aR, aR, trivial⟩ trivial ?_
     obtain ⟨x4, hx6, h2_⟩ := olet_some h2_
     refine RunC.regionW ?_
     refine zM (r := i64 v1) rfl rfl rfl rfl rfl ?_
     refine zL (r := i64 x4) rfl rfl rfl (LOp.eqr (LOp.add rfl rfl rfl) (congrArg (ik .i64) hx6)) ?_
     refine zA (r := i64 x4) rfl rfl rfl rfl rfl ?_
     refine zN ?_
     cases Option.some.inj h2_
     exact ⟨_, rfl, ⟨aR, aR, aR, trivial⟩, trivial⟩
   ·refine RunC.regionW ?_
    refine zM (r := i64 v1) rfl rfl rfl rfl rfl ?_
    refine zM (r := sl a0.length (a0.map i64)) rfl rfl rfl rfl rfl ?_
    refine zL (r := i64 (a0.length : Int)) rfl rfl rfl (LOp.len_sl und25 rfl rfl) ?_
    refine zL (r := b false) rfl rfl rfl (LOp.eqb (LOp.lss rfl rfl rfl) hc2) ?_
    refine zN ?_
    refine RunC.cond_false rfl rfl ?_
    refine RunC.exit ?_
    cases Option.some.inj h2_
    have hx := ho2 _ rfl
    exact ⟨trivial, trivial, hx⟩
  ·rintro τ4 Γ4 ⟨hw4, hd4, rfl⟩
   refine RunC.wl hw4 hd4 ?_
   replace h : w_eqInt64S_k1 = some q0 := h
   unfold w_eqInt64S_k1 at h
   refine zQ ?_
   refine zA (r := b true) rfl rfl rfl rfl rfl ?_
   refine zN ?_
   refine RunC.ret ?_
   have hq := Option.some.inj h
   subst q0
   exact bodyQ.pure (.inr rfl) rfl (Res.one rfl (RV.tmp rfl))
noncomputable def w_eqFactor (a0 : Int) (a1 : Int) (a2 : List F) (a3 : List Int) (a4 : Int) (a5 : Int) (a6 : List F) (a7 : List Int) : Option (Bool) :=
 obind (w_eqMatrix a0 a1 a2 a4 a5 a6) fun (r1 : Bool) =>
 bsel r1 (
  obind (w_eqInt64S a3 a7) fun (r2 : Bool) =>
  bsel r2 (
   some true) (
   some false)) (
  some false)
theorem w_eqFactor_ok (a0 : Int) (a1 : Int) (a2 : List F) (a3 : List Int) (a4 : Int) (a5 : Int) (a6 : List F) (a7 : List Int) (q0 : Bool) (h : w_eqFactor a0 a1 a2 a3 a4 a5 a6 a7 = some q0) : Ev Try.prog 11 [agg [i64 a0, i64 a1, sl a2.length (a2.map f32), sl a3.length (a3.map i64)], agg [i64 a4, i64 a5, sl a6.length (a6.map f32), sl a7.length (a7.map i64)]] [] (b q0) [] := by
 refine Ev.start Try.func11 rfl rfl 0 (τ := [(0, agg [i64 a0, i64 a1, sl a2.length (a2.map f32), sl a3.length (a3.map i64)]), (1, agg [i64 a4, i64 a5, sl a6.length (a6.map f32), sl a7.length (a7.map i64)])]) rfl (Γ' := []) rfl (n := 35) rfl (g := 0) rfl (fun _ => rfl) ?_
 unfold w_eqFactor at h
 refine zQ ?_
 refine ROps.d (r := ptr [i64 a0, i64 a1, sl a2.length (a2.map f32), sl a3.length (a3.map i64)]) (fs := []) (Γ' := []) rfl rfl rfl (TOp.box_s rfl rfl rfl) rfl ?_
 refine ROps.d (r := ptr [i64 a4, i64 a5, sl a6.length (a6.map f32), sl a7.length (a7.map i64)]) (fs := []) (Γ' := []) rfl rfl rfl (TOp.box_s rfl rfl rfl) rfl ?_
 refine zA (r := b false) rfl rfl rfl rfl rfl ?_
 refine zN ?_
 refine RunC.seq ?_
 refine RunC.seq ?_
 obtain ⟨r1, hf1, h⟩ := obind_some h
 rcases bsel_some h with ⟨hc2, h⟩ | ⟨hc2, h⟩
 ·refine RunC.regionW ?_
  refine zL (r := ptr [i64 a0, i64 a1, sl a2.length (a2.map f32), sl a3.length (a3.map i64)]) rfl rfl rfl (LOp.fap und33 rfl siz31 rfl rfl rfl) ?_
  refine zL (r := agg [i64 a0, i64 a1, sl a2.length (a2.map f32)]) rfl rfl rfl (LOp.loadAgg agg31 siz31 rfl rfl rfl rfl) ?_
  refine zL (r := ptr [i64 a4, i64 a5, sl a6.length (a6.map f32), sl a7.length (a7.map i64)]) rfl rfl rfl (LOp.fap und33 rfl siz31 rfl rfl rfl) ?_
  refine zL (r := agg [i64 a4, i64 a5, sl a6.length (a6.map f32)]) rfl rfl rfl (LOp.loadAgg agg31 siz31 rfl rfl rfl rfl) ?_
  refine ROps.d (r := b true) (fs := []) (Γ' := []) rfl rfl rfl (TOp.eqb (TOp.callB (CallAs.func ent30 rfl rfl) (Bors.cons (Bor.agg (Bors.cons (Bor.pure rfl) (Bors.cons (Bor.pure rfl) (Bors.cons (Bor.sl (fun _ => rfl)) Bors.nil)))) (Bors.cons (Bor.agg (Bors.cons (Bor.pure rfl) (Bors.cons (Bor.pure rfl) (Bors.cons (Bor.sl (fun _ => rfl)) Bors.nil)))) Bors.nil)) rfl rfl (w_eqMatrix_ok a0 a1 a2 a4 a5 a6 r1 hf1)) hc2) rfl ?_
  refine zL (r := b false) rfl rfl rfl (LOp.eqb (LOp.not rfl rfl) rfl) ?_
  refine zN ?_
  refine RunC.cond_false rfl rfl ?_
  refine RunC.skip ?_
  refine RunC.seq ?_
  refine RunC.seq ?_
  obtain ⟨r2, hf3, h⟩ := obind_some h
  rcases bsel_some h with ⟨hc4, h⟩ | ⟨hc4, h⟩
  ·refine RunC.regionW ?_
   refine zL (r := ptr [sl a3.length (a3.map i64)]) rfl rfl rfl (LOp.fap und33 rfl siz25 rfl rfl rfl) ?_
   refine zL (r := sl a3.length (a3.map i64)) rfl rfl rfl (LOp.load1 agg25 rfl rfl) ?_
   refine zL (r := ptr [sl a7.length (a7.map i64)]) rfl rfl rfl (LOp.fap und33 rfl siz25 rfl rfl rfl) ?_
   refine zL (r := sl a7.length (a7.map i64)) rfl rfl rfl (LOp.load1 agg25 rfl rfl) ?_
   refine ROps.d (r := b true) (fs := []) (Γ' := []) rfl rfl rfl (TOp.eqb (TOp.callB (CallAs.func ent31 rfl rfl) (Bors.cons (Bor.sl (fun _ => rfl)) (Bors.cons (Bor.sl (fun _ => rfl)) Bors.nil)) rfl rfl (w_eqInt64S_ok a3 a7 r2 hf3)) hc4) rfl ?_
   refine zL (r := b false) rfl rfl rfl (LOp.eqb (LOp.not rfl rfl) rfl) ?_
   refine zN ?_
   refine RunC.wl (τ' := [(16, b false)]) (Γ' := []) ⟨aR, trivial⟩ trivial ?_
   refine RunC.cond_false rfl rfl ?_
   refine RunC.skip ?_
   refine zQ ?_
   refine zA (r := b true) rfl rfl rfl rfl rfl ?_
   refine zN ?_
   refine RunC.ret ?_
   have hq := Option.some.inj h
   subst q0
   exact bodyQ.pure (.inr rfl) rfl (Res.one rfl (RV.tmp rfl))
  ·refine RunC.regionW ?_
   refine zL (r := ptr [sl a3.length (a3.map i64)]) rfl rfl rfl (LOp.fap und33 rfl siz25 rfl rfl rfl) ?_
   refine zL (r := sl a3.length (a3.map i64)) rfl rfl rfl (LOp.load1 agg25 rfl rfl) ?_
   refine zL (r := ptr [sl a7.length (a7.map i64)]) rfl rfl rfl (LOp.fap und33 rfl siz25 rfl rfl rfl) ?_
   refine zL (r := sl a7.length (a7.map i64)) rfl rfl rfl (LOp.load1 agg25 rfl rfl) ?_
   refine ROps.d (r := b false) (fs := []) (Γ' := []) rfl rfl rfl (TOp.eqb (TOp.callB (CallAs.func ent31 rfl rfl) (Bors.cons (Bor.sl (fun _ => rfl)) (Bors.cons (Bor.sl (fun _ => rfl)) Bors.nil)) rfl rfl (w_eqInt64S_ok a3 a7 r2 hf3)) hc4) rfl ?_
   refine zL (r := b true) rfl rfl rfl (LOp.eqb (LOp.not rfl rfl) rfl) ?_
   refine zN ?_
   refine RunC.wl (τ' := [(16, b true)]) (Γ' := []) ⟨aR, trivial⟩ trivial ?_
   refine RunC.cond_true rfl rfl ?_
   refine zQ ?_
   refine zA (r := b false) rfl rfl rfl rfl rfl ?_
   refine zN ?_
   refine RunC.ret ?_
   have hq := Option.some.inj h
   subst q0
   exact bodyQ.pure (.inr rfl) rfl (Res.one rfl (RV.tmp rfl))
 ·refine RunC.regionW ?_
  refine zL (r := ptr [i64 a0, i64 a1, sl a2.length (a2.map f32), sl a3.length (a3.map i64)]) rfl rfl rfl (LOp.fap und33 rfl siz31 rfl rfl rfl) ?_
  refine zL (r := agg [i64 a0, i64 a1, sl a2.length (a2.map f32)]) rfl rfl rfl (LOp.loadAgg agg31 siz31 rfl rfl rfl rfl) ?_
  refine zL (r := ptr [i64 a4, i64 a5, sl a6.length (a6.map f32), sl a7.length (a7.map i64)]) rfl rfl rfl (LOp.fap und33 rfl siz31 rfl rfl rfl) ?_
  refine zL (r := agg [i64 a4, i64 a5, sl a6.length (a6.map f32)]) rfl rfl rfl (LOp.loadAgg agg31 siz31 rfl rfl rfl rfl) ?_
  refine ROps.d (r := b false) (fs := []) (Γ' := []) rfl rfl rfl (TOp.eqb (TOp.callB (CallAs.func ent30 rfl rfl) (Bors.cons (Bor.agg (Bors.cons (Bor.pure rfl) (Bors.cons (Bor.pure rfl) (Bors.cons (Bor.sl (fun _ => rfl)) Bors.nil)))) (Bors.cons (Bor.agg (Bors.cons (Bor.pure rfl) (Bors.cons (Bor.pure rfl) (Bors.cons (Bor.sl (fun _ => rfl)) Bors.nil)))) Bors.nil)) rfl rfl (w_eqMatrix_ok a0 a1 a2 a4 a5 a6 r1 hf1)) hc2) rfl ?_
  refine zL (r := b true) rfl rfl rfl (LOp.eqb (LOp.not rfl rfl) rfl) ?_
  refine zN ?_
  refine RunC.cond_true rfl rfl ?_
  refine zQ ?_
  refine zA (r := b false) rfl rfl rfl rfl rfl ?_
  refine zN ?_
  refine RunC.ret ?_
  have hq := Option.some.inj h
  subst q0
  exact bodyQ.pure (.inr rfl) rfl (Res.one rfl (RV.tmp rfl))
noncomputable def w_markFloat32S_0o_b1 (a1 : List F) (L1 : List F) (v3 : Int) (v4 : Int) : Option (LR ((List F) × Int × Int) ((List F) × Int) (Int × (List F))) :=
 bsel (decide (v4 < ((a1.length : Nat) : Int))) (
  olet (fint .f32 v3) fun (x5 : F) =>
  obind (setAt? L1 v4 x5) fun (L6 : List F) =>
  olet (IntKind.i64.wrap (v3 + 1)) fun (x7 : Int) =>
  olet (IntKind.i64.wrap (v4 + 1)) fun (x8 : Int) =>
  some (LR.next (L6, x7, x8))) (
  some (LR.out (L1, v3)))
noncomputable def w_markFloat32S_0o_s1 (a1 : List F) : ((List F) × Int × Int) → Option (LR ((List F) × Int × Int) ((List F) × Int) (Int × (List F))) := fun s => w_markFloat32S_0o_b1 a1 s.1 s.2.1 s.2.2
noncomputable def w_markFloat32S_0o_k1 (L9 : List F) (v11 : Int) : Option (Int × (List F)) :=
 some (v11, L9)
noncomputable def w_markFloat32S_0o (a0 : Int) (a1 : List F) : Option (Int × (List F)) :=
 obind (loopM (w_markFloat32S_0o_s1 a1) (a1, a0, 0)) fun z => osum z (fun e => w_markFloat32S_0o_k1 e.1 e.2) (fun r => some r)
theorem w_markFloat32S_0o_ok (a0 : Int) (a1 : List F) (q0 : Int) (q1 : List F) (h : w_markFloat32S_0o a0 a1 = some (q0, q1)) : Ev Try.prog 13 [oref 0 0 0 a1.length, i64 a0] [⟨0, some (a1.map f32)⟩] (i64 q0) [⟨0, some (q1.map f32)⟩] := by
 refine Ev.start Try.func13 rfl rfl 0 (τ := [(0, oref 0 0 0 a1.length), (1, i64 a0)]) rfl (Γ' := [⟨0, some (a1.map f32)⟩]) rfl (n := 40) rfl (g := 1) rfl (by decide) ?_
 unfold w_markFloat32S_0o at h
 refine zQ ?_
 refine zA (r := i64 0) rfl rfl rfl rfl rfl ?_
 refine zN ?_
 refine RunC.seq ?_
 refine zQ ?_
 refine zA (r := i64 0) rfl rfl rfl rfl rfl ?_
 refine zN ?_
 obtain ⟨z2, hz_2, h⟩ := obind_some h
 refine RunC.cutN (fun τ Γ => ∃ (L9 : List F) (v11 : Int), L9.length = a1.length ∧ WeakLe τ [(1, i64 v11)] ∧ DeadLe Γ [⟨0, some (L9.map f32)⟩] ∧ z2 = .inl (L9, v11)) ?_ ?_
 ·refine RunC.block (RunC.loop (RunL.loopM (x := z2) (w_markFloat32S_0o_s1 a1) (fun (s : (List F) × Int × Int) τ Γ => s.1.length = a1.length ∧ WeakLe τ [(0, oref 0 0 0 a1.length), (1, i64 s.2.1), (5, i64 s.2.2)] ∧ DeadLe Γ [⟨0, some (s.1.map f32)⟩]) ?_ _ _ _ hz_2 ⟨rfl, ⟨aR, aR, aR, trivial⟩, ⟨⟨rfl, .inr rfl⟩, trivial⟩⟩))
  rintro ⟨L1, v3, v4⟩ τ2 Γ2 y2_ ⟨hl2, hw2, hd2⟩ h2_ ho2 hr2
  refine RunC.wl (τ' := [(0, oref 0 0 0 a1.length), (1, i64 v3), (5, i64 v4)]) (Γ' := [⟨0, some (L1.map f32)⟩]) hw2 hd2 ?_
  replace hl2 : L1.length = a1.length := hl2
  replace h2_ : w_markFloat32S_0o_b1 a1 L1 v3 v4 = some y2_ := h2_
  unfold w_markFloat32S_0o_b1 at h2_
  refine RunC.seq ?_
  refine RunC.seq ?_
  rcases bsel_some h2_ with ⟨hc1, h2_⟩ | ⟨hc1, h2_⟩
  ·refine RunC.regionW ?_
   refine zM (r := i64 v4) rfl rfl rfl rfl rfl ?_
   refine zM (r := oref 0 0 0 a1.length) rfl rfl rfl rfl rfl ?_
   refine zL (r := i64 ((a1.length : Nat) : Int)) rfl rfl rfl (LOp.len_oref und22 rfl rfl) ?_
   refine zL (r := b true) rfl rfl rfl (LOp.eqb (LOp.lss rfl rfl rfl) hc1) ?_
   refine zN ?_
   refine RunC.cond_true rfl rfl ?_
   refine RunC.skip ?_
   refine RunC.seq ?_
   refine RunC.block ?_
   refine RunC.seq ?_
   obtain ⟨x5, hx2, h2_⟩ := olet_some h2_
   obtain ⟨L6, he3, h2_⟩ := obind_some h2_
   refine RunC.regionW ?_
   refine zM (r := oref 0 0 0 a1.length) rfl rfl rfl rfl rfl ?_
   refine zM (r := i64 v4) rfl rfl rfl rfl rfl ?_
   refine zM (r := i64 v3) rfl rfl rfl rfl rfl ?_
   refine zL (r := f32 x5) rfl rfl rfl (LOp.eqr (LOp.i2f (src := 3) (dst := 45) ⟨_, pun3⟩ pun45 rfl rfl) (congrArg (f .f32) hx2)) ?_
   refine ROps.d (r := optr 0 0 v4.toNat) (fs := []) (Γ' := [⟨0, some (L1.map f32)⟩]) rfl rfl rfl (TOp.ixo und22 siz45 rfl rfl rfl (set_in he3 hl2) rfl) rfl ?_
   refine ROps.st (f := f32) (i := v4) (Γ' := [⟨0, some (L6.map f32)⟩]) rfl siz45 rfl rfl rfl aR rfl rfl rfl he3 rfl ?_
   refine zN ?_
   obtain ⟨x7, hx4, h2_⟩ := olet_some h2_
   refine RunC.regionW ?_
   refine zM (r := i64 v3) rfl rfl rfl rfl rfl ?_
   refine zL (r := i64 x7) rfl rfl rfl (LOp.eqr (LOp.add rfl rfl rfl) (congrArg (ik .i64) hx4)) ?_
   refine zA (r := i64 x7) rfl rfl rfl rfl rfl ?_
   refine zN ?_
   obtain ⟨x8, hx5, h2_⟩ := olet_some h2_
   refine RunC.regionW ?_
   refine zM (r := i64 v4) rfl rfl rfl rfl rfl ?_
   refine zL (r := i64 x8) rfl rfl rfl (LOp.eqr (LOp.add rfl rfl rfl) (congrArg (ik .i64) hx5)) ?_
   refine zA (r := i64 x8) rfl rfl rfl rfl rfl ?_
   refine zN ?_
   cases Option.some.inj h2_
   exact ⟨_, rfl, ((setAt?_len he3).trans hl2), ⟨aR, aR, aR, trivial⟩, ⟨⟨rfl, .inr rfl⟩, trivial⟩⟩
  ·refine RunC.regionW ?_
   refine zM (r := i64 v4) rfl rfl rfl rfl rfl ?_
   refine zM (r := oref 0 0 0 a1.length) rfl rfl rfl rfl rfl ?_
   refine zL (r := i64 ((a1.length : Nat) : Int)) rfl rfl rfl (LOp.len_oref und22 rfl rfl) ?_
   refine zL (r := b false) rfl rfl rfl (LOp.eqb (LOp.lss rfl rfl rfl) hc1) ?_
   refine zN ?_
   refine RunC.cond_false rfl rfl ?_
   refine RunC.exit ?_
   cases Option.some.inj h2_
   have hx := ho2 _ rfl
   exact ⟨L1, v3, hl2, ⟨aR, trivial⟩, ⟨⟨rfl, .inr rfl⟩, trivial⟩, hx⟩
 ·rintro τ3 Γ3 ⟨L9, v11, hl10, hw3, hd3, rfl⟩
  refine RunC.wl hw3 hd3 ?_
  replace h : w_markFloat32S_0o_k1 L9 v11 = some (q0, q1) := h
  unfold w_markFloat32S_0o_k1 at h
  refine zQ ?_
  refine zM (r := i64 v11) rfl rfl rfl rfl rfl ?_
  refine zA (r := i64 v11) rfl rfl rfl rfl rfl ?_
  refine zN ?_
  refine RunC.ret ?_
  have hq := Option.some.inj h
  obtain ⟨hq0, hq⟩ := Prod.mk.inj hq
  subst q0
  subst q1
  exact bodyQ.mk (r' := i64 v11) [(0, 0)] (.inr rfl) rfl (show List.Nodup [0] from by decide) rfl rfl (Res.one rfl (RV.tmp rfl)) (SelL.arr (f := f32) (fun _ => rfl) rfl trivial)
noncomputable def w_markMatrix_02o (a0 : Int) (a1 : Int) (a2 : Int) (a3 : List F) : Option (Int × (List F)) :=
 obind2 (w_markFloat32S_0o a2 a3) fun (r1 : Int) (r2 : List F) =>
 need (decide (r2.length = a3.length)) <|
 some (r1, r2)
theorem w_markMatrix_02o_ok (a0 : Int) (a1 : Int) (a2 : Int) (a3 : List F) (q0 : Int) (q1 : List F) (h : w_markMatrix_02o a0 a1 a2 a3 = some (q0, q1)) : Ev Try.prog 32 [agg [i64 a0, i64 a1, oref 0 0 0 a3.length], i64 a2] [⟨0, some (a3.map f32)⟩] (i64 q0) [⟨0, some (q1.map f32)⟩] := by
 refine Ev.start Try.func32 rfl rfl 0 (τ := [(0, agg [i64 a0, i64 a1, oref 0 0 0 a3.length]), (1, i64 a2)]) rfl (Γ' := [⟨0, some (a3.map f32)⟩]) rfl (n := 20) rfl (g := 1) rfl (by decide) ?_
 unfold w_markMatrix_02o at h
 refine zQ ?_
 refine ROps.d (r := ptr [i64 a0, i64 a1, oref 0 0 0 a3.length]) (fs := []) (Γ' := [⟨0, some (a3.map f32)⟩]) rfl rfl rfl (TOp.box_s rfl rfl rfl) rfl ?_
 refine zA (r := i64 0) rfl rfl rfl rfl rfl ?_
 refine zN ?_
 refine RunC.seq ?_
 obtain ⟨r1, r2, hf1, h⟩ := obind2_some h
 obtain ⟨hn2, h⟩ := need_some h
 refine RunC.regionW ?_
 refine zL (r := ptr [oref 0 0 0 a3.length]) rfl rfl rfl (LOp.fap und31 rfl siz22 rfl rfl rfl) ?_
 refine zL (r := oref 0 0 0 a3.length) rfl rfl rfl (LOp.load1 agg22 rfl rfl) ?_
 refine zM (r := i64 a2) rfl rfl rfl rfl rfl ?_
 refine ROps.callO (A := [oref 0 0 0 a3.length, i64 a2]) (args := [oref 0 0 0 a3.length, i64 a2]) (Γc := [⟨0, some (a3.map f32)⟩]) (Γc' := [⟨0, some (r2.map f32)⟩]) (r' := i64 r1) (Γ' := [⟨0, some (r2.map f32)⟩]) [(0, 0)] [] rfl (CallAs.func ent13 rfl rfl) rfl rfl (SelOk.of (show List.Nodup [0] from by decide) (SelL.arr0 (f := f32) (fun _ => rfl) rfl trivial)) (live_of ⟨⟨_, _, rfl⟩, trivial⟩) (by simp [ren, rens, sigma, rens_f32, rens_f64, rens_i64, rens_ik, rens_str, rens_cp]) rfl (w_markFloat32S_0o_ok a2 a3 r1 r2 hf1) rfl (news_of trivial) (show List.Nodup [0] from by decide) (by simp [ren, rens, sigma, of_decide_eq_true hn2]) (by simp [backOb, sigma, ren, rens, rens_f32, rens_f64, rens_i64, rens_ik, rens_str, rens_cp]) ?_
 refine zA (r := i64 r1) rfl rfl rfl rfl rfl ?_
 refine zN ?_
 refine zQ ?_
 refine zM (r := i64 r1) rfl rfl rfl rfl rfl ?_
 refine zA (r := i64 r1) rfl rfl rfl rfl rfl ?_
 refine zN ?_
 refine RunC.ret ?_
 have hq := Option.some.inj h
 obtain ⟨hq0, hq⟩ := Prod.mk.inj hq
 subst q0
 subst q1
 exact bodyQ.mk (r' := i64 r1) [(0, 0)] (.inr rfl) rfl (show List.Nodup [0] from by decide) rfl rfl (Res.one rfl (RV.tmp rfl)) (SelL.arr (f := f32) (fun _ => rfl) rfl trivial)
noncomputable def w_markInt64S_0o_b1 (a1 : List Int) (L1 : List Int) (v3 : Int) (v4 : Int) : Option (LR ((List Int) × Int × Int) ((List Int) × Int) (Int × (List Int))) :=
 bsel (decide (v4 < ((a1.length : Nat) : Int))) (
  obind (setAt? L1 v4 v3) fun (L5 : List Int) =>
  olet (IntKind.i64.wrap (v3 + 1)) fun (x6 : Int) =>
  olet (IntKind.i64.wrap (v4 + 1)) fun (x7 : Int) =>
  some (LR.next (L5, x6, x7))) (
  some (LR.out (L1, v3)))
noncomputable def w_markInt64S_0o_s1 (a1 : List Int) : ((List Int) × Int × Int) → Option (LR ((List Int) × Int × Int) ((List Int) × Int) (Int × (List Int))) := fun s => w_markInt64S_0o_b1 a1 s.1 s.2.1 s.2.2
noncomputable def w_markInt64S_0o_k1 (L8 : List Int) (v10 : Int) : Option (Int × (List Int)) :=
 some (v10, L8)
noncomputable def w_markInt64S_0o (a0 : Int) (a1 : List Int) : Option (Int × (List Int)) :=
 obind (loopM (w_markInt64S_0o_s1 a1) (a1, a0, 0)) fun z => osum z (fun e => w_markInt64S_0o_k1 e.1 e.2) (fun r => some r)
theorem w_markInt64S_0o_ok (a0 : Int) (a1 : List Int) (q0 : Int) (q1 : List Int) (h : w_markInt64S_0o a0 a1 = some (q0, q1)) : Ev Try.prog 33 [oref 0 0 0 a1.length, i64 a0] [⟨0, some (a1.map i64)⟩] (i64 q0) [⟨0, some (q1.map i64)⟩] := by
 refine Ev.start Try.func33 rfl rfl 0 (τ := [(0, oref 0 0 0 a1.length), (1, i64 a0)]) rfl (Γ' := [⟨0, some (a1.map i64)⟩]) rfl (n := 38) rfl (g := 1) rfl (by decide) ?_
 unfold w_markInt64S_0o at h
 refine zQ ?_
 refine zA (r := i64 0) rfl rfl rfl rfl rfl ?_
 refine zN ?_
 refine RunC.seq ?_
 refine zQ ?_
 refine zA (r := i64 0) rfl rfl rfl rfl rfl ?_
 refine zN ?_
 obtain ⟨z2, hz_2, h⟩ := obind_some h
 refine RunC.cutN (fun τ Γ => ∃ (L8 : List Int) (v10 : Int), L8.length = a1.length ∧ WeakLe τ [(1, i64 v10)] ∧ DeadLe Γ [⟨0, some (L8.map i64)⟩] ∧ z2 = .inl (L8, v10)) ?_ ?_
 ·refine RunC.block (RunC.loop (RunL.loopM (x := z2) (w_markInt64S_0o_s1 a1) (fun (s : (List Int) × Int × Int) τ Γ => s.1.length = a1.length ∧ WeakLe τ [(0, oref 0 0 0 a1.length), (1, i64 s.2.1), (5, i64 s.2.2)] ∧ DeadLe Γ [⟨0, some (s.1.map i64)⟩]) ?_ _ _ _ hz_2 ⟨rfl, ⟨aR, aR, aR, trivial⟩, ⟨⟨rfl, .inr rfl⟩, trivial⟩⟩))
  rintro ⟨L1, v3, v4⟩ τ2 Γ2 y2_ ⟨hl2, hw2, hd2⟩ h2_ ho2 hr2
  refine RunC.wl (τ' := [(0, oref 0 0 0 a1.length), (1, i64 v3), (5, i64 v4)]) (Γ' := [⟨0, some (L1.map i64)⟩]) hw2 hd2 ?_
  replace hl2 : L1.length = a1.length := hl2
  replace h2_ : w_markInt64S_0o_b1 a1 L1 v3 v4 = some y2_ := h2_
  unfold w_markInt64S_0o_b1 at h2_
  refine RunC.seq ?_
  refine RunC.seq ?_
  rcases bsel_some h2_ with ⟨hc1, h2_⟩ | ⟨hc1, h2_⟩
  ·refine RunC.regionW ?_
   refine zM (r := i64 v4) rfl rfl rfl rfl rfl ?_
   refine zM (r := oref 0 0 0 a1.length) rfl rfl rfl rfl rfl ?_
   refine zL (r := i64 ((a1.length : Nat) : Int)) rfl rfl rfl (LOp.len_oref und25 rfl rfl) ?_
   refine zL (r := b true) rfl rfl rfl (LOp.eqb (LOp.lss rfl rfl rfl) hc1) ?_
   refine zN ?_
   refine RunC.cond_true rfl rfl ?_
   refine RunC.skip ?_
   refine RunC.seq ?_
   refine RunC.block ?_
   refine RunC.seq ?_
   obtain ⟨L5, he2, h2_⟩ := obind_some h2_
   refine RunC.regionW ?_
   refine zM (r := oref 0 0 0 a1.length) rfl rfl rfl rfl rfl ?_
   refine zM (r := i64 v4) rfl rfl rfl rfl rfl ?_
   refine zM (r := i64 v3) rfl rfl rfl rfl rfl ?_
   refine ROps.d (r := optr 0 0 v4.toNat) (fs := []) (Γ' := [⟨0, some (L1.map i64)⟩]) rfl rfl rfl (TOp.ixo und25 siz2 rfl rfl rfl (set_in he2 hl2) rfl) rfl ?_
   refine ROps.st (f := i64) (i := v4) (Γ' := [⟨0, some (L5.map i64)⟩]) rfl siz2 rfl rfl rfl aR rfl rfl rfl he2 rfl ?_
   refine zN ?_
   obtain ⟨x6, hx3, h2_⟩ := olet_some h2_
   refine RunC.regionW ?_
   refine zM (r := i64 v3) rfl rfl rfl rfl rfl ?_
   refine zL (r := i64 x6) rfl rfl rfl (LOp.eqr (LOp.add rfl rfl rfl) (congrArg (ik .i64) hx3)) ?_
   refine zA (r := i64 x6) rfl rfl rfl rfl rfl ?_
   refine zN ?_
   obtain ⟨x7, hx4, h2_⟩ := olet_some h2_
   refine RunC.regionW ?_
   refine zM (r := i64 v4) rfl rfl rfl rfl rfl ?_
   refine zL (r := i64 x7) rfl rfl rfl (LOp.eqr (LOp.add rfl rfl rfl) (congrArg (ik .i64) hx4)) ?_
   refine zA (r := i64 x7) rfl rfl rfl rfl rfl ?_
   refine zN ?_
   cases Option.some.inj h2_
   exact ⟨_, rfl, ((setAt?_len he2).trans hl2), ⟨aR, aR, aR, trivial⟩, ⟨⟨rfl, .inr rfl⟩, trivial⟩⟩
  ·refine RunC.regionW ?_
   refine zM (r := i64 v4) rfl rfl rfl rfl rfl ?_
   refine zM (r := oref 0 0 0 a1.length) rfl rfl rfl rfl rfl ?_
   refine zL (r := i64 ((a1.length : Nat) : Int)) rfl rfl rfl (LOp.len_oref und25 rfl rfl) ?_
   refine zL (r := b false) rfl rfl rfl (LOp.eqb (LOp.lss rfl rfl rfl) hc1) ?_
   refine zN ?_
   refine RunC.cond_false rfl rfl ?_
   refine RunC.exit ?_
   cases Option.some.inj h2_
   have hx := ho2 _ rfl
   exact ⟨L1, v3, hl2, ⟨aR, trivial⟩, ⟨⟨rfl, .inr rfl⟩, trivial⟩, hx⟩
 ·rintro τ3 Γ3 ⟨L8, v10, hl9, hw3, hd3, rfl⟩
  refine RunC.wl hw3 hd3 ?_
  replace h : w_markInt64S_0o_k1 L8 v10 = some (q0, q1) := h
  unfold w_markInt64S_0o_k1 at h
  refine zQ ?_
  refine zM (r := i64 v10) rfl rfl rfl rfl rfl ?_
  refine zA (r := i64 v10) rfl rfl rfl rfl rfl ?_
  refine zN ?_
  refine RunC.ret ?_
  have hq := Option.some.inj h
  obtain ⟨hq0, hq⟩ := Prod.mk.inj hq
  subst q0
  subst q1
  exact bodyQ.mk (r' := i64 v10) [(0, 0)] (.inr rfl) rfl (show List.Nodup [0] from by decide) rfl rfl (Res.one rfl (RV.tmp rfl)) (SelL.arr (f := i64) (fun _ => rfl) rfl trivial)
noncomputable def w_markFactor_02o_03o1 (a0 : Int) (a1 : Int) (a2 : Int) (a3 : List F) (a4 : List Int) : Option (Int × (List F) × (List Int)) :=
 obind2 (w_markMatrix_02o a0 a1 a2 a3) fun (r1 : Int) (r2 : List F) =>
 need (decide (r2.length = a3.length)) <|
 obind2 (w_markInt64S_0o r1 a4) fun (r3 : Int) (r4 : List Int) =>
 need (decide (r4.length = a4.length)) <|
 some (r3, r2, r4)
theorem w_markFactor_02o_03o1_ok (a0 : Int) (a1 : Int) (a2 : Int) (a3 : List F) (a4 : List Int) (q0 : Int) (q1 : List F) (q2 : List Int) (h : w_markFactor_02o_03o1 a0 a1 a2 a3 a4 = some (q0, q1, q2)) : Ev Try.prog 12 [agg [i64 a0, i64 a1, oref 0 0 0 a3.length, oref 1 0 0 a4.length], i64 a2] [⟨0, some (a3.map f32)⟩, ⟨0, some (a4.map i64)⟩] (i64 q0) [⟨0, some (q1.map f32)⟩, ⟨0, some (q2.map i64)⟩] := by
 refine Ev.start Try.func12 rfl rfl 0 (τ := [(0, agg [i64 a0, i64 a1, oref 0 0 0 a3.length, oref 1 0 0 a4.length]), (1, i64 a2)]) rfl (Γ' := [⟨0, some (a3.map f32)⟩, ⟨0, some (a4.map i64)⟩]) rfl (n := 28) rfl (g := 2) rfl (by decide) ?_
 unfold w_markFactor_02o_03o1 at h
 refine zQ ?_
 refine ROps.d (r := ptr [i64 a0, i64 a1, oref 0 0 0 a3.length, oref 1 0 0 a4.length]) (fs := []) (Γ' := [⟨0, some (a3.map f32)⟩, ⟨0, some (a4.map i64)⟩]) rfl rfl rfl (TOp.box_s rfl rfl rfl) rfl ?_
 refine zA (r := i64 0) rfl rfl rfl rfl rfl ?_
 refine zN ?_
 refine RunC.seq ?_
 obtain ⟨r1, r2, hf1, h⟩ := obind2_some h
 obtain ⟨hn2, h⟩ := need_some h
 refine RunC.regionW ?_
 refine zL (r := ptr [i64 a0, i64 a1, oref 0 0 0 a3.length, oref 1 0 0 a4.length]) rfl rfl rfl (LOp.fap und33 rfl siz31 rfl rfl rfl) ?_
 refine zL (r := agg [i64 a0, i64 a1, oref 0 0 0 a3.length]) rfl rfl rfl (LOp.loadAgg agg31 siz31 rfl rfl rfl rfl) ?_
 refine zM (r := i64 a2) rfl rfl rfl rfl rfl ?_
 refine ROps.callO (A := [agg [i64 a0, i64 a1, oref 0 0 0 a3.length], i64 a2]) (args := [agg [i64 a0, i64 a1, oref 0 0 0 a3.length], i64 a2]) (Γc := [⟨0, some (a3.map f32)⟩]) (Γc' := [⟨0, some (r2.map f32)⟩]) (r' := i64 r1) (Γ' := [⟨0, some (r2.map f32)⟩, ⟨0, some (a4.map i64)⟩]) [(0, 0)] [] rfl (CallAs.func ent32 rfl rfl) rfl rfl (SelOk.of (show List.Nodup [0] from by decide) (SelL.arr0 (f := f32) (fun _ => rfl) rfl trivial)) (live_of ⟨⟨_, _, rfl⟩, trivial⟩) (by simp [ren, rens, sigma, rens_f32, rens_f64, rens_i64, rens_ik, rens_str, rens_cp]) rfl (w_markMatrix_02o_ok a0 a1 a2 a3 r1 r2 hf1) rfl (news_of trivial) (show List.Nodup [0] from by decide) (by simp [ren, rens, sigma, of_decide_eq_true hn2]) (by simp [backOb, sigma, ren, rens, rens_f32, rens_f64, rens_i64, rens_ik, rens_str, rens_cp]) ?_
 refine zA (r := i64 r1) rfl rfl rfl rfl rfl ?_
 refine zN ?_
 refine RunC.seq ?_
 obtain ⟨r3, r4, hf3, h⟩ := obind2_some h
 obtain ⟨hn4, h⟩ := need_some h
 refine RunC.regionW ?_
 refine zL (r := ptr [oref 1 0 0 a4.length]) rfl rfl rfl (LOp.fap und33 rfl siz25 rfl rfl rfl) ?_
 refine zL (r := oref 1 0 0 a4.length) rfl rfl rfl (LOp.load1 agg25 rfl rfl) ?_
 refine zM (r := i64 r1) rfl rfl rfl rfl rfl ?_
 refine ROps.callO (A := [oref 1 0 0 a4.length, i64 r1]) (args := [oref 0 0 0 a4.length, i64 r1]) (Γc := [⟨0, some (a4.map i64)⟩]) (Γc' := [⟨0, some (r4.map i64)⟩]) (r' := i64 r3) (Γ' := [⟨0, some (r2.map f32)⟩, ⟨0, some (r4.map i64)⟩]) [(1, 0)] [] rfl (CallAs.func ent33 rfl rfl) rfl rfl (SelOk.of (show List.Nodup [1] from by decide) (SelL.arr0 (f := i64) (fun _ => rfl) rfl trivial)) (live_of ⟨⟨_, _, rfl⟩, trivial⟩) (by simp [ren, rens, sigma, rens_f32, rens_f64, rens_i64, rens_ik, rens_str, rens_cp]) rfl (w_markInt64S_0o_ok r1 a4 r3 r4 hf3) rfl (news_of trivial) (show List.Nodup [1] from by decide) (by simp [ren, rens, sigma, of_decide_eq_true hn4]) (by simp [backOb, sigma, ren, rens, rens_f32, rens_f64, rens_i64, rens_ik, rens_str, rens_cp]) ?_
 refine zA (r := i64 r3) rfl rfl rfl rfl rfl ?_
 refine zN ?_
 refine zQ ?_
 refine zM (r := i64 r3) rfl rfl rfl rfl rfl ?_
 refine zA (r := i64 r3) rfl rfl rfl rfl rfl ?_
 refine zN ?_
 refine RunC.ret ?_
 have hq := Option.some.inj h
 obtain ⟨hq0, hq⟩ := Prod.mk.inj hq
 obtain ⟨hq1, hq⟩ := Prod.mk.inj hq
 subst q0
 subst q1
 subst q2
 exact bodyQ.mk (r' := i64 r3) [(0, 0), (1, 0)] (.inr rfl) rfl (show List.Nodup [0, 1] from by decide) rfl rfl (Res.one rfl (RV.tmp rfl)) (SelL.arr (f := f32) (fun _ => rfl) rfl (SelL.arr (f := i64) (fun _ => rfl) rfl trivial))
noncomputable def w_heldFloat32S_b1 (a0 : List F) (v1 : Int) (v2 : Int) : Option (LR (Int × Int) (Int) (Int)) :=
 bsel (decide (v2 < (a0.length : Int))) (
  obind (at? a0 v2) fun (e3 : F) =>
  olet (fint .f32 v1) fun (x4 : F) =>
  bsel (!feq .f32 e3 x4) (
   some (LR.ret (-1))) (
   olet (IntKind.i64.wrap (v1 + 1)) fun (x5 : Int) =>
   olet (IntKind.i64.wrap (v2 + 1)) fun (x6 : Int) =>
   some (LR.next (x5, x6)))) (
  some (LR.out v1))
noncomputable def w_heldFloat32S_s1 (a0 : List F) : (Int × Int) → Option (LR (Int × Int) (Int) (Int)) := fun s => w_heldFloat32S_b1 a0 s.1 s.2
noncomputable def w_heldFloat32S_k1 (v7 : Int) : Option (Int) :=
 some v7
noncomputable def w_heldFloat32S (a0 : List F) (a1 : Int) : Option (Int) :=
 obind (loopM (w_heldFloat32S_s1 a0) (a1, 0)) fun z => osum z (fun e => w_heldFloat32S_k1 e) (fun r => some r)
theorem w_heldFloat32S_ok (a0 : List F) (a1 : Int) (q0 : Int) (h : w_heldFloat32S a0 a1 = some q0) : Ev Try.prog 14 [sl a0.length (a0.map f32), i64 a1] [] (i64 q0) [] := by
 refine Ev.start Try.func14 rfl rfl 0 (τ := [(0, sl a0.length (a0.map f32)), (1, i64 a1)]) rfl (Γ' := []) rfl (n := 45) rfl (g := 0) rfl (fun _ => rfl) ?_
 unfold w_heldFloat32S at h
 refine zQ ?_
 refine zA (r := i64 0) rfl rfl rfl rfl rfl ?_
 refine zN ?_
 refine RunC.seq ?_
 refine zQ ?_
 refine zA (r := i64 0) rfl rfl rfl rfl rfl ?_
 refine zN ?_
 obtain ⟨z2, hz_2, h⟩ := obind_some h
 refine RunC.cutN (fun τ Γ => ∃ (v7 : Int), WeakLe τ [(1, i64 v7)] ∧ DeadLe Γ [] ∧ z2 = .inl v7) ?_ ?_
 ·refine RunC.block (RunC.loop (RunL.loopM (x := z2) (w_heldFloat32S_s1 a0) (fun (s : Int × Int) τ Γ => WeakLe τ [(0, sl a0.length (a0.map f32)), (1, i64 s.1), (5, i64 s.2)] ∧ DeadLe Γ []) ?_ _ _ _ hz_2 ⟨⟨aR, aR, aR, trivial⟩, trivial⟩))
  rintro ⟨v1, v2⟩ τ2 Γ2 y2_ ⟨hw2, hd2⟩ h2_ ho2 hr2
  refine RunC.wl (τ' := [(0, sl a0.length (a0.map f32)), (1, i64 v1), (5, i64 v2)]) (Γ' := []) hw2 hd2 ?_
  replace h2_ : w_heldFloat32S_b1 a0 v1 v2 = some y2_ := h2_
  unfold w_heldFloat32S_b1 at h2_
  refine RunC.seq ?_
  refine RunC.seq ?_
  rcases bsel_some h2_ with ⟨hc1, h2_⟩ | ⟨hc1, h2_⟩
  ·refine RunC.regionW ?_
   refine zM (r := i64 v2) rfl rfl rfl rfl rfl ?_
   refine zM (r := sl a0.length (a0.map f32)) rfl rfl rfl rfl rfl ?_
   refine zL (r := i64 (a0.length : Int)) rfl rfl rfl (LOp.len_sl und22 rfl rfl) ?_
   refine zL (r := b true) rfl rfl rfl (LOp.eqb (LOp.lss rfl rfl rfl) hc1) ?_
   refine zN ?_
   refine RunC.cond_true rfl rfl ?_
   refine RunC.skip ?_
   refine RunC.seq ?_
   refine RunC.block ?_
   refine RunC.seq ?_
   refine RunC.seq ?_
   obtain ⟨e3, he2, h2_⟩ := obind_some h2_
   obtain ⟨x4, hx3, h2_⟩ := olet_some h2_
   rcases bsel_some h2_ with ⟨hc4, h2_⟩ | ⟨hc4, h2_⟩
   ·refine RunC.regionW ?_
    refine zM (r := sl a0.length (a0.map f32)) rfl rfl rfl rfl rfl ?_
    refine zM (r := i64 v2) rfl rfl rfl rfl rfl ?_
    refine zL (r := ptr [f32 e3]) rfl rfl rfl (LOp.le (LOp.ix (f := f32) und22 siz45 rfl rfl rfl rfl he2) ALe.ptr) ?_
    refine zL (r := f32 e3) rfl rfl rfl (LOp.load1 agg45 rfl rfl) ?_
    refine zM (r := i64 v1) rfl rfl rfl rfl rfl ?_
    refine zL (r := f32 x4) rfl rfl rfl (LOp.eqr (LOp.i2f (src := 3) (dst := 45) ⟨_, pun3⟩ pun45 rfl rfl) (congrArg (f .f32) hx3)) ?_
    refine zL (r := b true) rfl rfl rfl (LOp.eqb (LOp.fne rfl (OpF.tmp rfl) (OpF.tmp rfl)) hc4) ?_
    refine zN ?_
    refine RunC.cond_true rfl rfl ?_
    refine zQ ?_
    refine zA (r := i64 (-1)) rfl rfl rfl rfl rfl ?_
    refine zN ?_
    refine RunC.ret ?_
    cases Option.some.inj h2_
    have hx3_ := hr2 _ rfl
    subst hx3_
    have hq := Option.some.inj h
    subst q0
    exact bodyQ.pure (.inr rfl) rfl (Res.one rfl (RV.tmp rfl))
   ·refine RunC.regionW ?_
    refine zM (r := sl a0.length (a0.map f32)) rfl rfl rfl rfl rfl ?_
    refine zM (r := i64 v2) rfl rfl rfl rfl rfl ?_
    refine zL (r := ptr [f32 e3]) rfl rfl rfl (LOp.le (LOp.ix (f := f32) und22 siz45 rfl rfl rfl rfl he2) ALe.ptr) ?_
    refine zL (r := f32 e3) rfl rfl rfl (LOp.load1 agg45 rfl rfl) ?_
    refine zM (r := i64 v1) rfl rfl rfl rfl rfl ?_
    refine zL (r := f32 x4) rfl rfl rfl (LOp.eqr (LOp.i2f (src := 3) (dst := 45) ⟨_, pun3⟩ pun45 rfl rfl) (congrArg (f .f32) hx3)) ?_
    refine zL (r := b false) rfl rfl rfl (LOp.eqb (LOp.fne rfl (OpF.tmp rfl) (OpF.tmp rfl)) hc4) ?_
    refine zN ?_
    refine RunC.cond_false rfl rfl ?_
    refine RunC.skip ?_
    obtain ⟨x5, hx5, h2_⟩ := olet_some h2_
    refine RunC.regionW ?_
    refine zM (r := i64 v1) rfl rfl rfl rfl rfl ?_
    refine zL (r := i64 x5) rfl rfl rfl (LOp.eqr (LOp.add rfl rfl rfl) (congrArg (ik .i64) hx5)) ?_
    refine zA (r := i64 x5) rfl rfl rfl rfl rfl ?_
    refine zN ?_
    refine RunC.wl (τ' := [(0, sl a0.length (a0.map f32)), (1, i64 x5), (5, i64 v2)]) (Γ' := []) ⟨aR, aR, aR, trivial⟩ trivial ?_
    obtain ⟨x6, hx6, h2_⟩ := olet_some h2_
    refine RunC.regionW ?_
    refine zM (r := i64 v2) rfl rfl rfl rfl rfl ?_
    refine zL (r := i64 x6) rfl rfl rfl (LOp.eqr (LOp.add rfl rfl rfl) (congrArg (ik .i64) hx6)) ?_
    refine zA (r := i64 x6) rfl rfl rfl rfl rfl ?_
    refine zN ?_
    cases Option.some.inj h2_
    exact ⟨_, rfl, ⟨aR, aR, aR, trivial⟩, trivial⟩
  ·refine RunC.regionW ?_
   refine zM (r := i64 v2) rfl rfl rfl rfl rfl ?_
   refine zM (r := sl a0.length (a0.map f32)) rfl rfl rfl rfl rfl ?_
   refine zL (r := i64 (a0.length : Int)) rfl rfl rfl (LOp.len_sl und22 rfl rfl) ?_
   refine zL (r := b false) rfl rfl rfl (LOp.eqb (LOp.lss rfl rfl rfl) hc1) ?_
   refine zN ?_
   refine RunC.cond_false rfl rfl ?_
   refine RunC.exit ?_
   cases Option.some.inj h2_
   have hx := ho2 _ rfl
   exact ⟨v1, ⟨aR, trivial⟩, trivial, hx⟩
 ·rintro τ4 Γ4 ⟨v7, hw4, hd4, rfl⟩
  refine RunC.wl hw4 hd4 ?_
  replace h : w_heldFloat32S_k1 v7 = some q0 := h
  unfold w_heldFloat32S_k1 at h
  refine zQ ?_
  refine zM (r := i64 v7) rfl rfl rfl rfl rfl ?_
  refine zA (r := i64 v7) rfl rfl rfl rfl rfl ?_
  refine zN ?_
  refine RunC.ret ?_
  have hq := Option.some.inj h
  subst q0
  exact bodyQ.pure (.inr rfl) rfl (Res.one rfl (RV.tmp rfl))
noncomputable def w_FnExactFactorSolveFlipped (a0 : Int) (a1 : Int) (a2 : List F) (a3 : List Int) (a4 : List F) : Option (Bool) :=
 bsel (decide (1048576 < (a4.length : Int))) (
  some true) (
  obind (w_szFactor a0 a1 a2 a3 1048576) fun (r1 : Int) =>
  bsel (decide (r1 < 0)) (
   some true) (
   obind4 (w_toFactor a0 a1 a2 a3) fun (r2 : Int) (r3 : Int) (r4 : List F) (r5 : List Int) =>
   obind (w_toFloat32S a4) fun (r6 : List F) =>
   obind2 (s_FactorSolveFlipped r2 r3 r4 r5 r6) fun (r7 : Bool) (r8 : List F) =>
   obind4 (w_toFactor a0 a1 a2 a3) fun (r9 : Int) (r10 : Int) (r11 : List F) (r12 : List Int) =>
   obind (w_toFloat32S a4) fun (r13 : List F) =>
   obind2 (i_FactorSolveFlipped r9 r10 r11 r12 r13) fun (r14 : Bool) (r15 : List F) =>
   obind (w_eqFloat32S r15 r8) fun (r16 : Bool) =>
   bsel r16 (
    bsel (!(r14 == r7)) (
     some false) (
     obind4 (w_toFactor a0 a1 a2 a3) fun (r17 : Int) (r18 : Int) (r19 : List F) (r20 : List Int) =>
     obind (w_eqFactor r9 r10 r11 r12 r17 r18 r19 r20) fun (r21 : Bool) =>
     bsel r21 (
      obind (w_toFloat32S a4) fun (r22 : List F) =>
      obind (w_eqFloat32S r13 r22) fun (r23 : Bool) =>
      bsel r23 (
       obind3 (w_markFactor_02o_03o1 r9 r10 1 r11 r12) fun (r24 : Int) (r25 : List F) (r26 : List Int) =>
       need (decide (r25.length = r11.length)) <|
       need (decide (r26.length = r12.length)) <|
       obind2 (w_markFloat32S_0o r24 r13) fun (r27 : Int) (r28 : List F) =>
       need (decide (r28.length = r13.length)) <|
       bsel (decide (r27 < 0)) (
        some false) (
        obind (w_eqFloat32S r15 r8) fun (r29 : Bool) =>
        bsel r29 (
         obind2 (w_markFloat32S_0o 1 r15) fun (r30 : Int) (r31 : List F) =>
         need (decide (r31.length = r15.length)) <|
         obind (w_heldFloat32S r31 1) fun (r32 : Int) =>
         bsel (decide (r32 < 0)) (
          some false) (
          bsel (!decide (r32 = r30)) (
           some false) (
           obind4 (w_toFactor a0 a1 a2 a3) fun (r33 : Int) (r34 : Int) (r35 : List F) (r36 : List Int) =>
           obind (w_toFloat32S a4) fun (r37 : List F) =>
           obind2 (i_FactorSolveFlipped r33 r34 r35 r36 r37) fun (r38 : Bool) (r39 : List F) =>
           obind (w_eqFloat32S r39 r8) fun (r40 : Bool) =>
           bsel r40 (
            bsel (!(r38 == r7)) (
             some false) (
             obind (w_heldFloat32S r31 1) fun (r41 : Int) =>
             bsel (decide (r41 < 0)) (
              some false) (
              bsel (!decide (r41 = r30)) (
               some false) (
               some true)))) (
            some false)))) (
         some false))) (
       some false)) (
      some false))) (
    some false)))
theorem w_FnExactFactorSolveFlipped_ok (a0 : Int) (a1 : Int) (a2 : List F) (a3 : List Int) (a4 : List F) (q0 : Bool) (h : w_FnExactFactorSolveFlipped a0 a1 a2 a3 a4 = some q0) : Ev Try.prog 3 [agg [i64 a0, i64 a1, sl a2.length (a2.map f32), sl a3.length (a3.map i64)], sl a4.length (a4.map f32)] [] (b q0) [] := by
 refine Ev.start Try.func3 rfl rfl 7 (τ := [(0, agg [i64 a0, i64 a1, sl a2.length (a2.map f32), sl a3.length (a3.map i64)]), (1, sl a4.length (a4.map f32))]) rfl (Γ' := [⟨0, none⟩, ⟨0, none⟩, ⟨0, none⟩, ⟨0, none⟩, ⟨0, none⟩, ⟨0, none⟩, ⟨0, none⟩]) rfl (n := 235) rfl (g := 0) rfl (fun _ => rfl) ?_
 unfold w_FnExactFactorSolveFlipped at h
 refine zQ ?_
 refine ROps.d (r := ptr [i64 a0, i64 a1, sl a2.length (a2.map f32), sl a3.length (a3.map i64)]) (fs := []) (Γ' := [⟨0, none⟩, ⟨0, none⟩, ⟨0, none⟩, ⟨0, none⟩, ⟨0, none⟩, ⟨0, none⟩, ⟨0, none⟩]) rfl rfl rfl (TOp.box_s rfl rfl rfl) rfl ?_
 refine zA (r := b false) rfl rfl rfl rfl rfl ?_
 refine zN ?_
 refine RunC.seq ?_
 refine RunC.seq ?_
 rcases bsel_some h with ⟨hc1, h⟩ | ⟨hc1, h⟩
 ·refine RunC.regionW ?_
  refine zM (r := sl a4.length (a4.map f32)) rfl rfl rfl rfl rfl ?_
  refine zL (r := i64 (a4.length : Int)) rfl rfl rfl (LOp.len_sl und22 rfl rfl) ?_
  refine zL (r := b true) rfl rfl rfl (LOp.eqb (LOp.gtr rfl rfl rfl) hc1) ?_
  refine zN ?_
  refine RunC.cond_true rfl rfl ?_
  refine zQ ?_
  refine zA (r := b true) rfl rfl rfl rfl rfl ?_
  refine zN ?_
  refine RunC.ret ?_
  have hq := Option.some.inj h
  subst q0
  exact bodyQ.pure (.inr rfl) rfl (Res.one rfl (RV.tmp rfl))
 ·refine RunC.regionW ?_
  refine zM (r := sl a4.length (a4.map f32)) rfl rfl rfl rfl rfl ?_
  refine zL (r := i64 (a4.length : Int)) rfl rfl rfl (LOp.len_sl und22 rfl rfl) ?_
  refine zL (r := b false) rfl rfl rfl (LOp.eqb (LOp.gtr rfl rfl rfl) hc1) ?_
  refine zN ?_
  refine RunC.cond_false rfl rfl ?_
  refine RunC.skip ?_
  refine zQ ?_
  refine zA (r := i64 1048576) rfl rfl rfl rfl rfl ?_
  refine zN ?_
  refine RunC.seq ?_
  obtain ⟨r1, hf2, h⟩ := obind_some h
  refine RunC.regionW ?_
  refine zL (r := agg [i64 a0, i64 a1, sl a2.length (a2.map f32), sl a3.length (a3.map i64)]) rfl rfl rfl (LOp.loadAgg agg27 siz27 rfl rfl rfl rfl) ?_
  refine zM (r := i64 1048576) rfl rfl rfl rfl rfl ?_
  refine ROps.d (r := i64 r1) (fs := []) (Γ' := [⟨0, none⟩, ⟨0, none⟩, ⟨0, none⟩, ⟨0, none⟩, ⟨0, none⟩, ⟨0, none⟩, ⟨0, none⟩]) rfl rfl rfl (TOp.callB (CallAs.func ent5 rfl rfl) (Bors.cons (Bor.agg (Bors.cons (Bor.pure rfl) (Bors.cons (Bor.pure rfl) (Bors.cons (Bor.sl (fun _ => rfl)) (Bors.cons (Bor.sl (fun _ => rfl)) Bors.nil))))) (Bors.cons (Bor.pure rfl) Bors.nil)) rfl rfl (w_szFactor_ok a0 a1 a2 a3 1048576 r1 hf2)) rfl ?_
  refine zA (r := i64 r1) rfl rfl rfl rfl rfl ?_
  refine zN ?_
  refine RunC.seq ?_
  refine RunC.seq ?_
  rcases bsel_some h with ⟨hc3, h⟩ | ⟨hc3, h⟩
  ·refine RunC.regionW ?_
   refine zM (r := i64 r1) rfl rfl rfl rfl rfl ?_
   refine zL (r := b true) rfl rfl rfl (LOp.eqb (LOp.lss rfl rfl rfl) hc3) ?_
   refine zN ?_
   refine RunC.cond_true rfl rfl ?_
   refine zQ ?_
   refine zA (r := b true) rfl rfl rfl rfl rfl ?_
   refine zN ?_
   refine RunC.ret ?_
   have hq := Option.some.inj h
   subst q0
   exact bodyQ.pure (.inr rfl) rfl (Res.one rfl (RV.tmp rfl))
  ·refine RunC.regionW ?_
   refine zM (r := i64 r1) rfl rfl rfl rfl rfl ?_
   refine zL (r := b false) rfl rfl rfl (LOp.eqb (LOp.lss rfl rfl rfl) hc3) ?_
   refine zN ?_
   refine RunC.cond_false rfl rfl ?_
   refine RunC.skip ?_
   refine RunC.seq ?_
   obtain ⟨r2, r3, r4, r5, hf4, h⟩ := obind4_some h
   obtain ⟨r6, hf5, h⟩ := obind_some h
   obtain ⟨r7, r8, hf6, h⟩ := obind2_some h
   refine RunC.regionW ?_
   refine zL (r := agg [i64 a0, i64 a1, sl a2.length (a2.map f32), sl a3.length (a3.map i64)]) rfl rfl rfl (LOp.loadAgg agg27 siz27 rfl rfl rfl rfl) ?_
   refine ROps.d (r := agg [i64 r2, i64 r3, oref 0 1 0 r4.length, oref 1 1 0 r5.length]) (fs := [(0, (r4.map f32)), (1, (r5.map i64))]) (Γ' := [⟨1, some (r4.map f32)⟩, ⟨1, some (r5.map i64)⟩, ⟨0, none⟩, ⟨0, none⟩, ⟨0, none⟩, ⟨0, none⟩, ⟨0, none⟩]) rfl rfl rfl (TOp.callBN (ls := [(r4.map f32), (r5.map i64)]) [0, 1] (CallAs.func ent7 rfl rfl) (Bors.cons (Bor.agg (Bors.cons (Bor.pure rfl) (Bors.cons (Bor.pure rfl) (Bors.cons (Bor.sl (fun _ => rfl)) (Bors.cons (Bor.sl (fun _ => rfl)) Bors.nil))))) Bors.nil) rfl (w_toFactor_ok a0 a1 a2 a3 r2 r3 r4 r5 hf4) (and_all (lts0_map (f := f32) (fun _ => rfl) _) (and_all (lts0_map (f := i64) (fun _ => rfl) _) rfl)) (and_all (noss_map (f := f32) (fun _ => rfl) _) (and_all (noss_map (f := i64) (fun _ => rfl) _) rfl)) rfl (by decide) (ns_of ⟨⟨_, rfl⟩, ⟨_, rfl⟩, trivial⟩)) rfl ?_
   refine zM (r := sl a4.length (a4.map f32)) rfl rfl rfl rfl rfl ?_
   refine ROps.d (r := oref 2 1 0 r6.length) (fs := [(2, (r6.map f32))]) (Γ' := [⟨1, some (r4.map f32)⟩, ⟨1, some (r5.map i64)⟩, ⟨1, some (r6.map f32)⟩, ⟨0, none⟩, ⟨0, none⟩, ⟨0, none⟩, ⟨0, none⟩]) rfl rfl rfl (TOp.callBN (ls := [(r6.map f32)]) [2] (CallAs.func ent8 rfl rfl) (Bors.cons (Bor.sl (fun _ => rfl)) Bors.nil) rfl (w_toFloat32S_ok a4 r6 hf5) (and_all (lts0_map (f := f32) (fun _ => rfl) _) rfl) (and_all (noss_map (f := f32) (fun _ => rfl) _) rfl) rfl (by decide) (ns_of ⟨⟨_, rfl⟩, trivial⟩)) rfl ?_
   refine ROps.d (r := tup [oref 3 1 0 r8.length, b r7]) (fs := [(3, (r8.map f32))]) (Γ' := [⟨1, some (r4.map f32)⟩, ⟨1, some (r5.map i64)⟩, ⟨1, some (r6.map f32)⟩, ⟨1, some (r8.map f32)⟩, ⟨0, none⟩, ⟨0, none⟩, ⟨0, none⟩]) rfl rfl rfl (TOp.callBN (ls := [(r8.map f32)]) [3] (CallAs.func ent6 rfl rfl) (Bors.cons (Bor.agg (Bors.cons (Bor.pure rfl) (Bors.cons (Bor.pure rfl) (Bors.cons (Bor.own (f := f32) (fun _ => rfl) rfl rfl) (Bors.cons (Bor.own (f := i64) (fun _ => rfl) rfl rfl) Bors.nil))))) (Bors.cons (Bor.own (f := f32) (fun _ => rfl) rfl rfl) Bors.nil)) rfl (s_FactorSolveFlipped_ok r2 r3 r4 r5 r6 r7 r8 hf6) (and_all (lts0_map (f := f32) (fun _ => rfl) _) rfl) (and_all (noss_map (f := f32) (fun _ => rfl) _) rfl) rfl (by decide) (ns_of ⟨⟨_, rfl⟩, trivial⟩)) rfl ?_
   refine zM (r := tup [oref 3 1 0 r8.length, b r7]) rfl rfl rfl rfl rfl ?_
   refine zL (r := oref 3 1 0 r8.length) rfl rfl rfl (LOp.extract rfl rfl rfl) ?_
   refine zL (r := b r7) rfl rfl rfl (LOp.extract rfl rfl rfl) ?_
   refine zA (r := oref 3 1 0 r8.length) rfl rfl rfl rfl rfl ?_
   refine zA (r := b r7) rfl rfl rfl rfl rfl ?_
   refine zN ?_
   refine RunC.wl (τ' := [(1, sl a4.length (a4.map f32)), (2, ptr [i64 a0, i64 a1, sl a2.length (a2.map f32), sl a3.length (a3.map i64)]), (6, oref 3 1 0 r8.length), (7, b r7)]) (Γ' := [⟨1, none⟩, ⟨1, none⟩, ⟨1, none⟩, ⟨1, some (r8.map f32)⟩, ⟨0, none⟩, ⟨0, none⟩, ⟨0, none⟩]) ⟨aR, aR, aR, aR, trivial⟩ ⟨⟨rfl, .inl rfl⟩, ⟨rfl, .inl rfl⟩, ⟨rfl, .inl rfl⟩, ⟨rfl, .inr rfl⟩, ⟨rfl, .inr rfl⟩, ⟨rfl, .inr rfl⟩, ⟨rfl, .inr rfl⟩, trivial⟩ ?_
   refine RunC.seq ?_
   obtain ⟨r9, r10, r11, r12, hf7, h⟩ := obind4_some h
   refine RunC.regionW ?_
   refine zL (r := agg [i64 a0, i64 a1, sl a2.length (a2.map f32), sl a3.length (a3.map i64)]) rfl rfl rfl (LOp.loadAgg agg27 siz27 rfl rfl rfl rfl) ?_
   refine ROps.d (r := agg [i64 r9, i64 r10, oref 0 2 0 r11.length, oref 1 2 0 r12.length]) (fs := [(0, (r11.map f32)), (1, (r12.map i64))]) (Γ' := [⟨2, some (r11.map f32)⟩, ⟨2, some (r12.map i64)⟩, ⟨1, none⟩, ⟨1, some (r8.map f32)⟩, ⟨0, none⟩, ⟨0, none⟩, ⟨0, none⟩]) rfl rfl rfl (TOp.callBN (ls := [(r11.map f32), (r12.map i64)]) [0, 1] (CallAs.func ent7 rfl rfl) (Bors.cons (Bor.agg (Bors.cons (Bor.pure rfl) (Bors.cons (Bor.pure rfl) (Bors.cons (Bor.sl (fun _ => rfl)) (Bors.cons (Bor.sl (fun _ => rfl)) Bors.nil))))) Bors.nil) rfl (w_toFactor_ok a0 a1 a2 a3 r9 r10 r11 r12 hf7) (and_all (lts0_map (f := f32) (fun _ => rfl) _) (and_all (lts0_map (f := i64) (fun _ => rfl) _) rfl)) (and_all (noss_map (f := f32) (fun _ => rfl) _) (and_all (noss_map (f := i64) (fun _ => rfl) _) rfl)) rfl (by decide) (ns_of ⟨⟨_, rfl⟩, ⟨_, rfl⟩, trivial⟩)) rfl ?_
   refine ROps.d (r := optr 2 2 0) (fs := [(2, [i64 0, i64 0, nilsl, nilsl])]) (Γ' := [⟨2, some (r11.map f32)⟩, ⟨2, some (r12.map i64)⟩, ⟨2, some [i64 0, i64 0, nilsl, nilsl]⟩, ⟨1, some (r8.map f32)⟩, ⟨0, none⟩, ⟨0, none⟩, ⟨0, none⟩]) rfl rfl rfl (TOp.alloc_o (g := ⟨1, none⟩) 2 rfl zer33 zok33 rfl) rfl ?_
   refine ROps.store_le (r := agg [i64 r9, i64 r10, oref 0 2 0 r11.length, oref 1 2 0 r12.length]) (l' := [i64 r9, i64 r10, oref 0 2 0 r11.length, oref 1 2 0 r12.length]) (Γ' := [⟨2, some (r11.map f32)⟩, ⟨2, some (r12.map i64)⟩, ⟨2, some [i64 r9, i64 r10, oref 0 2 0 r11.length, oref 1 2 0 r12.length]⟩, ⟨1, some (r8.map f32)⟩, ⟨0, none⟩, ⟨0, none⟩, ⟨0, none⟩]) rfl siz33 rfl rfl rfl aR rfl rfl rfl rfl (Nat.le_of_ble_eq_true rfl) rfl rfl ?_
   refine zN ?_
   refine RunC.seq ?_
   obtain ⟨r13, hf8, h⟩ := obind_some h
   refine RunC.regionW ?_
   refine zM (r := sl a4.length (a4.map f32)) rfl rfl rfl rfl rfl ?_
   refine ROps.d (r := oref 4 1 0 r13.length) (fs := [(4, (r13.map f32))]) (Γ' := [⟨2, some (r11.map f32)⟩, ⟨2, some (r12.map i64)⟩, ⟨2, some [i64 r9, i64 r10, oref 0 2 0 r11.length, oref 1 2 0 r12.length]⟩, ⟨1, some (r8.map f32)⟩, ⟨1, some (r13.map f32)⟩, ⟨0, none⟩, ⟨0, none⟩]) rfl rfl rfl (TOp.callBN (ls := [(r13.map f32)]) [4] (CallAs.func ent8 rfl rfl) (Bors.cons (Bor.sl (fun _ => rfl)) Bors.nil) rfl (w_toFloat32S_ok a4 r13 hf8) (and_all (lts0_map (f := f32) (fun _ => rfl) _) rfl) (and_all (noss_map (f := f32) (fun _ => rfl) _) rfl) rfl (by decide) (ns_of ⟨⟨_, rfl⟩, trivial⟩)) rfl ?_
   refine zA (r := oref 4 1 0 r13.length) rfl rfl rfl rfl rfl ?_
   refine zN ?_
   refine RunC.seq ?_
   obtain ⟨r14, r15, hf9, h⟩ := obind2_some h
   refine RunC.regionW ?_
   refine ROps.d (r := agg [i64 r9, i64 r10, oref 0 2 0 r11.length, oref 1 2 0 r12.length]) (fs := []) (Γ' := [⟨2, some (r11.map f32)⟩, ⟨2, some (r12.map i64)⟩, ⟨2, some [i64 r9, i64 r10, oref 0 2 0 r11.length, oref 1 2 0 r12.length]⟩, ⟨1, some (r8.map f32)⟩, ⟨1, some (r13.map f32)⟩, ⟨0, none⟩, ⟨0, none⟩]) rfl rfl rfl (TOp.loadAgg_o rfl agg33 siz33 rfl rfl rfl rfl) rfl ?_
   refine zM (r := oref 4 1 0 r13.length) rfl rfl rfl rfl rfl ?_
   refine ROps.d (r := tup [oref 5 1 0 r15.length, b r14]) (fs := [(5, (r15.map f32))]) (Γ' := [⟨2, some (r11.map f32)⟩, ⟨2, some (r12.map i64)⟩, ⟨2, some [i64 r9, i64 r10, oref 0 2 0 r11.length, oref 1 2 0 r12.length]⟩, ⟨1, some (r8.map f32)⟩, ⟨1, some (r13.map f32)⟩, ⟨1, some (r15.map f32)⟩, ⟨0, none⟩]) rfl rfl rfl (TOp.callBN (ls := [(r15.map f32)]) [5] (CallAs.func ent9 rfl rfl) (Bors.cons (Bor.agg (Bors.cons (Bor.pure rfl) (Bors.cons (Bor.pure rfl) (Bors.cons (Bor.own (f := f32) (fun _ => rfl) rfl rfl) (Bors.cons (Bor.own (f := i64) (fun _ => rfl) rfl rfl) Bors.nil))))) (Bors.cons (Bor.own (f := f32) (fun _ => rfl) rfl rfl) Bors.nil)) rfl (i_FactorSolveFlipped_ok r9 r10 r11 r12 r13 r14 r15 hf9) (and_all (lts0_map (f := f32) (fun _ => rfl) _) rfl) (and_all (noss_map (f := f32) (fun _ => rfl) _) rfl) rfl (by decide) (ns_of ⟨⟨_, rfl⟩, trivial⟩)) rfl ?_
   refine zM (r := tup [oref 5 1 0 r15.length, b r14]) rfl rfl rfl rfl rfl ?_
   refine zL (r := oref 5 1 0 r15.length) rfl rfl rfl (LOp.extract rfl rfl rfl) ?_
   refine zL (r := b r14) rfl rfl rfl (LOp.extract rfl rfl rfl) ?_
   refine zA (r := oref 5 1 0 r15.length) rfl rfl rfl rfl rfl ?_
   refine zA (r := b r14) rfl rfl rfl rfl rfl ?_
   refine zN ?_
   refine RunC.seq ?_
   refine RunC.seq ?_
   obtain ⟨r16, hf10, h⟩ := obind_some h
   rcases bsel_some h with ⟨hc11, h⟩ | ⟨hc11, h⟩
   ·rcases bsel_some h with ⟨hc12, h⟩ | ⟨hc12, h⟩
    ·refine RunC.regionW ?_
     refine zM (r := oref 5 1 0 r15.length) rfl rfl rfl rfl rfl ?_
     refine zM (r := oref 3 1 0 r8.length) rfl rfl rfl rfl rfl ?_
     refine ROps.d (r := b true) (fs := []) (Γ' := [⟨2, some (r11.map f32)⟩, ⟨2, some (r12.map i64)⟩, ⟨2, some [i64 r9, i64 r10, oref 0 2 0 r11.length, oref 1 2 0 r12.length]⟩, ⟨1, some (r8.map f32)⟩, ⟨1, some (r13.map f32)⟩, ⟨1, some (r15.map f32)⟩, ⟨0, none⟩]) rfl rfl rfl (TOp.eqb (TOp.callB (CallAs.func ent10 rfl rfl) (Bors.cons (Bor.own (f := f32) (fun _ => rfl) rfl rfl) (Bors.cons (Bor.own (f := f32) (fun _ => rfl) rfl rfl) Bors.nil)) rfl rfl (w_eqFloat32S_ok r15 r8 r16 hf10)) hc11) rfl ?_
     refine zL (r := b false) rfl rfl rfl (LOp.eqb (LOp.not rfl rfl) rfl) ?_
     refine zM (r := b false) rfl rfl rfl rfl rfl ?_
     refine zM (r := b r14) rfl rfl rfl rfl rfl ?_
     refine zM (r := b r7) rfl rfl rfl rfl rfl ?_
     refine zL (r := b true) rfl rfl rfl (LOp.eqb (LOp.neqb pun4 rfl rfl rfl) hc12) ?_
     refine zL (r := b true) rfl rfl rfl (LOp.pick_false rfl rfl rfl) ?_
     refine zN ?_
     refine RunC.cond_true rfl rfl ?_
     refine zQ ?_
     refine zA (r := b false) rfl rfl rfl rfl rfl ?_
     refine zN ?_
     refine RunC.ret ?_
     have hq := Option.some.inj h
     subst q0
     exact bodyQ.pure (.inr rfl) rfl (Res.one rfl (RV.tmp rfl))
    ·refine RunC.regionW ?_
     refine zM (r := oref 5 1 0 r15.length) rfl rfl rfl rfl rfl ?_
     refine zM (r := oref 3 1 0 r8.length) rfl rfl rfl rfl rfl ?_
     refine ROps.d (r := b true) (fs := []) (Γ' := [⟨2, some (r11.map f32)⟩, ⟨2, some (r12.map i64)⟩, ⟨2, some [i64 r9, i64 r10, oref 0 2 0 r11.length, oref 1 2 0 r12.length]⟩, ⟨1, some (r8.map f32)⟩, ⟨1, some (r13.map f32)⟩, ⟨1, some (r15.map f32)⟩, ⟨0, none⟩]) rfl rfl rfl (TOp.eqb (TOp.callB (CallAs.func ent10 rfl rfl) (Bors.cons (Bor.own (f := f32) (fun _ => rfl) rfl rfl) (Bors.cons (Bor.own (f := f32) (fun _ => rfl) rfl rfl) Bors.nil)) rfl rfl (w_eqFloat32S_ok r15 r8 r16 hf10)) hc11) rfl ?_
     refine zL (r := b false) rfl rfl rfl (LOp.eqb (LOp.not rfl rfl) rfl) ?_
     refine zM (r := b false) rfl rfl rfl rfl rfl ?_
     refine zM (r := b r14) rfl rfl rfl rfl rfl ?_
     refine zM (r := b r7) rfl rfl rfl rfl rfl ?_
     refine zL (r := b false) rfl rfl rfl (LOp.eqb (LOp.neqb pun4 rfl rfl rfl) hc12) ?_
     refine zL (r := b false) rfl rfl rfl (LOp.pick_false rfl rfl rfl) ?_
     refine zN ?_
     refine RunC.cond_false rfl rfl ?_
     refine RunC.skip ?_
     refine RunC.seq ?_
     refine RunC.seq ?_
     obtain ⟨r17, r18, r19, r20, hf13, h⟩ := obind4_some h
     obtain ⟨r21, hf14, h⟩ := obind_some h
     rcases bsel_some h with ⟨hc15, h⟩ | ⟨hc15, h⟩
     ·refine RunC.region_draw (Γ' := [⟨2, some (r11.map f32)⟩, ⟨2, some (r12.map i64)⟩, ⟨2, some [i64 r9, i64 r10, oref 0 2 0 r11.length, oref 1 2 0 r12.length]⟩, ⟨1, some (r8.map f32)⟩, ⟨1, some (r13.map f32)⟩, ⟨1, some (r15.map f32)⟩, ⟨0, none⟩]) 5 mixed 
       (TR.d (r := agg [i64 r9, i64 r10, oref 0 2 0 r11.length, oref 1 2 0 r12.length]) (fs := []) rfl rfl (TOp.loadAgg_o rfl agg33 siz33 rfl rfl rfl rfl) <|
       (TR.l (r := agg [i64 a0, i64 a1, sl a2.length (a2.map f32), sl a3.length (a3.map i64)]) rfl rfl (LOp.loadAgg agg27 siz27 rfl rfl rfl rfl) <|
       (TR.d (r := agg [i64 r17, i64 r18, sl r19.length (r19.map f32), sl r20.length (r20.map i64)]) (fs := []) rfl rfl (TOp.callS (CallAs.func ent7 rfl rfl) (ALes.cons aR ALes.nil) (lts_cons (lt_agg (lts_cons rfl (lts_cons rfl (lts_cons (lt_sl (fun _ => rfl)) (lts_cons (lt_sl (fun _ => rfl)) lts_nil))))) lts_nil) (lt_agg (lts_cons rfl (lts_cons rfl (lts_cons (lt_sl (fun _ => rfl)) (lts_cons (lt_sl (fun _ => rfl)) lts_nil))))) (w_toFactor_ok a0 a1 a2 a3 r17 r18 r19 r20 hf13) (Bor.agg (Bors.cons (Bor.pure rfl) (Bors.cons (Bor.pure rfl) (Bors.cons (Bor.own (f := f32) (fun _ => rfl) rfl rfl) (Bors.cons (Bor.own (f := i64) (fun _ => rfl) rfl rfl) Bors.nil)))))) <|
       (TR.d (r := b true) (fs := []) rfl rfl (TOp.eqb (TOp.callB (CallAs.func ent11 rfl rfl) (Bors.cons (Bor.agg (Bors.cons (Bor.pure rfl) (Bors.cons (Bor.pure rfl) (Bors.cons (Bor.own (f := f32) (fun _ => rfl) rfl rfl) (Bors.cons (Bor.own (f := i64) (fun _ => rfl) rfl rfl) Bors.nil))))) (Bors.cons (Bor.agg (Bors.cons (Bor.pure rfl) (Bors.cons (Bor.pure rfl) (Bors.cons (Bor.sl (fun _ => rfl)) (Bors.cons (Bor.sl (fun _ => rfl)) Bors.nil))))) Bors.nil)) rfl rfl (w_eqFactor_ok r9 r10 r11 r12 r17 r18 r19 r20 r21 hf14)) hc15) <|
       (TR.l (r := b false) rfl rfl (LOp.eqb (LOp.not rfl rfl) rfl) <|
       TR.nil))))) rfl (by kernel_rfl) rfl fills_nil rfl ?_
      iterate 5 refine ROps.dropS ?_
      refine ROps.drop0 ?_
      refine zN ?_
      refine RunC.wl (τ' := [(1, sl a4.length (a4.map f32)), (2, ptr [i64 a0, i64 a1, sl a2.length (a2.map f32), sl a3.length (a3.map i64)]), (6, oref 3 1 0 r8.length), (7, b r7), (8, optr 2 2 0), (9, oref 4 1 0 r13.length), (10, oref 5 1 0 r15.length), (11, b r14), (56, b false)]) (Γ' := [⟨2, some (r11.map f32)⟩, ⟨2, some (r12.map i64)⟩, ⟨2, some [i64 r9, i64 r10, oref 0 2 0 r11.length, oref 1 2 0 r12.length]⟩, ⟨1, some (r8.map f32)⟩, ⟨1, some (r13.map f32)⟩, ⟨1, some (r15.map f32)⟩, ⟨0, none⟩]) ⟨aR, aR, aR, aR, aR, aR, aR, aR, aR, trivial⟩ ⟨⟨rfl, .inr rfl⟩, ⟨rfl, .inr rfl⟩, ⟨rfl, .inr rfl⟩, ⟨rfl, .inr rfl⟩, ⟨rfl, .inr rfl⟩, ⟨rfl, .inr rfl⟩, ⟨rfl, .inr rfl⟩, trivial⟩ ?_
      refine RunC.cond_false rfl rfl ?_
      refine RunC.skip ?_
      refine RunC.seq ?_
      refine RunC.seq ?_
      obtain ⟨r22, hf16, h⟩ := obind_some h
      obtain ⟨r23, hf17, h⟩ := obind_some h
      rcases bsel_some h with ⟨hc18, h⟩ | ⟨hc18, h⟩
      ·refine RunC.regionW ?_
       refine zM (r := oref 4 1 0 r13.length) rfl rfl rfl rfl rfl ?_
       refine zM (r := sl a4.length (a4.map f32)) rfl rfl rfl rfl rfl ?_
       refine ROps.d (r := oref 6 1 0 r22.length) (fs := [(6, (r22.map f32))]) (Γ' := [⟨2, some (r11.map f32)⟩, ⟨2, some (r12.map i64)⟩, ⟨2, some [i64 r9, i64 r10, oref 0 2 0 r11.length, oref 1 2 0 r12.length]⟩, ⟨1, some (r8.map f32)⟩, ⟨1, some (r13.map f32)⟩, ⟨1, some (r15.map f32)⟩, ⟨1, some (r22.map f32)⟩]) rfl rfl rfl (TOp.callBN (ls := [(r22.map f32)]) [6] (CallAs.func ent8 rfl rfl) (Bors.cons (Bor.sl (fun _ => rfl)) Bors.nil) rfl (w_toFloat32S_ok a4 r22 hf16) (and_all (lts0_map (f := f32) (fun _ => rfl) _) rfl) (and_all (noss_map (f := f32) (fun _ => rfl) _) rfl) rfl (by decide) (ns_of ⟨⟨_, rfl⟩, trivial⟩)) rfl ?_
       refine ROps.d (r := b true) (fs := []) (Γ' := [⟨2, some (r11.map f32)⟩, ⟨2, some (r12.map i64)⟩, ⟨2, some [i64 r9, i64 r10, oref 0 2 0 r11.length, oref 1 2 0 r12.length]⟩, ⟨1, some (r8.map f32)⟩, ⟨1, some (r13.map f32)⟩, ⟨1, some (r15.map f32)⟩, ⟨1, some (r22.map f32)⟩]) rfl rfl rfl (TOp.eqb (TOp.callB (CallAs.func ent10 rfl rfl) (Bors.cons (Bor.own (f := f32) (fun _ => rfl) rfl rfl) (Bors.cons (Bor.own (f := f32) (fun _ => rfl) rfl rfl) Bors.nil)) rfl rfl (w_eqFloat32S_ok r13 r22 r23 hf17)) hc18) rfl ?_
       refine zL (r := b false) rfl rfl rfl (LOp.eqb (LOp.not rfl rfl) rfl) ?_
       refine zN ?_
       refine RunC.wl (τ' := [(1, sl a4.length (a4.map f32)), (2, ptr [i64 a0, i64 a1, sl a2.length (a2.map f32), sl a3.length (a3.map i64)]), (6, oref 3 1 0 r8.length), (7, b r7), (8, optr 2 2 0), (9, oref 4 1 0 r13.length), (10, oref 5 1 0 r15.length), (11, b r14), (61, b false)]) (Γ' := [⟨2, some (r11.map f32)⟩, ⟨2, some (r12.map i64)⟩, ⟨2, some [i64 r9, i64 r10, oref 0 2 0 r11.length, oref 1 2 0 r12.length]⟩, ⟨1, some (r8.map f32)⟩, ⟨1, some (r13.map f32)⟩, ⟨1, some (r15.map f32)⟩, ⟨1, none⟩]) ⟨aR, aR, aR, aR, aR, aR, aR, aR, aR, trivial⟩ ⟨⟨rfl, .inr rfl⟩, ⟨rfl, .inr rfl⟩, ⟨rfl, .inr rfl⟩, ⟨rfl, .inr rfl⟩, ⟨rfl, .inr rfl⟩, ⟨rfl, .inr rfl⟩, ⟨rfl, .inl rfl⟩, trivial⟩ ?_
       refine RunC.cond_false rfl rfl ?_
       refine RunC.skip ?_
       refine zQ ?_
       refine zA (r := i64 1) rfl rfl rfl rfl rfl ?_
       refine zN ?_
       refine RunC.seq ?_
       obtain ⟨r24, r25, r26, hf19, h⟩ := obind3_some h
       obtain ⟨hn20, h⟩ := need_some h
       obtain ⟨hn21, h⟩ := need_some h
       refine RunC.regionW ?_
       refine ROps.d (r := agg [i64 r9, i64 r10, oref 0 2 0 r11.length, oref 1 2 0 r12.length]) (fs := []) (Γ' := [⟨2, some (r11.map f32)⟩, ⟨2, some (r12.map i64)⟩, ⟨2, some [i64 r9, i64 r10, oref 0 2 0 r11.length, oref 1 2 0 r12.length]⟩, ⟨1, some (r8.map f32)⟩, ⟨1, some (r13.map f32)⟩, ⟨1, some (r15.map f32)⟩, ⟨1, none⟩]) rfl rfl rfl (TOp.loadAgg_o rfl agg33 siz33 rfl rfl rfl rfl) rfl ?_
       refine zM (r := i64 1) rfl rfl rfl rfl rfl ?_
       refine ROps.callO (A := [agg [i64 r9, i64 r10, oref 0 2 0 r11.length, oref 1 2 0 r12.length], i64 1]) (args := [agg [i64 r9, i64 r10, oref 0 0 0 r11.length, oref 1 0 0 r12.length], i64 1]) (Γc := [⟨0, some (r11.map f32)⟩, ⟨0, some (r12.map i64)⟩]) (Γc' := [⟨0, some (r25.map f32)⟩, ⟨0, some (r26.map i64)⟩]) (r' := i64 r24) (Γ' := [⟨2, some (r25.map f32)⟩, ⟨2, some (r26.map i64)⟩, ⟨2, some [i64 r9, i64 r10, oref 0 2 0 r11.length, oref 1 2 0 r12.length]⟩, ⟨1, some (r8.map f32)⟩, ⟨1, some (r13.map f32)⟩, ⟨1, some (r15.map f32)⟩, ⟨1, none⟩]) [(0, 2), (1, 2)] [] rfl (CallAs.func ent12 rfl rfl) rfl rfl (SelOk.of (show List.Nodup [0, 1] from by decide) (SelL.arr0 (f := f32) (fun _ => rfl) rfl (SelL.arr0 (f := i64) (fun _ => rfl) rfl trivial))) (live_of ⟨⟨_, _, rfl⟩, ⟨_, _, rfl⟩, trivial⟩) (by simp [ren, rens, sigma, rens_f32, rens_f64, rens_i64, rens_ik, rens_str, rens_cp]) rfl (w_markFactor_02o_03o1_ok r9 r10 1 r11 r12 r24 r25 r26 hf19) rfl (news_of trivial) (show List.Nodup [0, 1] from by decide) (by simp [ren, rens, sigma, of_decide_eq_true hn20, of_decide_eq_true hn21]) (by simp [backOb, sigma, ren, rens, rens_f32, rens_f64, rens_i64, rens_ik, rens_str, rens_cp]) ?_
       refine zA (r := i64 r24) rfl rfl rfl rfl rfl ?_
       refine zN ?_
       refine RunC.wl (τ' := [(1, sl a4.length (a4.map f32)), (2, ptr [i64 a0, i64 a1, sl a2.length (a2.map f32), sl a3.length (a3.map i64)]), (6, oref 3 1 0 r8.length), (7, b r7), (9, oref 4 1 0 r13.length), (10, oref 5 1 0 r15.length), (11, b r14), (12, i64 r24)]) (Γ' := [⟨2, none⟩, ⟨2, none⟩, ⟨2, none⟩, ⟨1, some (r8.map f32)⟩, ⟨1, some (r13.map f32)⟩, ⟨1, some (r15.map f32)⟩, ⟨1, none⟩]) ⟨aR, aR, aR, aR, aR, aR, aR, aR, trivial⟩ ⟨⟨rfl, .inl rfl⟩, ⟨rfl, .inl rfl⟩, ⟨rfl, .inl rfl⟩, ⟨rfl, .inr rfl⟩, ⟨rfl, .inr rfl⟩, ⟨rfl, .inr rfl⟩, ⟨rfl, .inl rfl⟩, trivial⟩ ?_
       refine RunC.seq ?_
       obtain ⟨r27, r28, hf22, h⟩ := obind2_some h
       obtain ⟨hn23, h⟩ := need_some h
       refine RunC.regionW ?_
       refine zM (r := oref 4 1 0 r13.length) rfl rfl rfl rfl rfl ?_
       refine zM (r := i64 r24) rfl rfl rfl rfl rfl ?_
       refine ROps.callO (A := [oref 4 1 0 r13.length, i64 r24]) (args := [oref 0 0 0 r13.length, i64 r24]) (Γc := [⟨0, some (r13.map f32)⟩]) (Γc' := [⟨0, some (r28.map f32)⟩]) (r' := i64 r27) (Γ' := [⟨2, none⟩, ⟨2, none⟩, ⟨2, none⟩, ⟨1, some (r8.map f32)⟩, ⟨1, some (r28.map f32)⟩, ⟨1, some (r15.map f32)⟩, ⟨1, none⟩]) [(4, 1)] [] rfl (CallAs.func ent13 rfl rfl) rfl rfl (SelOk.of (show List.Nodup [4] from by decide) (SelL.arr0 (f := f32) (fun _ => rfl) rfl trivial)) (live_of ⟨⟨_, _, rfl⟩, trivial⟩) (by simp [ren, rens, sigma, rens_f32, rens_f64, rens_i64, rens_ik, rens_str, rens_cp]) rfl (w_markFloat32S_0o_ok r24 r13 r27 r28 hf22) rfl (news_of trivial) (show List.Nodup [4] from by decide) (by simp [ren, rens, sigma, of_decide_eq_true hn23]) (by simp [backOb, sigma, ren, rens, rens_f32, rens_f64, rens_i64, rens_ik, rens_str, rens_cp]) ?_
       refine zA (r := i64 r27) rfl rfl rfl rfl rfl ?_
       refine zN ?_
       refine RunC.wl (τ' := [(1, sl a4.length (a4.map f32)), (2, ptr [i64 a0, i64 a1, sl a2.length (a2.map f32), sl a3.length (a3.map i64)]), (6, oref 3 1 0 r8.length), (7, b r7), (10, oref 5 1 0 r15.length), (11, b r14), (12, i64 r27)]) (Γ' := [⟨2, none⟩, ⟨2, none⟩, ⟨2, none⟩, ⟨1, some (r8.map f32)⟩, ⟨1, none⟩, ⟨1, some (r15.map f32)⟩, ⟨1, none⟩]) ⟨aR, aR, aR, aR, aR, aR, aR, trivial⟩ ⟨⟨rfl, .inl rfl⟩, ⟨rfl, .inl rfl⟩, ⟨rfl, .inl rfl⟩, ⟨rfl, .inr rfl⟩, ⟨rfl, .inl rfl⟩, ⟨rfl, .inr rfl⟩, ⟨rfl, .inl rfl⟩, trivial⟩ ?_
       refine RunC.seq ?_
       refine RunC.seq ?_
       rcases bsel_some h with ⟨hc24, h⟩ | ⟨hc24, h⟩
       ·refine RunC.regionW ?_
        refine zM (r := i64 r27) rfl rfl rfl rfl rfl ?_
        refine zL (r := b true) rfl rfl rfl (LOp.eqb (LOp.lss rfl rfl rfl) hc24) ?_
        refine zM (r := b true) rfl rfl rfl rfl rfl ?_
        refine ROps.s rfl rfl rfl ?_
        refine ROps.s rfl rfl rfl ?_
        refine ROps.s rfl rfl rfl ?_
        refine ROps.s rfl rfl rfl ?_
        refine zL (r := b true) rfl rfl rfl (LOp.pick_true rfl rfl rfl) ?_
        refine zM (r := b true) rfl rfl rfl rfl rfl ?_
        refine ROps.s rfl rfl rfl ?_
        refine ROps.s rfl rfl rfl ?_
        refine ROps.s rfl rfl rfl ?_
        refine zL (r := b true) rfl rfl rfl (LOp.pick_true rfl rfl rfl) ?_
        refine zN ?_
        refine RunC.cond_true rfl rfl ?_
        refine zQ ?_
        refine zA (r := b false) rfl rfl rfl rfl rfl ?_
        refine zN ?_
        refine RunC.ret ?_
        have hq := Option.some.inj h
        subst q0
        exact bodyQ.pure (.inr rfl) rfl (Res.one rfl (RV.tmp rfl))
       ·obtain ⟨r29, hf25, h⟩ := obind_some h
        rcases bsel_some h with ⟨hc26, h⟩ | ⟨hc26, h⟩
        ·refine RunC.regionW ?_
         refine zM (r := i64 r27) rfl rfl rfl rfl rfl ?_
         refine zL (r := b false) rfl rfl rfl (LOp.eqb (LOp.lss rfl rfl rfl) hc24) ?_
         refine zM (r := b false) rfl rfl rfl rfl rfl ?_
         refine zM (r := oref 5 1 0 r15.length) rfl rfl rfl rfl rfl ?_
         refine zM (r := oref 3 1 0 r8.length) rfl rfl rfl rfl rfl ?_
         refine ROps.d (r := b true) (fs := []) (Γ' := [⟨2, none⟩, ⟨2, none⟩, ⟨2, none⟩, ⟨1, some (r8.map f32)⟩, ⟨1, none⟩, ⟨1, some (r15.map f32)⟩, ⟨1, none⟩]) rfl rfl rfl (TOp.eqb (TOp.callB (CallAs.func ent10 rfl rfl) (Bors.cons (Bor.own (f := f32) (fun _ => rfl) rfl rfl) (Bors.cons (Bor.own (f := f32) (fun _ => rfl) rfl rfl) Bors.nil)) rfl rfl (w_eqFloat32S_ok r15 r8 r29 hf25)) hc26) rfl ?_
         refine zL (r := b false) rfl rfl rfl (LOp.eqb (LOp.not rfl rfl) rfl) ?_
         refine zL (r := b false) rfl rfl rfl (LOp.pick_false rfl rfl rfl) ?_
         refine zM (r := b false) rfl rfl rfl rfl rfl ?_
         refine zM (r := b r14) rfl rfl rfl rfl rfl ?_
         refine zM (r := b r7) rfl rfl rfl rfl rfl ?_
         refine zL (r := b false) rfl rfl rfl (LOp.eqb (LOp.neqb pun4 rfl rfl rfl) hc12) ?_
         refine zL (r := b false) rfl rfl rfl (LOp.pick_false rfl rfl rfl) ?_
         refine zN ?_
         refine RunC.cond_false rfl rfl ?_
         refine RunC.skip ?_
         refine zQ ?_
         refine zA (r := i64 1) rfl rfl rfl rfl rfl ?_
         refine zN ?_
         refine RunC.seq ?_
         obtain ⟨r30, r31, hf27, h⟩ := obind2_some h
         obtain ⟨hn28, h⟩ := need_some h
         refine RunC.regionW ?_
         refine zM (r := oref 5 1 0 r15.length) rfl rfl rfl rfl rfl ?_
         refine zM (r := i64 1) rfl rfl rfl rfl rfl ?_
         refine ROps.callO (A := [oref 5 1 0 r15.length, i64 1]) (args := [oref 0 0 0 r15.length, i64 1]) (Γc := [⟨0, some (r15.map f32)⟩]) (Γc' := [⟨0, some (r31.map f32)⟩]) (r' := i64 r30) (Γ' := [⟨2, none⟩, ⟨2, none⟩, ⟨2, none⟩, ⟨1, some (r8.map f32)⟩, ⟨1, none⟩, ⟨1, some (r31.map f32)⟩, ⟨1, none⟩]) [(5, 1)] [] rfl (CallAs.func ent13 rfl rfl) rfl rfl (SelOk.of (show List.Nodup [5] from by decide) (SelL.arr0 (f := f32) (fun _ => rfl) rfl trivial)) (live_of ⟨⟨_, _, rfl⟩, trivial⟩) (by simp [ren, rens, sigma, rens_f32, rens_f64, rens_i64, rens_ik, rens_str, rens_cp]) rfl (w_markFloat32S_0o_ok 1 r15 r30 r31 hf27) rfl (news_of trivial) (show List.Nodup [5] from by decide) (by simp [ren, rens, sigma, of_decide_eq_true hn28]) (by simp [backOb, sigma, ren, rens, rens_f32, rens_f64, rens_i64, rens_ik, rens_str, rens_cp]) ?_
         refine zA (r := i64 r30) rfl rfl rfl rfl rfl ?_
         refine zN ?_
         refine RunC.wl (τ' := [(1, sl a4.length (a4.map f32)), (2, ptr [i64 a0, i64 a1, sl a2.length (a2.map f32), sl a3.length (a3.map i64)]), (6, oref 3 1 0 r8.length), (7, b r7), (10, oref 5 1 0 r15.length), (13, i64 r30)]) (Γ' := [⟨2, none⟩, ⟨2, none⟩, ⟨2, none⟩, ⟨1, some (r8.map f32)⟩, ⟨1, none⟩, ⟨1, some (r31.map f32)⟩, ⟨1, none⟩]) ⟨aR, aR, aR, aR, aR, aR, trivial⟩ ⟨⟨rfl, .inl rfl⟩, ⟨rfl, .inl rfl⟩, ⟨rfl, .inl rfl⟩, ⟨rfl, .inr rfl⟩, ⟨rfl, .inl rfl⟩, ⟨rfl, .inr rfl⟩, ⟨rfl, .inl rfl⟩, trivial⟩ ?_
         refine zQ ?_
         refine zA (r := i64 1) rfl rfl rfl rfl rfl ?_
         refine zN ?_
         refine RunC.seq ?_
         obtain ⟨r32, hf29, h⟩ := obind_some h
         refine RunC.regionW ?_
         refine zM (r := oref 5 1 0 r15.length) rfl rfl rfl rfl rfl ?_
         refine zM (r := i64 1) rfl rfl rfl rfl rfl ?_
         refine ROps.d (r := i64 r32) (fs := []) (Γ' := [⟨2, none⟩, ⟨2, none⟩, ⟨2, none⟩, ⟨1, some (r8.map f32)⟩, ⟨1, none⟩, ⟨1, some (r31.map f32)⟩, ⟨1, none⟩]) rfl rfl rfl (TOp.callB (CallAs.func ent14 rfl rfl) (Bors.cons (Bor.own (f := f32) (fun _ => rfl) rfl (of_decide_eq_true hn28)) (Bors.cons (Bor.pure rfl) Bors.nil)) rfl rfl (w_heldFloat32S_ok r31 1 r32 hf29)) rfl ?_
         refine zA (r := i64 r32) rfl rfl rfl rfl rfl ?_
         refine zN ?_
         refine RunC.seq ?_
         refine RunC.seq ?_
         rcases bsel_some h with ⟨hc30, h⟩ | ⟨hc30, h⟩
         ·refine RunC.regionW ?_
          refine zM (r := i64 r32) rfl rfl rfl rfl rfl ?_
          refine zL (r := b true) rfl rfl rfl (LOp.eqb (LOp.lss rfl rfl rfl) hc30) ?_
          refine zN ?_
          refine RunC.cond_true rfl rfl ?_
          refine zQ ?_
          refine zA (r := b false) rfl rfl rfl rfl rfl ?_
          refine zN ?_
          refine RunC.ret ?_
          have hq := Option.some.inj h
          subst q0
          exact bodyQ.pure (.inr rfl) rfl (Res.one rfl (RV.tmp rfl))
         ·refine RunC.regionW ?_
          refine zM (r := i64 r32) rfl rfl rfl rfl rfl ?_
          refine zL (r := b false) rfl rfl rfl (LOp.eqb (LOp.lss rfl rfl rfl) hc30) ?_
          refine zN ?_
          refine RunC.cond_false rfl rfl ?_
          refine RunC.skip ?_
          refine RunC.seq ?_
          refine RunC.seq ?_
          rcases bsel_some h with ⟨hc31, h⟩ | ⟨hc31, h⟩
          ·refine RunC.regionW ?_
           refine zM (r := i64 r32) rfl rfl rfl rfl rfl ?_
           refine zM (r := i64 r30) rfl rfl rfl rfl rfl ?_
           refine zL (r := b true) rfl rfl rfl (LOp.eqb (LOp.neq rfl rfl rfl) hc31) ?_
           refine zN ?_
           refine RunC.cond_true rfl rfl ?_
           refine zQ ?_
           refine zA (r := b false) rfl rfl rfl rfl rfl ?_
           refine zN ?_
           refine RunC.ret ?_
           have hq := Option.some.inj h
           subst q0
           exact bodyQ.pure (.inr rfl) rfl (Res.one rfl (RV.tmp rfl))
          ·refine RunC.regionW ?_
           refine zM (r := i64 r32) rfl rfl rfl rfl rfl ?_
           refine zM (r := i64 r30) rfl rfl rfl rfl rfl ?_
           refine zL (r := b false) rfl rfl rfl (LOp.eqb (LOp.neq rfl rfl rfl) hc31) ?_
           refine zN ?_
           refine RunC.cond_false rfl rfl ?_
           refine RunC.skip ?_
           refine RunC.seq ?_
           obtain ⟨r33, r34, r35, r36, hf32, h⟩ := obind4_some h
           obtain ⟨r37, hf33, h⟩ := obind_some h
           obtain ⟨r38, r39, hf34, h⟩ := obind2_some h
           refine RunC.regionW ?_
           refine zL (r := agg [i64 a0, i64 a1, sl a2.length (a2.map f32), sl a3.length (a3.map i64)]) rfl rfl rfl (LOp.loadAgg agg27 siz27 rfl rfl rfl rfl) ?_
           refine ROps.d (r := agg [i64 r33, i64 r34, oref 0 3 0 r35.length, oref 1 3 0 r36.length]) (fs := [(0, (r35.map f32)), (1, (r36.map i64))]) (Γ' := [⟨3, some (r35.map f32)⟩, ⟨3, some (r36.map i64)⟩, ⟨2, none⟩, ⟨1, some (r8.map f32)⟩, ⟨1, none⟩, ⟨1, some (r31.map f32)⟩, ⟨1, none⟩]) rfl rfl rfl (TOp.callBN (ls := [(r35.map f32), (r36.map i64)]) [0, 1] (CallAs.func ent7 rfl rfl) (Bors.cons (Bor.agg (Bors.cons (Bor.pure rfl) (Bors.cons (Bor.pure rfl) (Bors.cons (Bor.sl (fun _ => rfl)) (Bors.cons (Bor.sl (fun _ => rfl)) Bors.nil))))) Bors.nil) rfl (w_toFactor_ok a0 a1 a2 a3 r33 r34 r35 r36 hf32) (and_all (lts0_map (f := f32) (fun _ => rfl) _) (and_all (lts0_map (f := i64) (fun _ => rfl) _) rfl)) (and_all (noss_map (f := f32) (fun _ => rfl) _) (and_all (noss_map (f := i64) (fun _ => rfl) _) rfl)) rfl (by decide) (ns_of ⟨⟨_, rfl⟩, ⟨_, rfl⟩, trivial⟩)) rfl ?_
           refine zM (r := sl a4.length (a4.map f32)) rfl rfl rfl rfl rfl ?_
           refine ROps.d (r := oref 2 3 0 r37.length) (fs := [(2, (r37.map f32))]) (Γ' := [⟨3, some (r35.map f32)⟩, ⟨3, some (r36.map i64)⟩, ⟨3, some (r37.map f32)⟩, ⟨1, some (r8.map f32)⟩, ⟨1, none⟩, ⟨1, some (r31.map f32)⟩, ⟨1, none⟩]) rfl rfl rfl (TOp.callBN (ls := [(r37.map f32)]) [2] (CallAs.func ent8 rfl rfl) (Bors.cons (Bor.sl (fun _ => rfl)) Bors.nil) rfl (w_toFloat32S_ok a4 r37 hf33) (and_all (lts0_map (f := f32) (fun _ => rfl) _) rfl) (and_all (noss_map (f := f32) (fun _ => rfl) _) rfl) rfl (by decide) (ns_of ⟨⟨_, rfl⟩, trivial⟩)) rfl ?_
           refine ROps.d (r := tup [oref 4 2 0 r39.length, b r38]) (fs := [(4, (r39.map f32))]) (Γ' := [⟨3, some (r35.map f32)⟩, ⟨3, some (r36.map i64)⟩, ⟨3, some (r37.map f32)⟩, ⟨1, some (r8.map f32)⟩, ⟨2, some (r39.map f32)⟩, ⟨1, some (r31.map f32)⟩, ⟨1, none⟩]) rfl rfl rfl (TOp.callBN (ls := [(r39.map f32)]) [4] (CallAs.func ent9 rfl rfl) (Bors.cons (Bor.agg (Bors.cons (Bor.pure rfl) (Bors.cons (Bor.pure rfl) (Bors.cons (Bor.own (f := f32) (fun _ => rfl) rfl rfl) (Bors.cons (Bor.own (f := i64) (fun _ => rfl) rfl rfl) Bors.nil))))) (Bors.cons (Bor.own (f := f32) (fun _ => rfl) rfl rfl) Bors.nil)) rfl (i_FactorSolveFlipped_ok r33 r34 r35 r36 r37 r38 r39 hf34) (and_all (lts0_map (f := f32) (fun _ => rfl) _) rfl) (and_all (noss_map (f := f32) (fun _ => rfl) _) rfl) rfl (by decide) (ns_of ⟨⟨_, rfl⟩, trivial⟩)) rfl ?_
           refine zM (r := tup [oref 4 2 0 r39.length, b r38]) rfl rfl rfl rfl rfl ?_
           refine zL (r := oref 4 2 0 r39.length) rfl rfl rfl (LOp.extract rfl rfl rfl) ?_
           refine zL (r := b r38) rfl rfl rfl (LOp.extract rfl rfl rfl) ?_
           refine zA (r := oref 4 2 0 r39.length) rfl rfl rfl rfl rfl ?_
           refine zA (r := b r38) rfl rfl rfl rfl rfl ?_
           refine zN ?_
           refine RunC.wl (τ' := [(6, oref 3 1 0 r8.length), (7, b r7), (10, oref 5 1 0 r15.length), (13, i64 r30), (15, oref 4 2 0 r39.length), (16, b r38)]) (Γ' := [⟨3, none⟩, ⟨3, none⟩, ⟨3, none⟩, ⟨1, some (r8.map f32)⟩, ⟨2, some (r39.map f32)⟩, ⟨1, some (r31.map f32)⟩, ⟨1, none⟩]) ⟨aR, aR, aR, aR, aR, aR, trivial⟩ ⟨⟨rfl, .inl rfl⟩, ⟨rfl, .inl rfl⟩, ⟨rfl, .inl rfl⟩, ⟨rfl, .inr rfl⟩, ⟨rfl, .inr rfl⟩, ⟨rfl, .inr rfl⟩, ⟨rfl, .inl rfl⟩, trivial⟩ ?_
           refine RunC.seq ?_
           refine RunC.seq ?_
           obtain ⟨r40, hf35, h⟩ := obind_some h
           rcases bsel_some h with ⟨hc36, h⟩ | ⟨hc36, h⟩
           ·rcases bsel_some h with ⟨hc37, h⟩ | ⟨hc37, h⟩
            ·refine RunC.regionW ?_
             refine zM (r := oref 4 2 0 r39.length) rfl rfl rfl rfl rfl ?_
             refine zM (r := oref 3 1 0 r8.length) rfl rfl rfl rfl rfl ?_
             refine ROps.d (r := b true) (fs := []) (Γ' := [⟨3, none⟩, ⟨3, none⟩, ⟨3, none⟩, ⟨1, some (r8.map f32)⟩, ⟨2, some (r39.map f32)⟩, ⟨1, some (r31.map f32)⟩, ⟨1, none⟩]) rfl rfl rfl (TOp.eqb (TOp.callB (CallAs.func ent10 rfl rfl) (Bors.cons (Bor.own (f := f32) (fun _ => rfl) rfl rfl) (Bors.cons (Bor.own (f := f32) (fun _ => rfl) rfl rfl) Bors.nil)) rfl rfl (w_eqFloat32S_ok r39 r8 r40 hf35)) hc36) rfl ?_
             refine zL (r := b false) rfl rfl rfl (LOp.eqb (LOp.not rfl rfl) rfl) ?_
             refine zM (r := b false) rfl rfl rfl rfl rfl ?_
             refine zM (r := b r38) rfl rfl rfl rfl rfl ?_
             refine zM (r := b r7) rfl rfl rfl rfl rfl ?_
             refine zL (r := b true) rfl rfl rfl (LOp.eqb (LOp.neqb pun4 rfl rfl rfl) hc37) ?_
             refine zL (r := b true) rfl rfl rfl (LOp.pick_false rfl rfl rfl) ?_
             refine zN ?_
             refine RunC.wl (τ' := [(10, oref 5 1 0 r15.length), (13, i64 r30), (108, b true)]) (Γ' := [⟨3, none⟩, ⟨3, none⟩, ⟨3, none⟩, ⟨1, none⟩, ⟨2, none⟩, ⟨1, some (r31.map f32)⟩, ⟨1, none⟩]) ⟨aR, aR, aR, trivial⟩ ⟨⟨rfl, .inl rfl⟩, ⟨rfl, .inl rfl⟩, ⟨rfl, .inl rfl⟩, ⟨rfl, .inl rfl⟩, ⟨rfl, .inl rfl⟩, ⟨rfl, .inr rfl⟩, ⟨rfl, .inl rfl⟩, trivial⟩ ?_
             refine RunC.cond_true rfl rfl ?_
             refine zQ ?_
             refine zA (r := b false) rfl rfl rfl rfl rfl ?_
             refine zN ?_
             refine RunC.ret ?_
             have hq := Option.some.inj h
             subst q0
             exact bodyQ.pure (.inr rfl) rfl (Res.one rfl (RV.tmp rfl))
            ·refine RunC.regionW ?_
             refine zM (r := oref 4 2 0 r39.length) rfl rfl rfl rfl rfl ?_
             refine zM (r := oref 3 1 0 r8.length) rfl rfl rfl rfl rfl ?_
             refine ROps.d (r := b true) (fs := []) (Γ' := [⟨3, none⟩, ⟨3, none⟩, ⟨3, none⟩, ⟨1, some (r8.map f32)⟩, ⟨2, some (r39.map f32)⟩, ⟨1, some (r31.map f32)⟩, ⟨1, none⟩]) rfl rfl rfl (TOp.eqb (TOp.callB (CallAs.func ent10 rfl rfl) (Bors.cons (Bor.own (f := f32) (fun _ => rfl) rfl rfl) (Bors.cons (Bor.own (f := f32) (fun _ => rfl) rfl rfl) Bors.nil)) rfl rfl (w_eqFloat32S_ok r39 r8 r40 hf35)) hc36) rfl ?_
             refine zL (r := b false) rfl rfl rfl (LOp.eqb (LOp.not rfl rfl) rfl) ?_
             refine zM (r := b false) rfl rfl rfl rfl rfl ?_
             refine zM (r := b r38) rfl rfl rfl rfl rfl ?_
             refine zM (r := b r7) rfl rfl rfl rfl rfl ?_
             refine zL (r := b false) rfl rfl rfl (LOp.eqb (LOp.neqb pun4 rfl rfl rfl) hc37) ?_
             refine zL (r := b false) rfl rfl rfl (LOp.pick_false rfl rfl rfl) ?_
             refine zN ?_
             refine RunC.wl (τ' := [(10, oref 5 1 0 r15.length), (13, i64 r30), (108, b false)]) (Γ' := [⟨3, none⟩, ⟨3, none⟩, ⟨3, none⟩, ⟨1, none⟩, ⟨2, none⟩, ⟨1, some (r31.map f32)⟩, ⟨1, none⟩]) ⟨aR, aR, aR, trivial⟩ ⟨⟨rfl, .inl rfl⟩, ⟨rfl, .inl rfl⟩, ⟨rfl, .inl rfl⟩, ⟨rfl, .inl rfl⟩, ⟨rfl, .inl rfl⟩, ⟨rfl, .inr rfl⟩, ⟨rfl, .inl rfl⟩, trivial⟩ ?_
             refine RunC.cond_false rfl rfl ?_
             refine RunC.skip ?_
             refine zQ ?_
             refine zA (r := i64 1) rfl rfl rfl rfl rfl ?_
             refine zN ?_
             refine RunC.seq ?_
             obtain ⟨r41, hf38, h⟩ := obind_some h
             refine RunC.regionW ?_
             refine zM (r := oref 5 1 0 r15.length) rfl rfl rfl rfl rfl ?_
             refine zM (r := i64 1) rfl rfl rfl rfl rfl ?_
             refine ROps.d (r := i64 r41) (fs := []) (Γ' := [⟨3, none⟩, ⟨3, none⟩, ⟨3, none⟩, ⟨1, none⟩, ⟨2, none⟩, ⟨1, some (r31.map f32)⟩, ⟨1, none⟩]) rfl rfl rfl (TOp.callB (CallAs.func ent14 rfl rfl) (Bors.cons (Bor.own (f := f32) (fun _ => rfl) rfl (of_decide_eq_true hn28)) (Bors.cons (Bor.pure rfl) Bors.nil)) rfl rfl (w_heldFloat32S_ok r31 1 r41 hf38)) rfl ?_
             refine zA (r := i64 r41) rfl rfl rfl rfl rfl ?_
             refine zN ?_
             refine RunC.wl (τ' := [(13, i64 r30), (14, i64 r41)]) (Γ' := [⟨3, none⟩, ⟨3, none⟩, ⟨3, none⟩, ⟨1, none⟩, ⟨2, none⟩, ⟨1, none⟩, ⟨1, none⟩]) ⟨aR, aR, trivial⟩ ⟨⟨rfl, .inl rfl⟩, ⟨rfl, .inl rfl⟩, ⟨rfl, .inl rfl⟩, ⟨rfl, .inl rfl⟩, ⟨rfl, .inl rfl⟩, ⟨rfl, .inl rfl⟩, ⟨rfl, .inl rfl⟩, trivial⟩ ?_
             refine RunC.seq ?_
             refine RunC.seq ?_
             rcases bsel_some h with ⟨hc39, h⟩ | ⟨hc39, h⟩
             ·refine RunC.regionW ?_
              refine zM (r := i64 r41) rfl rfl rfl rfl rfl ?_
              refine zL (r := b true) rfl rfl rfl (LOp.eqb (LOp.lss rfl rfl rfl) hc39) ?_
              refine zN ?_
              refine RunC.cond_true rfl rfl ?_
              refine zQ ?_
              refine zA (r := b false) rfl rfl rfl rfl rfl ?_
              refine zN ?_
              refine RunC.ret ?_
              have hq := Option.some.inj h
              subst q0
              exact bodyQ.pure (.inr rfl) rfl (Res.one rfl (RV.tmp rfl))
             ·refine RunC.regionW ?_
              refine zM (r := i64 r41) rfl rfl rfl rfl rfl ?_
              refine zL (r := b false) rfl rfl rfl (LOp.eqb (LOp.lss rfl rfl rfl) hc39) ?_
              refine zN ?_
              refine RunC.cond_false rfl rfl ?_
              refine RunC.skip ?_
              refine RunC.seq ?_
              refine RunC.seq ?_
              rcases bsel_some h with ⟨hc40, h⟩ | ⟨hc40, h⟩
              ·refine RunC.regionW ?_
               refine zM (r := i64 r41) rfl rfl rfl rfl rfl ?_
               refine zM (r := i64 r30) rfl rfl rfl rfl rfl ?_
               refine zL (r := b true) rfl rfl rfl (LOp.eqb (LOp.neq rfl rfl rfl) hc40) ?_
               refine zN ?_
               refine RunC.cond_true rfl rfl ?_
               refine zQ ?_
               refine zA (r := b false) rfl rfl rfl rfl rfl ?_
               refine zN ?_
               refine RunC.ret ?_
               have hq := Option.some.inj h
               subst q0
               exact bodyQ.pure (.inr rfl) rfl (Res.one rfl (RV.tmp rfl))
              ·refine RunC.regionW ?_
               refine zM (r := i64 r41) rfl rfl rfl rfl rfl ?_
               refine zM (r := i64 r30) rfl rfl rfl rfl rfl ?_
               refine zL (r := b false) rfl rfl rfl (LOp.eqb (LOp.neq rfl rfl rfl) hc40) ?_
               refine zN ?_
               refine RunC.cond_false rfl rfl ?_
               refine RunC.skip ?_
               refine zQ ?_
               refine zA (r := b true) rfl rfl rfl rfl rfl ?_
               refine zN ?_
               refine RunC.ret ?_
               have hq := Option.some.inj h
               subst q0
               exact bodyQ.pure (.inr rfl) rfl (Res.one rfl (RV.tmp rfl))
           ·refine RunC.regionW ?_
            refine zM (r := oref 4 2 0 r39.length) rfl rfl rfl rfl rfl ?_
            refine zM (r := oref 3 1 0 r8.length) rfl rfl rfl rfl rfl ?_
            refine ROps.d (r := b false) (fs := []) (Γ' := [⟨3, none⟩, ⟨3, none⟩, ⟨3, none⟩, ⟨1, some (r8.map f32)⟩, ⟨2, some (r39.map f32)⟩, ⟨1, some (r31.map f32)⟩, ⟨1, none⟩]) rfl rfl rfl (TOp.eqb (TOp.callB (CallAs.func ent10 rfl rfl) (Bors.cons (Bor.own (f := f32) (fun _ => rfl) rfl rfl) (Bors.cons (Bor.own (f := f32) (fun _ => rfl) rfl rfl) Bors.nil)) rfl rfl (w_eqFloat32S_ok r39 r8 r40 hf35)) hc36) rfl ?_
            refine zL (r := b true) rfl rfl rfl (LOp.eqb (LOp.not rfl rfl) rfl) ?_
            refine zM (r := b true) rfl rfl rfl rfl rfl ?_
            refine ROps.s rfl rfl rfl ?_
            refine ROps.s rfl rfl rfl ?_
            refine ROps.s rfl rfl rfl ?_
            refine zL (r := b true) rfl rfl rfl (LOp.pick_true rfl rfl rfl) ?_
            refine zN ?_
            refine RunC.wl (τ' := [(10, oref 5 1 0 r15.length), (13, i64 r30), (108, b true)]) (Γ' := [⟨3, none⟩, ⟨3, none⟩, ⟨3, none⟩, ⟨1, none⟩, ⟨2, none⟩, ⟨1, some (r31.map f32)⟩, ⟨1, none⟩]) ⟨aR, aR, aR, trivial⟩ ⟨⟨rfl, .inl rfl⟩, ⟨rfl, .inl rfl⟩, ⟨rfl, .inl rfl⟩, ⟨rfl, .inl rfl⟩, ⟨rfl, .inl rfl⟩, ⟨rfl, .inr rfl⟩, ⟨rfl, .inl rfl⟩, trivial⟩ ?_
            refine RunC.cond_true rfl rfl ?_
            refine zQ ?_
            refine zA (r := b false) rfl rfl rfl rfl rfl ?_
            refine zN ?_
            refine RunC.ret ?_
            have hq := Option.some.inj h
            subst q0
            exact bodyQ.pure (.inr rfl) rfl (Res.one rfl (RV.tmp rfl))
        ·refine RunC.regionW ?_
         refine zM (r := i64 r27) rfl rfl rfl rfl rfl ?_
         refine zL (r := b false) rfl rfl rfl (LOp.eqb (LOp.lss rfl rfl rfl) hc24) ?_
         refine zM (r := b false) rfl rfl rfl rfl rfl ?_
         refine zM (r := oref 5 1 0 r15.length) rfl rfl rfl rfl rfl ?_
         refine zM (r := oref 3 1 0 r8.length) rfl rfl rfl rfl rfl ?_
         refine ROps.d (r := b false) (fs := []) (Γ' := [⟨2, none⟩, ⟨2, none⟩, ⟨2, none⟩, ⟨1, some (r8.map f32)⟩, ⟨1, none⟩, ⟨1, some (r15.map f32)⟩, ⟨1, none⟩]) rfl rfl rfl (TOp.eqb (TOp.callB (CallAs.func ent10 rfl rfl) (Bors.cons (Bor.own (f := f32) (fun _ => rfl) rfl rfl) (Bors.cons (Bor.own (f := f32) (fun _ => rfl) rfl rfl) Bors.nil)) rfl rfl (w_eqFloat32S_ok r15 r8 r29 hf25)) hc26) rfl ?_
         refine zL (r := b true) rfl rfl rfl (LOp.eqb (LOp.not rfl rfl) rfl) ?_
         refine zL (r := b true) rfl rfl rfl (LOp.pick_false rfl rfl rfl) ?_
         refine zM (r := b true) rfl rfl rfl rfl rfl ?_
         refine ROps.s rfl rfl rfl ?_
         refine ROps.s rfl rfl rfl ?_
         refine ROps.s rfl rfl rfl ?_
         refine zL (r := b true) rfl rfl rfl (LOp.pick_true rfl rfl rfl) ?_
         refine zN ?_
         refine RunC.cond_true rfl rfl ?_
         refine zQ ?_
         refine zA (r := b false) rfl rfl rfl rfl rfl ?_
         refine zN ?_
         refine RunC.ret ?_
         have hq := Option.some.inj h
         subst q0
         exact bodyQ.pure (.inr rfl) rfl (Res.one rfl (RV.tmp rfl))
      ·refine RunC.regionW ?_
       refine zM (r := oref 4 1 0 r13.length) rfl rfl rfl rfl rfl ?_
       refine zM (r := sl a4.length (a4.map f32)) rfl rfl rfl rfl rfl ?_
       refine ROps.d (r := oref 6 1 0 r22.length) (fs := [(6, (r22.map f32))]) (Γ' := [⟨2, some (r11.map f32)⟩, ⟨2, some (r12.map i64)⟩, ⟨2, some [i64 r9, i64 r10, oref 0 2 0 r11.length, oref 1 2 0 r12.length]⟩, ⟨1, some (r8.map f32)⟩, ⟨1, some (r13.map f32)⟩, ⟨1, some (r15.map f32)⟩, ⟨1, some (r22.map f32)⟩]) rfl rfl rfl (TOp.callBN (ls := [(r22.map f32)]) [6] (CallAs.func ent8 rfl rfl) (Bors.cons (Bor.sl (fun _ => rfl)) Bors.nil) rfl (w_toFloat32S_ok a4 r22 hf16) (and_all (lts0_map (f := f32) (fun _ => rfl) _) rfl) (and_all (noss_map (f := f32) (fun _ => rfl) _) rfl) rfl (by decide) (ns_of ⟨⟨_, rfl⟩, trivial⟩)) rfl ?_
       refine ROps.d (r := b false) (fs := []) (Γ' := [⟨2, some (r11.map f32)⟩, ⟨2, some (r12.map i64)⟩, ⟨2, some [i64 r9, i64 r10, oref 0 2 0 r11.length, oref 1 2 0 r12.length]⟩, ⟨1, some (r8.map f32)⟩, ⟨1, some (r13.map f32)⟩, ⟨1, some (r15.map f32)⟩, ⟨1, some (r22.map f32)⟩]) rfl rfl rfl (TOp.eqb (TOp.callB (CallAs.func ent10 rfl rfl) (Bors.cons (Bor.own (f := f32) (fun _ => rfl) rfl rfl) (Bors.cons (Bor.own (f := f32) (fun _ => rfl) rfl rfl) Bors.nil)) rfl rfl (w_eqFloat32S_ok r13 r22 r23 hf17)) hc18) rfl ?_
       refine zL (r := b true) rfl rfl rfl (LOp.eqb (LOp.not rfl rfl) rfl) ?_
       refine zN ?_
       refine RunC.wl (τ' := [(1, sl a4.length (a4.map f32)), (2, ptr [i64 a0, i64 a1, sl a2.length (a2.map f32), sl a3.length (a3.map i64)]), (6, oref 3 1 0 r8.length), (7, b r7), (8, optr 2 2 0), (9, oref 4 1 0 r13.length), (10, oref 5 1 0 r15.length), (11, b r14), (61, b true)]) (Γ' := [⟨2, some (r11.map f32)⟩, ⟨2, some (r12.map i64)⟩, ⟨2, some [i64 r9, i64 r10, oref 0 2 0 r11.length, oref 1 2 0 r12.length]⟩, ⟨1, some (r8.map f32)⟩, ⟨1, some (r13.map f32)⟩, ⟨1, some (r15.map f32)⟩, ⟨1, none⟩]) ⟨aR, aR, aR, aR, aR, aR, aR, aR, aR, trivial⟩ ⟨⟨rfl, .inr rfl⟩, ⟨rfl, .inr rfl⟩, ⟨rfl, .inr rfl⟩, ⟨rfl, .inr rfl⟩, ⟨rfl, .inr rfl⟩, ⟨rfl, .inr rfl⟩, ⟨rfl, .inl rfl⟩, trivial⟩ ?_
       refine RunC.cond_true rfl rfl ?_
       refine zQ ?_
       refine zA (r := b false) rfl rfl rfl rfl rfl ?_
       refine zN ?_
       refine RunC.ret ?_
       have hq := Option.some.inj h
       subst q0
       exact bodyQ.pure (.inr rfl) rfl (Res.one rfl (RV.tmp rfl))
     ·refine RunC.region_draw (Γ' := [⟨2, some (r11.map f32)⟩, ⟨2, some (r12.map i64)⟩, ⟨2, some [i64 r9, i64 r10, oref 0 2 0 r11.length, oref 1 2 0 r12.length]⟩, ⟨1, some (r8.map f32)⟩, ⟨1, some (r13.map f32)⟩, ⟨1, some (r15.map f32)⟩, ⟨0, none⟩]) 5 mixed 
       (TR.d (r := agg [i64 r9, i64 r10, oref 0 2 0 r11.length, oref 1 2 0 r12.length]) (fs := []) rfl rfl (TOp.loadAgg_o rfl agg33 siz33 rfl rfl rfl rfl) <|
       (TR.l (r := agg [i64 a0, i64 a1, sl a2.length (a2.map f32), sl a3.length (a3.map i64)]) rfl rfl (LOp.loadAgg agg27 siz27 rfl rfl rfl rfl) <|
       (TR.d (r := agg [i64 r17, i64 r18, sl r19.length (r19.map f32), sl r20.length (r20.map i64)]) (fs := []) rfl rfl (TOp.callS (CallAs.func ent7 rfl rfl) (ALes.cons aR ALes.nil) (lts_cons (lt_agg (lts_cons rfl (lts_cons rfl (lts_cons (lt_sl (fun _ => rfl)) (lts_cons (lt_sl (fun _ => rfl)) lts_nil))))) lts_nil) (lt_agg (lts_cons rfl (lts_cons rfl (lts_cons (lt_sl (fun _ => rfl)) (lts_cons (lt_sl (fun _ => rfl)) lts_nil))))) (w_toFactor_ok a0 a1 a2 a3 r17 r18 r19 r20 hf13) (Bor.agg (Bors.cons (Bor.pure rfl) (Bors.cons (Bor.pure rfl) (Bors.cons (Bor.own (f := f32) (fun _ => rfl) rfl rfl) (Bors.cons (Bor.own (f := i64) (fun _ => rfl) rfl rfl) Bors.nil)))))) <|
       (TR.d (r := b false) (fs := []) rfl rfl (TOp.eqb (TOp.callB (CallAs.func ent11 rfl rfl) (Bors.cons (Bor.agg (Bors.cons (Bor.pure rfl) (Bors.cons (Bor.pure rfl) (Bors.cons (Bor.own (f := f32) (fun _ => rfl) rfl rfl) (Bors.cons (Bor.own (f := i64) (fun _ => rfl) rfl rfl) Bors.nil))))) (Bors.cons (Bor.agg (Bors.cons (Bor.pure rfl) (Bors.cons (Bor.pure rfl) (Bors.cons (Bor.sl (fun _ => rfl)) (Bors.cons (Bor.sl (fun _ => rfl)) Bors.nil))))) Bors.nil)) rfl rfl (w_eqFactor_ok r9 r10 r11 r12 r17 r18 r19 r20 r21 hf14)) hc15) <|
       (TR.l (r := b true) rfl rfl (LOp.eqb (LOp.not rfl rfl) rfl) <|
       TR.nil))))) rfl (by kernel_rfl) rfl fills_nil rfl ?_
      iterate 5 refine ROps.dropS ?_
      refine ROps.drop0 ?_
      refine zN ?_
      refine RunC.wl (τ' := [(1, sl a4.length (a4.map f32)), (2, ptr [i64 a0, i64 a1, sl a2.length (a2.map f32), sl a3.length (a3.map i64)]), (6, oref 3 1 0 r8.length), (7, b r7), (8, optr 2 2 0), (9, oref 4 1 0 r13.length), (10, oref 5 1 0 r15.length), (11, b r14), (56, b true)]) (Γ' := [⟨2, some (r11.map f32)⟩, ⟨2, some (r12.map i64)⟩, ⟨2, some [i64 r9, i64 r10, oref 0 2 0 r11.length, oref 1 2 0 r12.length]⟩, ⟨1, some (r8.map f32)⟩, ⟨1, some (r13.map f32)⟩, ⟨1, some (r15.map f32)⟩, ⟨0, none⟩]) ⟨aR, aR, aR, aR, aR, aR, aR, aR, aR, trivial⟩ ⟨⟨rfl, .inr rfl⟩, ⟨rfl, .inr rfl⟩, ⟨rfl, .inr rfl⟩, ⟨rfl, .inr rfl⟩, ⟨rfl, .inr rfl⟩, ⟨rfl, .inr rfl⟩, ⟨rfl, .inr rfl⟩, trivial⟩ ?_
      refine RunC.cond_true rfl rfl ?_
      refine zQ ?_
      refine zA (r := b false) rfl rfl rfl rfl rfl ?_
      refine zN ?_
      refine RunC.ret ?_
      have hq := Option.some.inj h
      subst q0
      exact bodyQ.pure (.inr rfl) rfl (Res.one rfl (RV.tmp rfl))
   ·refine RunC.regionW ?_
    refine zM (r := oref 5 1 0 r15.length) rfl rfl rfl rfl rfl ?_
    refine zM (r := oref 3 1 0 r8.length) rfl rfl rfl rfl rfl ?_
    refine ROps.d (r := b false) (fs := []) (Γ' := [⟨2, some (r11.map f32)⟩, ⟨2, some (r12.map i64)⟩, ⟨2, some [i64 r9, i64 r10, oref 0 2 0 r11.length, oref 1 2 0 r12.length]⟩, ⟨1, some (r8.map f32)⟩, ⟨1, some (r13.map f32)⟩, ⟨1, some (r15.map f32)⟩, ⟨0, none⟩]) rfl rfl rfl (TOp.eqb (TOp.callB (CallAs.func ent10 rfl rfl) (Bors.cons (Bor.own (f := f32) (fun _ => rfl) rfl rfl) (Bors.cons (Bor.own (f := f32) (fun _ => rfl) rfl rfl) Bors.nil)) rfl rfl (w_eqFloat32S_ok r15 r8 r16 hf10)) hc11) rfl ?_
    refine zL (r := b true) rfl rfl rfl (LOp.eqb (LOp.not rfl rfl) rfl) ?_
    refine zM (r := b true) rfl rfl rfl rfl rfl ?_
    refine ROps.s rfl rfl rfl ?_
    refine ROps.s rfl rfl rfl ?_
    refine ROps.s rfl rfl rfl ?_
    refine zL (r := b true) rfl rfl rfl (LOp.pick_true rfl rfl rfl) ?_
    refine zN ?_
    refine RunC.cond_true rfl rfl ?_
    refine zQ ?_
    refine zA (r := b false) rfl rfl rfl rfl rfl ?_
    refine zN ?_
    refine RunC.ret ?_
    have hq := Option.some.inj h
    subst q0
    exact bodyQ.pure (.inr rfl) rfl (Res.one rfl (RV.tmp rfl))
end Go.Proofs.Ytjdonddobkpghaa
