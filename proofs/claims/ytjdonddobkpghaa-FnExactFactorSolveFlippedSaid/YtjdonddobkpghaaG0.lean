/- Generated. -/
import Derived.Test.YtjdonddobkpghaaTys
namespace Go.Proofs.Ytjdonddobkpghaa
open Go Go.AM Go.AM.AV
set_option maxRecDepth 20000
set_option maxHeartbeats 4000000
set_option linter.unusedVariables false
set_option linter.unusedSimpArgs false
noncomputable def w_szFloat32S (a0 : List F) (a1 : Int) : Option (Int) :=
 olet (IntKind.i64.wrap (a1 - (a0.length : Int))) fun (x1 : Int) =>
 bsel (decide (x1 < 0)) (
  some (-1)) (
  some x1)
theorem w_szFloat32S_ok (a0 : List F) (a1 : Int) (q0 : Int) (h : w_szFloat32S a0 a1 = some q0) : Ev Try.prog 36 [sl a0.length (a0.map f32), i64 a1] [] (i64 q0) [] := by
 refine Ev.start Try.func36 rfl rfl 0 (τ := [(0, sl a0.length (a0.map f32)), (1, i64 a1)]) rfl (Γ' := []) rfl (n := 25) rfl (g := 0) rfl (fun _ => rfl) ?_
 unfold w_szFloat32S at h
 refine zQ ?_
 refine zA (r := i64 0) rfl rfl rfl rfl rfl ?_
 refine zN ?_
 refine RunC.seq ?_
 obtain ⟨x1, hx1, h⟩ := olet_some h
 refine RunC.regionW ?_
 refine zM (r := i64 a1) rfl rfl rfl rfl rfl ?_
 refine zM (r := sl a0.length (a0.map f32)) rfl rfl rfl rfl rfl ?_
 refine zL (r := i64 (a0.length : Int)) rfl rfl rfl (LOp.len_sl und22 rfl rfl) ?_
 refine zL (r := i64 x1) rfl rfl rfl (LOp.eqr (LOp.sub rfl rfl rfl) (congrArg (ik .i64) hx1)) ?_
 refine zA (r := i64 x1) rfl rfl rfl rfl rfl ?_
 refine zN ?_
 refine RunC.seq ?_
 refine RunC.seq ?_
 rcases bsel_some h with ⟨hc2, h⟩ | ⟨hc2, h⟩
 ·refine RunC.regionW ?_
  refine zM (r := i64 x1) rfl rfl rfl rfl rfl ?_
  refine zL (r := b true) rfl rfl rfl (LOp.eqb (LOp.lss rfl rfl rfl) hc2) ?_
  refine zN ?_
  refine RunC.cond_true rfl rfl ?_
  refine zQ ?_
  refine zA (r := i64 (-1)) rfl rfl rfl rfl rfl ?_
  refine zN ?_
  refine RunC.ret ?_
  have hq := Option.some.inj h
  subst q0
  exact bodyQ.pure (.inr rfl) rfl (Res.one rfl (RV.tmp rfl))
 ·refine RunC.regionW ?_
  refine zM (r := i64 x1) rfl rfl rfl rfl rfl ?_
  refine zL (r := b false) rfl rfl rfl (LOp.eqb (LOp.lss rfl rfl rfl) hc2) ?_
  refine zN ?_
  refine RunC.cond_false rfl rfl ?_
  refine RunC.skip ?_
  refine zQ ?_
  refine zM (r := i64 x1) rfl rfl rfl rfl rfl ?_
  refine zA (r := i64 x1) rfl rfl rfl rfl rfl ?_
  refine zN ?_
  refine RunC.ret ?_
  have hq := Option.some.inj h
  subst q0
  exact bodyQ.pure (.inr rfl) rfl (Res.one rfl (RV.tmp rfl))
noncomputable def w_szMatrix (a0 : Int) (a1 : Int) (a2 : List F) (a3 : Int) : Option (Int) :=
 obind (w_szFloat32S a2 a3) fun (r1 : Int) =>
 bsel (decide (r1 < 0)) (
  some (-1)) (
  some r1)
theorem w_szMatrix_ok (a0 : Int) (a1 : Int) (a2 : List F) (a3 : Int) (q0 : Int) (h : w_szMatrix a0 a1 a2 a3 = some q0) : Ev Try.prog 17 [agg [i64 a0, i64 a1, sl a2.length (a2.map f32)], i64 a3] [] (i64 q0) [] := by
 refine Ev.start Try.func17 rfl rfl 0 (τ := [(0, agg [i64 a0, i64 a1, sl a2.length (a2.map f32)]), (1, i64 a3)]) rfl (Γ' := []) rfl (n := 25) rfl (g := 0) rfl (fun _ => rfl) ?_
 unfold w_szMatrix at h
 refine zQ ?_
 refine ROps.d (r := ptr [i64 a0, i64 a1, sl a2.length (a2.map f32)]) (fs := []) (Γ' := []) rfl rfl rfl (TOp.box_s rfl rfl rfl) rfl ?_
 refine zA (r := i64 0) rfl rfl rfl rfl rfl ?_
 refine zN ?_
 refine RunC.seq ?_
 obtain ⟨r1, hf1, h⟩ := obind_some h
 refine RunC.regionW ?_
 refine zL (r := ptr [sl a2.length (a2.map f32)]) rfl rfl rfl (LOp.fap und24 rfl siz22 rfl rfl rfl) ?_
 refine zL (r := sl a2.length (a2.map f32)) rfl rfl rfl (LOp.load1 agg22 rfl rfl) ?_
 refine zM (r := i64 a3) rfl rfl rfl rfl rfl ?_
 refine ROps.d (r := i64 r1) (fs := []) (Γ' := []) rfl rfl rfl (TOp.callB (CallAs.func ent36 rfl rfl) (Bors.cons (Bor.sl (fun _ => rfl)) (Bors.cons (Bor.pure rfl) Bors.nil)) rfl rfl (w_szFloat32S_ok a2 a3 r1 hf1)) rfl ?_
 refine zA (r := i64 r1) rfl rfl rfl rfl rfl ?_
 refine zN ?_
 refine RunC.seq ?_
 refine RunC.seq ?_
 rcases bsel_some h with ⟨hc2, h⟩ | ⟨hc2, h⟩
 ·refine RunC.regionW ?_
  refine zM (r := i64 r1) rfl rfl rfl rfl rfl ?_
  refine zL (r := b true) rfl rfl rfl (LOp.eqb (LOp.lss rfl rfl rfl) hc2) ?_
  refine zN ?_
  refine RunC.cond_true rfl rfl ?_
  refine zQ ?_
  refine zA (r := i64 (-1)) rfl rfl rfl rfl rfl ?_
  refine zN ?_
  refine RunC.ret ?_
  have hq := Option.some.inj h
  subst q0
  exact bodyQ.pure (.inr rfl) rfl (Res.one rfl (RV.tmp rfl))
 ·refine RunC.regionW ?_
  refine zM (r := i64 r1) rfl rfl rfl rfl rfl ?_
  refine zL (r := b false) rfl rfl rfl (LOp.eqb (LOp.lss rfl rfl rfl) hc2) ?_
  refine zN ?_
  refine RunC.cond_false rfl rfl ?_
  refine RunC.skip ?_
  refine zQ ?_
  refine zM (r := i64 r1) rfl rfl rfl rfl rfl ?_
  refine zA (r := i64 r1) rfl rfl rfl rfl rfl ?_
  refine zN ?_
  refine RunC.ret ?_
  have hq := Option.some.inj h
  subst q0
  exact bodyQ.pure (.inr rfl) rfl (Res.one rfl (RV.tmp rfl))
noncomputable def w_szInt64S (a0 : List Int) (a1 : Int) : Option (Int) :=
 olet (IntKind.i64.wrap (a1 - (a0.length : Int))) fun (x1 : Int) =>
 bsel (decide (x1 < 0)) (
  some (-1)) (
  some x1)
theorem w_szInt64S_ok (a0 : List Int) (a1 : Int) (q0 : Int) (h : w_szInt64S a0 a1 = some q0) : Ev Try.prog 18 [sl a0.length (a0.map i64), i64 a1] [] (i64 q0) [] := by
 refine Ev.start Try.func18 rfl rfl 0 (τ := [(0, sl a0.length (a0.map i64)), (1, i64 a1)]) rfl (Γ' := []) rfl (n := 25) rfl (g := 0) rfl (fun _ => rfl) ?_
 unfold w_szInt64S at h
 refine zQ ?_
 refine zA (r := i64 0) rfl rfl rfl rfl rfl ?_
 refine zN ?_
 refine RunC.seq ?_
 obtain ⟨x1, hx1, h⟩ := olet_some h
 refine RunC.regionW ?_
 refine zM (r := i64 a1) rfl rfl rfl rfl rfl ?_
 refine zM (r := sl a0.length (a0.map i64)) rfl rfl rfl rfl rfl ?_
 refine zL (r := i64 (a0.length : Int)) rfl rfl rfl (LOp.len_sl und25 rfl rfl) ?_
 refine zL (r := i64 x1) rfl rfl rfl (LOp.eqr (LOp.sub rfl rfl rfl) (congrArg (ik .i64) hx1)) ?_
 refine zA (r := i64 x1) rfl rfl rfl rfl rfl ?_
 refine zN ?_
 refine RunC.seq ?_
 refine RunC.seq ?_
 rcases bsel_some h with ⟨hc2, h⟩ | ⟨hc2, h⟩
 ·refine RunC.regionW ?_
  refine zM (r := i64 x1) rfl rfl rfl rfl rfl ?_
  refine zL (r := b true) rfl rfl rfl (LOp.eqb (LOp.lss rfl rfl rfl) hc2) ?_
  refine zN ?_
  refine RunC.cond_true rfl rfl ?_
  refine zQ ?_
  refine zA (r := i64 (-1)) rfl rfl rfl rfl rfl ?_
  refine zN ?_
  refine RunC.ret ?_
  have hq := Option.some.inj h
  subst q0
  exact bodyQ.pure (.inr rfl) rfl (Res.one rfl (RV.tmp rfl))
 ·refine RunC.regionW ?_
  refine zM (r := i64 x1) rfl rfl rfl rfl rfl ?_
  refine zL (r := b false) rfl rfl rfl (LOp.eqb (LOp.lss rfl rfl rfl) hc2) ?_
  refine zN ?_
  refine RunC.cond_false rfl rfl ?_
  refine RunC.skip ?_
  refine zQ ?_
  refine zM (r := i64 x1) rfl rfl rfl rfl rfl ?_
  refine zA (r := i64 x1) rfl rfl rfl rfl rfl ?_
  refine zN ?_
  refine RunC.ret ?_
  have hq := Option.some.inj h
  subst q0
  exact bodyQ.pure (.inr rfl) rfl (Res.one rfl (RV.tmp rfl))
noncomputable def w_szFactor (a0 : Int) (a1 : Int) (a2 : List F) (a3 : List Int) (a4 : Int) : Option (Int) :=
 obind (w_szMatrix a0 a1 a2 a4) fun (r1 : Int) =>
 bsel (decide (r1 < 0)) (
  some (-1)) (
  obind (w_szInt64S a3 r1) fun (r2 : Int) =>
  bsel (decide (r2 < 0)) (
   some (-1)) (
   some r2))
theorem w_szFactor_ok (a0 : Int) (a1 : Int) (a2 : List F) (a3 : List Int) (a4 : Int) (q0 : Int) (h : w_szFactor a0 a1 a2 a3 a4 = some q0) : Ev Try.prog 5 [agg [i64 a0, i64 a1, sl a2.length (a2.map f32), sl a3.length (a3.map i64)], i64 a4] [] (i64 q0) [] := by
 refine Ev.start Try.func5 rfl rfl 0 (τ := [(0, agg [i64 a0, i64 a1, sl a2.length (a2.map f32), sl a3.length (a3.map i64)]), (1, i64 a4)]) rfl (Γ' := []) rfl (n := 37) rfl (g := 0) rfl (fun _ => rfl) ?_
 unfold w_szFactor at h
 refine zQ ?_
 refine ROps.d (r := ptr [i64 a0, i64 a1, sl a2.length (a2.map f32), sl a3.length (a3.map i64)]) (fs := []) (Γ' := []) rfl rfl rfl (TOp.box_s rfl rfl rfl) rfl ?_
 refine zA (r := i64 0) rfl rfl rfl rfl rfl ?_
 refine zN ?_
 refine RunC.seq ?_
 obtain ⟨r1, hf1, h⟩ := obind_some h
 refine RunC.regionW ?_
 refine zL (r := ptr [i64 a0, i64 a1, sl a2.length (a2.map f32), sl a3.length (a3.map i64)]) rfl rfl rfl (LOp.fap und27 rfl siz24 rfl rfl rfl) ?_
 refine zL (r := agg [i64 a0, i64 a1, sl a2.length (a2.map f32)]) rfl rfl rfl (LOp.loadAgg agg24 siz24 rfl rfl rfl rfl) ?_
 refine zM (r := i64 a4) rfl rfl rfl rfl rfl ?_
 refine ROps.d (r := i64 r1) (fs := []) (Γ' := []) rfl rfl rfl (TOp.callB (CallAs.func ent17 rfl rfl) (Bors.cons (Bor.agg (Bors.cons (Bor.pure rfl) (Bors.cons (Bor.pure rfl) (Bors.cons (Bor.sl (fun _ => rfl)) Bors.nil)))) (Bors.cons (Bor.pure rfl) Bors.nil)) rfl rfl (w_szMatrix_ok a0 a1 a2 a4 r1 hf1)) rfl ?_
 refine zA (r := i64 r1) rfl rfl rfl rfl rfl ?_
 refine zN ?_
 refine RunC.seq ?_
 refine RunC.seq ?_
 rcases bsel_some h with ⟨hc2, h⟩ | ⟨hc2, h⟩
 ·refine RunC.regionW ?_
  refine zM (r := i64 r1) rfl rfl rfl rfl rfl ?_
  refine zL (r := b true) rfl rfl rfl (LOp.eqb (LOp.lss rfl rfl rfl) hc2) ?_
  refine zN ?_
  refine RunC.cond_true rfl rfl ?_
  refine zQ ?_
  refine zA (r := i64 (-1)) rfl rfl rfl rfl rfl ?_
  refine zN ?_
  refine RunC.ret ?_
  have hq := Option.some.inj h
  subst q0
  exact bodyQ.pure (.inr rfl) rfl (Res.one rfl (RV.tmp rfl))
 ·refine RunC.regionW ?_
  refine zM (r := i64 r1) rfl rfl rfl rfl rfl ?_
  refine zL (r := b false) rfl rfl rfl (LOp.eqb (LOp.lss rfl rfl rfl) hc2) ?_
  refine zN ?_
  refine RunC.cond_false rfl rfl ?_
  refine RunC.skip ?_
  refine RunC.seq ?_
  obtain ⟨r2, hf3, h⟩ := obind_some h
  refine RunC.regionW ?_
  refine zL (r := ptr [sl a3.length (a3.map i64)]) rfl rfl rfl (LOp.fap und27 rfl siz25 rfl rfl rfl) ?_
  refine zL (r := sl a3.length (a3.map i64)) rfl rfl rfl (LOp.load1 agg25 rfl rfl) ?_
  refine zM (r := i64 r1) rfl rfl rfl rfl rfl ?_
  refine ROps.d (r := i64 r2) (fs := []) (Γ' := []) rfl rfl rfl (TOp.callB (CallAs.func ent18 rfl rfl) (Bors.cons (Bor.sl (fun _ => rfl)) (Bors.cons (Bor.pure rfl) Bors.nil)) rfl rfl (w_szInt64S_ok a3 r1 r2 hf3)) rfl ?_
  refine zA (r := i64 r2) rfl rfl rfl rfl rfl ?_
  refine zN ?_
  refine RunC.wl (τ' := [(1, i64 r2)]) (Γ' := []) ⟨aR, trivial⟩ trivial ?_
  refine RunC.seq ?_
  refine RunC.seq ?_
  rcases bsel_some h with ⟨hc4, h⟩ | ⟨hc4, h⟩
  ·refine RunC.regionW ?_
   refine zM (r := i64 r2) rfl rfl rfl rfl rfl ?_
   refine zL (r := b true) rfl rfl rfl (LOp.eqb (LOp.lss rfl rfl rfl) hc4) ?_
   refine zN ?_
   refine RunC.cond_true rfl rfl ?_
   refine zQ ?_
   refine zA (r := i64 (-1)) rfl rfl rfl rfl rfl ?_
   refine zN ?_
   refine RunC.ret ?_
   have hq := Option.some.inj h
   subst q0
   exact bodyQ.pure (.inr rfl) rfl (Res.one rfl (RV.tmp rfl))
  ·refine RunC.regionW ?_
   refine zM (r := i64 r2) rfl rfl rfl rfl rfl ?_
   refine zL (r := b false) rfl rfl rfl (LOp.eqb (LOp.lss rfl rfl rfl) hc4) ?_
   refine zN ?_
   refine RunC.cond_false rfl rfl ?_
   refine RunC.skip ?_
   refine zQ ?_
   refine zM (r := i64 r2) rfl rfl rfl rfl rfl ?_
   refine zA (r := i64 r2) rfl rfl rfl rfl rfl ?_
   refine zN ?_
   refine RunC.ret ?_
   have hq := Option.some.inj h
   subst q0
   exact bodyQ.pure (.inr rfl) rfl (Res.one rfl (RV.tmp rfl))
noncomputable def w_toFloat32S_b1 (a0 : List F) (L1 : List F) (v3 : Int) : Option (LR ((List F) × Int) ((List F)) ((List F))) :=
 bsel (decide (v3 < (a0.length : Int))) (
  obind (at? a0 v3) fun (e4 : F) =>
  obind (setAt? L1 v3 e4) fun (L5 : List F) =>
  olet (IntKind.i64.wrap (v3 + 1)) fun (x6 : Int) =>
  some (LR.next (L5, x6))) (
  some (LR.out L1))
noncomputable def w_toFloat32S_s1 (a0 : List F) : ((List F) × Int) → Option (LR ((List F) × Int) ((List F)) ((List F))) := fun s => w_toFloat32S_b1 a0 s.1 s.2
noncomputable def w_toFloat32S_k1 (L7 : List F) : Option ((List F)) :=
 some L7
noncomputable def w_toFloat32S (a0 : List F) : Option ((List F)) :=
 need (mkok 4 (a0.length : Int)) <|
 obind (loopM (w_toFloat32S_s1 a0) ((List.replicate (a0.length : Int).toNat (some 0)), 0)) fun z => osum z (fun e => w_toFloat32S_k1 e) (fun r => some r)
theorem w_toFloat32S_ok (a0 : List F) (q0 : List F) (h : w_toFloat32S a0 = some q0) : Ev Try.prog 8 [sl a0.length (a0.map f32)] [] (oref 0 0 0 q0.length) [⟨0, some (q0.map f32)⟩] := by
 refine Ev.start Try.func8 rfl rfl 1 (τ := [(0, sl a0.length (a0.map f32))]) rfl (Γ' := [⟨0, none⟩]) rfl (n := 45) rfl (g := 0) rfl (fun _ => rfl) ?_
 unfold w_toFloat32S at h
 refine zQ ?_
 refine zA (r := nilsl) rfl rfl rfl rfl rfl ?_
 refine zN ?_
 refine RunC.seq ?_
 obtain ⟨hm1, h⟩ := need_some h
 refine RunC.regionW ?_
 refine zM (r := sl a0.length (a0.map f32)) rfl rfl rfl rfl rfl ?_
 refine zL (r := i64 (a0.length : Int)) rfl rfl rfl (LOp.len_sl und22 rfl rfl) ?_
 refine ROps.d (r := oref 0 1 0 ((a0.length : Int).toNat)) (fs := [(0, ((List.replicate (a0.length : Int).toNat (some 0)).map f32))]) (Γ' := [⟨1, some ((List.replicate (a0.length : Int).toNat (some 0)).map f32)⟩]) rfl rfl rfl (TOp.mkS (g := ⟨0, none⟩) (t := 22) (e := 45) (by_ := 4) (f := f32) (zv := some 0) 0 rfl und22 tin45 rfl siz45 zer45 rfl zel45 rfl rfl rfl hm1) rfl ?_
 refine zA (r := oref 0 1 0 ((a0.length : Int).toNat)) rfl rfl rfl rfl rfl ?_
 refine zN ?_
 refine RunC.seq ?_
 refine zQ ?_
 refine zA (r := i64 0) rfl rfl rfl rfl rfl ?_
 refine zN ?_
 obtain ⟨z2, hz_2, h⟩ := obind_some h
 refine RunC.cutN (fun τ Γ => ∃ (L7 : List F), L7.length = (a0.length : Int).toNat ∧ WeakLe τ [(3, oref 0 1 0 ((a0.length : Int).toNat))] ∧ DeadLe Γ [⟨1, some (L7.map f32)⟩] ∧ z2 = .inl L7) ?_ ?_
 ·refine RunC.block (RunC.loop (RunL.loopM (x := z2) (w_toFloat32S_s1 a0) (fun (s : (List F) × Int) τ Γ => s.1.length = (a0.length : Int).toNat ∧ WeakLe τ [(0, sl a0.length (a0.map f32)), (3, oref 0 1 0 ((a0.length : Int).toNat)), (4, i64 s.2)] ∧ DeadLe Γ [⟨1, some (s.1.map f32)⟩]) ?_ _ _ _ hz_2 ⟨List.length_replicate, ⟨aR, aR, aR, trivial⟩, ⟨⟨rfl, .inr rfl⟩, trivial⟩⟩))
  rintro ⟨L1, v3⟩ τ2 Γ2 y2_ ⟨hl2, hw2, hd2⟩ h2_ ho2 hr2
  refine RunC.wl (τ' := [(0, sl a0.length (a0.map f32)), (3, oref 0 1 0 ((a0.length : Int).toNat)), (4, i64 v3)]) (Γ' := [⟨1, some (L1.map f32)⟩]) hw2 hd2 ?_
  replace hl2 : L1.length = (a0.length : Int).toNat := hl2
  replace h2_ : w_toFloat32S_b1 a0 L1 v3 = some y2_ := h2_
  unfold w_toFloat32S_b1 at h2_
  refine RunC.seq ?_
  refine RunC.seq ?_
  rcases bsel_some h2_ with ⟨hc2, h2_⟩ | ⟨hc2, h2_⟩
  ·refine RunC.regionW ?_
   refine zM (r := i64 v3) rfl rfl rfl rfl rfl ?_
   refine zM (r := sl a0.length (a0.map f32)) rfl rfl rfl rfl rfl ?_
   refine zL (r := i64 (a0.length : Int)) rfl rfl rfl (LOp.len_sl und22 rfl rfl) ?_
   refine zL (r := b true) rfl rfl rfl (LOp.eqb (LOp.lss rfl rfl rfl) hc2) ?_
   refine zN ?_
   refine RunC.cond_true rfl rfl ?_
   refine RunC.skip ?_
   refine RunC.seq ?_
   refine RunC.block ?_
   obtain ⟨e4, he3, h2_⟩ := obind_some h2_
   obtain ⟨L5, he4, h2_⟩ := obind_some h2_
   refine RunC.regionW ?_
   refine zM (r := oref 0 1 0 ((a0.length : Int).toNat)) rfl rfl rfl rfl rfl ?_
   refine zM (r := i64 v3) rfl rfl rfl rfl rfl ?_
   refine zM (r := sl a0.length (a0.map f32)) rfl rfl rfl rfl rfl ?_
   refine zM (r := i64 v3) rfl rfl rfl rfl rfl ?_
   refine zL (r := ptr [f32 e4]) rfl rfl rfl (LOp.le (LOp.ix (f := f32) und22 siz45 rfl rfl rfl rfl he3) ALe.ptr) ?_
   refine zL (r := f32 e4) rfl rfl rfl (LOp.load1 agg45 rfl rfl) ?_
   refine ROps.d (r := optr 0 1 v3.toNat) (fs := []) (Γ' := [⟨1, some (L1.map f32)⟩]) rfl rfl rfl (TOp.ixo und22 siz45 rfl rfl rfl (set_in he4 hl2) rfl) rfl ?_
   refine ROps.st (f := f32) (i := v3) (Γ' := [⟨1, some (L5.map f32)⟩]) rfl siz45 rfl rfl rfl aR rfl rfl rfl he4 rfl ?_
   refine zN ?_
   obtain ⟨x6, hx5, h2_⟩ := olet_some h2_
   refine RunC.regionW ?_
   refine zM (r := i64 v3) rfl rfl rfl rfl rfl ?_
   refine zL (r := i64 x6) rfl rfl rfl (LOp.eqr (LOp.add rfl rfl rfl) (congrArg (ik .i64) hx5)) ?_
   refine zA (r := i64 x6) rfl rfl rfl rfl rfl ?_
   refine zN ?_
   cases Option.some.inj h2_
   exact ⟨_, rfl, ((setAt?_len he4).trans hl2), ⟨aR, aR, aR, trivial⟩, ⟨⟨rfl, .inr rfl⟩, trivial⟩⟩
  ·refine RunC.regionW ?_
   refine zM (r := i64 v3) rfl rfl rfl rfl rfl ?_
   refine zM (r := sl a0.length (a0.map f32)) rfl rfl rfl rfl rfl ?_
   refine zL (r := i64 (a0.length : Int)) rfl rfl rfl (LOp.len_sl und22 rfl rfl) ?_
   refine zL (r := b false) rfl rfl rfl (LOp.eqb (LOp.lss rfl rfl rfl) hc2) ?_
   refine zN ?_
   refine RunC.cond_false rfl rfl ?_
   refine RunC.exit ?_
   cases Option.some.inj h2_
   have hx := ho2 _ rfl
   exact ⟨L1, hl2, ⟨aR, trivial⟩, ⟨⟨rfl, .inr rfl⟩, trivial⟩, hx⟩
 ·rintro τ3 Γ3 ⟨L7, hl8, hw3, hd3, rfl⟩
  refine RunC.wl hw3 hd3 ?_
  replace h : w_toFloat32S_k1 L7 = some q0 := h
  unfold w_toFloat32S_k1 at h
  refine zQ ?_
  refine zM (r := oref 0 1 0 ((a0.length : Int).toNat)) rfl rfl rfl rfl rfl ?_
  refine zA (r := oref 0 1 0 ((a0.length : Int).toNat)) rfl rfl rfl rfl rfl ?_
  refine zN ?_
  refine RunC.ret ?_
  have hq := Option.some.inj h
  subst q0
  exact bodyQ.mk (r' := oref 0 1 0 L7.length) [(0, 1)] (.inr rfl) rfl (show List.Nodup [0] from by decide) rfl rfl (Res.eq (Res.one rfl (RV.tmp rfl)) (by rw [(show L7.length = (a0.length : Int).toNat from hl8)] <;> rfl)) (SelL.arr0 (f := f32) (fun _ => rfl) rfl trivial)
noncomputable def w_toMatrix (a0 : Int) (a1 : Int) (a2 : List F) : Option (Int × Int × (List F)) :=
 obind (w_toFloat32S a2) fun (r1 : List F) =>
 some (a0, a1, r1)
theorem w_toMatrix_ok (a0 : Int) (a1 : Int) (a2 : List F) (q0 : Int) (q1 : Int) (q2 : List F) (h : w_toMatrix a0 a1 a2 = some (q0, q1, q2)) : Ev Try.prog 22 [agg [i64 a0, i64 a1, sl a2.length (a2.map f32)]] [] (agg [i64 q0, i64 q1, oref 0 0 0 q2.length]) [⟨0, some (q2.map f32)⟩] := by
 refine Ev.start Try.func22 rfl rfl 3 (τ := [(0, agg [i64 a0, i64 a1, sl a2.length (a2.map f32)])]) rfl (Γ' := [⟨0, none⟩, ⟨0, none⟩, ⟨0, none⟩]) rfl (n := 31) rfl (g := 0) rfl (fun _ => rfl) ?_
 unfold w_toMatrix at h
 refine zQ ?_
 refine ROps.d (r := ptr [i64 a0, i64 a1, sl a2.length (a2.map f32)]) (fs := []) (Γ' := [⟨0, none⟩, ⟨0, none⟩, ⟨0, none⟩]) rfl rfl rfl (TOp.box_s rfl rfl rfl) rfl ?_
 refine ROps.d (r := optr 0 1 0) (fs := [(0, [i64 0, i64 0, nilsl])]) (Γ' := [⟨1, some [i64 0, i64 0, nilsl]⟩, ⟨0, none⟩, ⟨0, none⟩]) rfl rfl rfl (TOp.alloc_o (g := ⟨0, none⟩) 0 rfl zer31 zok31 rfl) rfl ?_
 refine zN ?_
 refine zQ ?_
 refine ROps.d (r := optr 1 1 0) (fs := [(1, [i64 0, i64 0, nilsl])]) (Γ' := [⟨1, some [i64 0, i64 0, nilsl]⟩, ⟨1, some [i64 0, i64 0, nilsl]⟩, ⟨0, none⟩]) rfl rfl rfl (TOp.alloc_o (g := ⟨0, none⟩) 1 rfl zer31 zok31 rfl) rfl ?_
 refine zN ?_
 refine zQ ?_
 refine zL (r := ptr [i64 a0, i64 a1, sl a2.length (a2.map f32)]) rfl rfl rfl (LOp.fap und24 rfl siz2 rfl rfl rfl) ?_
 refine zL (r := i64 a0) rfl rfl rfl (LOp.load1 agg2 rfl rfl) ?_
 refine zL (r := optr 1 1 0) rfl rfl rfl (LOp.fao und31 rfl siz2 rfl rfl rfl) ?_
 refine ROps.store_le (r := i64 a0) (l' := [i64 a0, i64 0, nilsl]) (Γ' := [⟨1, some [i64 0, i64 0, nilsl]⟩, ⟨1, some [i64 a0, i64 0, nilsl]⟩, ⟨0, none⟩]) rfl siz2 rfl rfl rfl aR rfl rfl rfl rfl (Nat.le_of_ble_eq_true rfl) rfl rfl ?_
 refine zN ?_
 refine zQ ?_
 refine zL (r := ptr [i64 a1, sl a2.length (a2.map f32)]) rfl rfl rfl (LOp.fap und24 rfl siz2 rfl rfl rfl) ?_
 refine zL (r := i64 a1) rfl rfl rfl (LOp.load1 agg2 rfl rfl) ?_
 refine zL (r := optr 1 1 1) rfl rfl rfl (LOp.fao und31 rfl siz2 rfl rfl rfl) ?_
 refine ROps.store_le (r := i64 a1) (l' := [i64 a0, i64 a1, nilsl]) (Γ' := [⟨1, some [i64 0, i64 0, nilsl]⟩, ⟨1, some [i64 a0, i64 a1, nilsl]⟩, ⟨0, none⟩]) rfl siz2 rfl rfl rfl aR rfl rfl rfl rfl (Nat.le_of_ble_eq_true rfl) rfl rfl ?_
 refine zN ?_
 refine RunC.seq ?_
 obtain ⟨r1, hf1, h⟩ := obind_some h
 refine RunC.regionW ?_
 refine zL (r := ptr [sl a2.length (a2.map f32)]) rfl rfl rfl (LOp.fap und24 rfl siz22 rfl rfl rfl) ?_
 refine zL (r := sl a2.length (a2.map f32)) rfl rfl rfl (LOp.load1 agg22 rfl rfl) ?_
 refine ROps.d (r := oref 2 1 0 r1.length) (fs := [(2, (r1.map f32))]) (Γ' := [⟨1, some [i64 0, i64 0, nilsl]⟩, ⟨1, some [i64 a0, i64 a1, nilsl]⟩, ⟨1, some (r1.map f32)⟩]) rfl rfl rfl (TOp.callBN (ls := [(r1.map f32)]) [2] (CallAs.func ent8 rfl rfl) (Bors.cons (Bor.sl (fun _ => rfl)) Bors.nil) rfl (w_toFloat32S_ok a2 r1 hf1) (and_all (lts0_map (f := f32) (fun _ => rfl) _) rfl) (and_all (noss_map (f := f32) (fun _ => rfl) _) rfl) rfl (by decide) (ns_of ⟨⟨_, rfl⟩, trivial⟩)) rfl ?_
 refine zL (r := optr 1 1 2) rfl rfl rfl (LOp.fao und31 rfl siz22 rfl rfl rfl) ?_
 refine ROps.store_le (r := oref 2 1 0 r1.length) (l' := [i64 a0, i64 a1, oref 2 1 0 r1.length]) (Γ' := [⟨1, some [i64 0, i64 0, nilsl]⟩, ⟨1, some [i64 a0, i64 a1, oref 2 1 0 r1.length]⟩, ⟨1, some (r1.map f32)⟩]) rfl siz22 rfl rfl rfl aR rfl rfl rfl rfl (Nat.le_of_ble_eq_true rfl) rfl rfl ?_
 refine zN ?_
 refine zQ ?_
 refine ROps.d (r := agg [i64 a0, i64 a1, oref 2 1 0 r1.length]) (fs := []) (Γ' := [⟨1, some [i64 0, i64 0, nilsl]⟩, ⟨1, some [i64 a0, i64 a1, oref 2 1 0 r1.length]⟩, ⟨1, some (r1.map f32)⟩]) rfl rfl rfl (TOp.loadAgg_o rfl agg31 siz31 rfl rfl rfl rfl) rfl ?_
 refine ROps.store_le (r := agg [i64 a0, i64 a1, oref 2 1 0 r1.length]) (l' := [i64 a0, i64 a1, oref 2 1 0 r1.length]) (Γ' := [⟨1, some [i64 a0, i64 a1, oref 2 1 0 r1.length]⟩, ⟨1, some [i64 a0, i64 a1, oref 2 1 0 r1.length]⟩, ⟨1, some (r1.map f32)⟩]) rfl siz31 rfl rfl rfl aR rfl rfl rfl rfl (Nat.le_of_ble_eq_true rfl) rfl rfl ?_
 refine zN ?_
 refine RunC.ret ?_
 have hq := Option.some.inj h
 obtain ⟨hq0, hq⟩ := Prod.mk.inj hq
 obtain ⟨hq1, hq⟩ := Prod.mk.inj hq
 subst q0
 subst q1
 subst q2
 exact bodyQ.mk (r' := agg [i64 a0, i64 a1, oref 2 1 0 r1.length]) [(2, 1)] (.inr rfl) rfl (show List.Nodup [2] from by decide) rfl rfl (Res.one rfl (RV.cell agg31 siz31 rfl rfl rfl rfl)) (SelL.arr0 (f := f32) (fun _ => rfl) rfl trivial)
noncomputable def w_toInt64S_b1 (a0 : List Int) (L1 : List Int) (v3 : Int) : Option (LR ((List Int) × Int) ((List Int)) ((List Int))) :=
 bsel (decide (v3 < (a0.length : Int))) (
  obind (at? a0 v3) fun (e4 : Int) =>
  obind (setAt? L1 v3 e4) fun (L5 : List Int) =>
  olet (IntKind.i64.wrap (v3 + 1)) fun (x6 : Int) =>
  some (LR.next (L5, x6))) (
  some (LR.out L1))
noncomputable def w_toInt64S_s1 (a0 : List Int) : ((List Int) × Int) → Option (LR ((List Int) × Int) ((List Int)) ((List Int))) := fun s => w_toInt64S_b1 a0 s.1 s.2
noncomputable def w_toInt64S_k1 (L7 : List Int) : Option ((List Int)) :=
 some L7
noncomputable def w_toInt64S (a0 : List Int) : Option ((List Int)) :=
 need (mkok 8 (a0.length : Int)) <|
 obind (loopM (w_toInt64S_s1 a0) ((List.replicate (a0.length : Int).toNat 0), 0)) fun z => osum z (fun e => w_toInt64S_k1 e) (fun r => some r)
theorem w_toInt64S_ok (a0 : List Int) (q0 : List Int) (h : w_toInt64S a0 = some q0) : Ev Try.prog 23 [sl a0.length (a0.map i64)] [] (oref 0 0 0 q0.length) [⟨0, some (q0.map i64)⟩] := by
 refine Ev.start Try.func23 rfl rfl 1 (τ := [(0, sl a0.length (a0.map i64))]) rfl (Γ' := [⟨0, none⟩]) rfl (n := 45) rfl (g := 0) rfl (fun _ => rfl) ?_
 unfold w_toInt64S at h
 refine zQ ?_
 refine zA (r := nilsl) rfl rfl rfl rfl rfl ?_
 refine zN ?_
 refine RunC.seq ?_
 obtain ⟨hm1, h⟩ := need_some h
 refine RunC.regionW ?_
 refine zM (r := sl a0.length (a0.map i64)) rfl rfl rfl rfl rfl ?_
 refine zL (r := i64 (a0.length : Int)) rfl rfl rfl (LOp.len_sl und25 rfl rfl) ?_
 refine ROps.d (r := oref 0 1 0 ((a0.length : Int).toNat)) (fs := [(0, ((List.replicate (a0.length : Int).toNat 0).map i64))]) (Γ' := [⟨1, some ((List.replicate (a0.length : Int).toNat 0).map i64)⟩]) rfl rfl rfl (TOp.mkS (g := ⟨0, none⟩) (t := 25) (e := 2) (by_ := 8) (f := i64) (zv := 0) 0 rfl und25 tin2 rfl siz2 zer2 rfl zel2 rfl rfl rfl hm1) rfl ?_
 refine zA (r := oref 0 1 0 ((a0.length : Int).toNat)) rfl rfl rfl rfl rfl ?_
 refine zN ?_
 refine RunC.seq ?_
 refine zQ ?_
 refine zA (r := i64 0) rfl rfl rfl rfl rfl ?_
 refine zN ?_
 obtain ⟨z2, hz_2, h⟩ := obind_some h
 refine RunC.cutN (fun τ Γ => ∃ (L7 : List Int), L7.length = (a0.length : Int).toNat ∧ WeakLe τ [(3, oref 0 1 0 ((a0.length : Int).toNat))] ∧ DeadLe Γ [⟨1, some (L7.map i64)⟩] ∧ z2 = .inl L7) ?_ ?_
 ·refine RunC.block (RunC.loop (RunL.loopM (x := z2) (w_toInt64S_s1 a0) (fun (s : (List Int) × Int) τ Γ => s.1.length = (a0.length : Int).toNat ∧ WeakLe τ [(0, sl a0.length (a0.map i64)), (3, oref 0 1 0 ((a0.length : Int).toNat)), (4, i64 s.2)] ∧ DeadLe Γ [⟨1, some (s.1.map i64)⟩]) ?_ _ _ _ hz_2 ⟨List.length_replicate, ⟨aR, aR, aR, trivial⟩, ⟨⟨rfl, .inr rfl⟩, trivial⟩⟩))
  rintro ⟨L1, v3⟩ τ2 Γ2 y2_ ⟨hl2, hw2, hd2⟩ h2_ ho2 hr2
  refine RunC.wl (τ' := [(0, sl a0.length (a0.map i64)), (3, oref 0 1 0 ((a0.length : Int).toNat)), (4, i64 v3)]) (Γ' := [⟨1, some (L1.map i64)⟩]) hw2 hd2 ?_
  replace hl2 : L1.length = (a0.length : Int).toNat := hl2
  replace h2_ : w_toInt64S_b1 a0 L1 v3 = some y2_ := h2_
  unfold w_toInt64S_b1 at h2_
  refine RunC.seq ?_
  refine RunC.seq ?_
  rcases bsel_some h2_ with ⟨hc2, h2_⟩ | ⟨hc2, h2_⟩
  ·refine RunC.regionW ?_
   refine zM (r := i64 v3) rfl rfl rfl rfl rfl ?_
   refine zM (r := sl a0.length (a0.map i64)) rfl rfl rfl rfl rfl ?_
   refine zL (r := i64 (a0.length : Int)) rfl rfl rfl (LOp.len_sl und25 rfl rfl) ?_
   refine zL (r := b true) rfl rfl rfl (LOp.eqb (LOp.lss rfl rfl rfl) hc2) ?_
   refine zN ?_
   refine RunC.cond_true rfl rfl ?_
   refine RunC.skip ?_
   refine RunC.seq ?_
   refine RunC.block ?_
   obtain ⟨e4, he3, h2_⟩ := obind_some h2_
   obtain ⟨L5, he4, h2_⟩ := obind_some h2_
   refine RunC.regionW ?_
   refine zM (r := oref 0 1 0 ((a0.length : Int).toNat)) rfl rfl rfl rfl rfl ?_
   refine zM (r := i64 v3) rfl rfl rfl rfl rfl ?_
   refine zM (r := sl a0.length (a0.map i64)) rfl rfl rfl rfl rfl ?_
   refine zM (r := i64 v3) rfl rfl rfl rfl rfl ?_
   refine zL (r := ptr [i64 e4]) rfl rfl rfl (LOp.le (LOp.ix (f := i64) und25 siz2 rfl rfl rfl rfl he3) ALe.ptr) ?_
   refine zL (r := i64 e4) rfl rfl rfl (LOp.load1 agg2 rfl rfl) ?_
   refine ROps.d (r := optr 0 1 v3.toNat) (fs := []) (Γ' := [⟨1, some (L1.map i64)⟩]) rfl rfl rfl (TOp.ixo und25 siz2 rfl rfl rfl (set_in he4 hl2) rfl) rfl ?_
   refine ROps.st (f := i64) (i := v3) (Γ' := [⟨1, some (L5.map i64)⟩]) rfl siz2 rfl rfl rfl aR rfl rfl rfl he4 rfl ?_
   refine zN ?_
   obtain ⟨x6, hx5, h2_⟩ := olet_some h2_
   refine RunC.regionW ?_
   refine zM (r := i64 v3) rfl rfl rfl rfl rfl ?_
   refine zL (r := i64 x6) rfl rfl rfl (LOp.eqr (LOp.add rfl rfl rfl) (congrArg (ik .i64) hx5)) ?_
   refine zA (r := i64 x6) rfl rfl rfl rfl rfl ?_
   refine zN ?_
   cases Option.some.inj h2_
   exact ⟨_, rfl, ((setAt?_len he4).trans hl2), ⟨aR, aR, aR, trivial⟩, ⟨⟨rfl, .inr rfl⟩, trivial⟩⟩
  ·refine RunC.regionW ?_
   refine zM (r := i64 v3) rfl rfl rfl rfl rfl ?_
   refine zM (r := sl a0.length (a0.map i64)) rfl rfl rfl rfl rfl ?_
   refine zL (r := i64 (a0.length : Int)) rfl rfl rfl (LOp.len_sl und25 rfl rfl) ?_
   refine zL (r := b false) rfl rfl rfl (LOp.eqb (LOp.lss rfl rfl rfl) hc2) ?_
   refine zN ?_
   refine RunC.cond_false rfl rfl ?_
   refine RunC.exit ?_
   cases Option.some.inj h2_
   have hx := ho2 _ rfl
   exact ⟨L1, hl2, ⟨aR, trivial⟩, ⟨⟨rfl, .inr rfl⟩, trivial⟩, hx⟩
 ·rintro τ3 Γ3 ⟨L7, hl8, hw3, hd3, rfl⟩
  refine RunC.wl hw3 hd3 ?_
  replace h : w_toInt64S_k1 L7 = some q0 := h
  unfold w_toInt64S_k1 at h
  refine zQ ?_
  refine zM (r := oref 0 1 0 ((a0.length : Int).toNat)) rfl rfl rfl rfl rfl ?_
  refine zA (r := oref 0 1 0 ((a0.length : Int).toNat)) rfl rfl rfl rfl rfl ?_
  refine zN ?_
  refine RunC.ret ?_
  have hq := Option.some.inj h
  subst q0
  exact bodyQ.mk (r' := oref 0 1 0 L7.length) [(0, 1)] (.inr rfl) rfl (show List.Nodup [0] from by decide) rfl rfl (Res.eq (Res.one rfl (RV.tmp rfl)) (by rw [(show L7.length = (a0.length : Int).toNat from hl8)] <;> rfl)) (SelL.arr0 (f := i64) (fun _ => rfl) rfl trivial)
noncomputable def w_toFactor (a0 : Int) (a1 : Int) (a2 : List F) (a3 : List Int) : Option (Int × Int × (List F) × (List Int)) :=
 obind3 (w_toMatrix a0 a1 a2) fun (r1 : Int) (r2 : Int) (r3 : List F) =>
 obind (w_toInt64S a3) fun (r4 : List Int) =>
 some (r1, r2, r3, r4)
theorem w_toFactor_ok (a0 : Int) (a1 : Int) (a2 : List F) (a3 : List Int) (q0 : Int) (q1 : Int) (q2 : List F) (q3 : List Int) (h : w_toFactor a0 a1 a2 a3 = some (q0, q1, q2, q3)) : Ev Try.prog 7 [agg [i64 a0, i64 a1, sl a2.length (a2.map f32), sl a3.length (a3.map i64)]] [] (agg [i64 q0, i64 q1, oref 0 0 0 q2.length, oref 1 0 0 q3.length]) [⟨0, some (q2.map f32)⟩, ⟨0, some (q3.map i64)⟩] := by
 refine Ev.start Try.func7 rfl rfl 4 (τ := [(0, agg [i64 a0, i64 a1, sl a2.length (a2.map f32), sl a3.length (a3.map i64)])]) rfl (Γ' := [⟨0, none⟩, ⟨0, none⟩, ⟨0, none⟩, ⟨0, none⟩]) rfl (n := 27) rfl (g := 0) rfl (fun _ => rfl) ?_
 unfold w_toFactor at h
 refine zQ ?_
 refine ROps.d (r := ptr [i64 a0, i64 a1, sl a2.length (a2.map f32), sl a3.length (a3.map i64)]) (fs := []) (Γ' := [⟨0, none⟩, ⟨0, none⟩, ⟨0, none⟩, ⟨0, none⟩]) rfl rfl rfl (TOp.box_s rfl rfl rfl) rfl ?_
 refine ROps.d (r := optr 0 1 0) (fs := [(0, [i64 0, i64 0, nilsl, nilsl])]) (Γ' := [⟨1, some [i64 0, i64 0, nilsl, nilsl]⟩, ⟨0, none⟩, ⟨0, none⟩, ⟨0, none⟩]) rfl rfl rfl (TOp.alloc_o (g := ⟨0, none⟩) 0 rfl zer33 zok33 rfl) rfl ?_
 refine zN ?_
 refine zQ ?_
 refine ROps.d (r := optr 1 1 0) (fs := [(1, [i64 0, i64 0, nilsl, nilsl])]) (Γ' := [⟨1, some [i64 0, i64 0, nilsl, nilsl]⟩, ⟨1, some [i64 0, i64 0, nilsl, nilsl]⟩, ⟨0, none⟩, ⟨0, none⟩]) rfl rfl rfl (TOp.alloc_o (g := ⟨0, none⟩) 1 rfl zer33 zok33 rfl) rfl ?_
 refine zN ?_
 refine RunC.seq ?_
 obtain ⟨r1, r2, r3, hf1, h⟩ := obind3_some h
 refine RunC.regionW ?_
 refine zL (r := ptr [i64 a0, i64 a1, sl a2.length (a2.map f32), sl a3.length (a3.map i64)]) rfl rfl rfl (LOp.fap und27 rfl siz24 rfl rfl rfl) ?_
 refine zL (r := agg [i64 a0, i64 a1, sl a2.length (a2.map f32)]) rfl rfl rfl (LOp.loadAgg agg24 siz24 rfl rfl rfl rfl) ?_
 refine ROps.d (r := agg [i64 r1, i64 r2, oref 2 1 0 r3.length]) (fs := [(2, (r3.map f32))]) (Γ' := [⟨1, some [i64 0, i64 0, nilsl, nilsl]⟩, ⟨1, some [i64 0, i64 0, nilsl, nilsl]⟩, ⟨1, some (r3.map f32)⟩, ⟨0, none⟩]) rfl rfl rfl (TOp.callBN (ls := [(r3.map f32)]) [2] (CallAs.func ent22 rfl rfl) (Bors.cons (Bor.agg (Bors.cons (Bor.pure rfl) (Bors.cons (Bor.pure rfl) (Bors.cons (Bor.sl (fun _ => rfl)) Bors.nil)))) Bors.nil) rfl (w_toMatrix_ok a0 a1 a2 r1 r2 r3 hf1) (and_all (lts0_map (f := f32) (fun _ => rfl) _) rfl) (and_all (noss_map (f := f32) (fun _ => rfl) _) rfl) rfl (by decide) (ns_of ⟨⟨_, rfl⟩, trivial⟩)) rfl ?_
 refine zL (r := optr 1 1 0) rfl rfl rfl (LOp.fao und33 rfl siz31 rfl rfl rfl) ?_
 refine ROps.store_le (r := agg [i64 r1, i64 r2, oref 2 1 0 r3.length]) (l' := [i64 r1, i64 r2, oref 2 1 0 r3.length, nilsl]) (Γ' := [⟨1, some [i64 0, i64 0, nilsl, nilsl]⟩, ⟨1, some [i64 r1, i64 r2, oref 2 1 0 r3.length, nilsl]⟩, ⟨1, some (r3.map f32)⟩, ⟨0, none⟩]) rfl siz31 rfl rfl rfl aR rfl rfl rfl rfl (Nat.le_of_ble_eq_true rfl) rfl rfl ?_
 refine zN ?_
 refine RunC.seq ?_
 obtain ⟨r4, hf2, h⟩ := obind_some h
 refine RunC.regionW ?_
 refine zL (r := ptr [sl a3.length (a3.map i64)]) rfl rfl rfl (LOp.fap und27 rfl siz25 rfl rfl rfl) ?_
 refine zL (r := sl a3.length (a3.map i64)) rfl rfl rfl (LOp.load1 agg25 rfl rfl) ?_
 refine ROps.d (r := oref 3 1 0 r4.length) (fs := [(3, (r4.map i64))]) (Γ' := [⟨1, some [i64 0, i64 0, nilsl, nilsl]⟩, ⟨1, some [i64 r1, i64 r2, oref 2 1 0 r3.length, nilsl]⟩, ⟨1, some (r3.map f32)⟩, ⟨1, some (r4.map i64)⟩]) rfl rfl rfl (TOp.callBN (ls := [(r4.map i64)]) [3] (CallAs.func ent23 rfl rfl) (Bors.cons (Bor.sl (fun _ => rfl)) Bors.nil) rfl (w_toInt64S_ok a3 r4 hf2) (and_all (lts0_map (f := i64) (fun _ => rfl) _) rfl) (and_all (noss_map (f := i64) (fun _ => rfl) _) rfl) rfl (by decide) (ns_of ⟨⟨_, rfl⟩, trivial⟩)) rfl ?_
 refine zL (r := optr 1 1 3) rfl rfl rfl (LOp.fao und33 rfl siz25 rfl rfl rfl) ?_
 refine ROps.store_le (r := oref 3 1 0 r4.length) (l' := [i64 r1, i64 r2, oref 2 1 0 r3.length, oref 3 1 0 r4.length]) (Γ' := [⟨1, some [i64 0, i64 0, nilsl, nilsl]⟩, ⟨1, some [i64 r1, i64 r2, oref 2 1 0 r3.length, oref 3 1 0 r4.length]⟩, ⟨1, some (r3.map f32)⟩, ⟨1, some (r4.map i64)⟩]) rfl siz25 rfl rfl rfl aR rfl rfl rfl rfl (Nat.le_of_ble_eq_true rfl) rfl rfl ?_
 refine zN ?_
 refine zQ ?_
 refine ROps.d (r := agg [i64 r1, i64 r2, oref 2 1 0 r3.length, oref 3 1 0 r4.length]) (fs := []) (Γ' := [⟨1, some [i64 0, i64 0, nilsl, nilsl]⟩, ⟨1, some [i64 r1, i64 r2, oref 2 1 0 r3.length, oref 3 1 0 r4.length]⟩, ⟨1, some (r3.map f32)⟩, ⟨1, some (r4.map i64)⟩]) rfl rfl rfl (TOp.loadAgg_o rfl agg33 siz33 rfl rfl rfl rfl) rfl ?_
 refine ROps.store_le (r := agg [i64 r1, i64 r2, oref 2 1 0 r3.length, oref 3 1 0 r4.length]) (l' := [i64 r1, i64 r2, oref 2 1 0 r3.length, oref 3 1 0 r4.length]) (Γ' := [⟨1, some [i64 r1, i64 r2, oref 2 1 0 r3.length, oref 3 1 0 r4.length]⟩, ⟨1, some [i64 r1, i64 r2, oref 2 1 0 r3.length, oref 3 1 0 r4.length]⟩, ⟨1, some (r3.map f32)⟩, ⟨1, some (r4.map i64)⟩]) rfl siz33 rfl rfl rfl aR rfl rfl rfl rfl (Nat.le_of_ble_eq_true rfl) rfl rfl ?_
 refine zN ?_
 refine RunC.ret ?_
 have hq := Option.some.inj h
 obtain ⟨hq0, hq⟩ := Prod.mk.inj hq
 obtain ⟨hq1, hq⟩ := Prod.mk.inj hq
 obtain ⟨hq2, hq⟩ := Prod.mk.inj hq
 subst q0
 subst q1
 subst q2
 subst q3
 exact bodyQ.mk (r' := agg [i64 r1, i64 r2, oref 2 1 0 r3.length, oref 3 1 0 r4.length]) [(2, 1), (3, 1)] (.inr rfl) rfl (show List.Nodup [2, 3] from by decide) rfl rfl (Res.one rfl (RV.cell agg33 siz33 rfl rfl rfl rfl)) (SelL.arr0 (f := f32) (fun _ => rfl) rfl (SelL.arr0 (f := i64) (fun _ => rfl) rfl trivial))
noncomputable def s_l00In (a0 : Int) (a1 : Int) (a2 : Int) : Option (Bool) :=
 bsel (decide (a1 ≤ a0)) (
  some (decide (a0 ≤ a2))) (
  some false)
theorem s_l00In_ok (a0 : Int) (a1 : Int) (a2 : Int) (q0 : Bool) (h : s_l00In a0 a1 a2 = some q0) : Ev Try.prog 60 [i64 a0, i64 a1, i64 a2] [] (b q0) [] := by
 refine Ev.start Try.func60 rfl rfl 0 (τ := [(0, i64 a0), (1, i64 a1), (2, i64 a2)]) rfl (Γ' := []) rfl (n := 31) rfl (g := 0) rfl (fun _ => rfl) ?_
 unfold s_l00In at h
 refine zQ ?_
 refine zA (r := b false) rfl rfl rfl rfl rfl ?_
 refine zN ?_
 refine RunC.seq ?_
 rcases bsel_some h with ⟨hc1, h⟩ | ⟨hc1, h⟩
 ·refine RunC.regionW ?_
  refine zM (r := i64 a0) rfl rfl rfl rfl rfl ?_
  refine zM (r := i64 a1) rfl rfl rfl rfl rfl ?_
  refine zL (r := b true) rfl rfl rfl (LOp.eqb (LOp.geq rfl rfl rfl) hc1) ?_
  refine zM (r := b true) rfl rfl rfl rfl rfl ?_
  refine zM (r := i64 a0) rfl rfl rfl rfl rfl ?_
  refine zM (r := i64 a2) rfl rfl rfl rfl rfl ?_
  refine zL (r := b (decide (a0 ≤ a2))) rfl rfl rfl (LOp.leq rfl rfl rfl) ?_
  refine zL (r := b (decide (a0 ≤ a2))) rfl rfl rfl (LOp.pick_true rfl rfl rfl) ?_
  refine zA (r := b (decide (a0 ≤ a2))) rfl rfl rfl rfl rfl ?_
  refine zN ?_
  refine RunC.ret ?_
  have hq := Option.some.inj h
  subst q0
  exact bodyQ.pure (.inr rfl) rfl (Res.one rfl (RV.tmp rfl))
 ·refine RunC.regionW ?_
  refine zM (r := i64 a0) rfl rfl rfl rfl rfl ?_
  refine zM (r := i64 a1) rfl rfl rfl rfl rfl ?_
  refine zL (r := b false) rfl rfl rfl (LOp.eqb (LOp.geq rfl rfl rfl) hc1) ?_
  refine zM (r := b false) rfl rfl rfl rfl rfl ?_
  refine ROps.s rfl rfl rfl ?_
  refine ROps.s rfl rfl rfl ?_
  refine ROps.s rfl rfl rfl ?_
  refine zL (r := b false) rfl rfl rfl (LOp.pick_false rfl rfl rfl) ?_
  refine zA (r := b false) rfl rfl rfl rfl rfl ?_
  refine zN ?_
  refine RunC.ret ?_
  have hq := Option.some.inj h
  subst q0
  exact bodyQ.pure (.inr rfl) rfl (Res.one rfl (RV.tmp rfl))
noncomputable def s_l02Sides (a0 : Int) (a1 : Int) : Option (Bool) :=
 obind (s_l00In a0 1 12) fun (r1 : Bool) =>
 bsel r1 (
  obind (s_l00In a1 1 12) fun (r2 : Bool) =>
  some r2) (
  some false)
theorem s_l02Sides_ok (a0 : Int) (a1 : Int) (q0 : Bool) (h : s_l02Sides a0 a1 = some q0) : Ev Try.prog 67 [i64 a0, i64 a1] [] (b q0) [] := by
 refine Ev.start Try.func67 rfl rfl 0 (τ := [(0, i64 a0), (1, i64 a1)]) rfl (Γ' := []) rfl (n := 23) rfl (g := 0) rfl (fun _ => rfl) ?_
 unfold s_l02Sides at h
 refine zQ ?_
 refine zA (r := b false) rfl rfl rfl rfl rfl ?_
 refine zN ?_
 refine RunC.seq ?_
 obtain ⟨r1, hf1, h⟩ := obind_some h
 rcases bsel_some h with ⟨hc2, h⟩ | ⟨hc2, h⟩
 ·obtain ⟨r2, hf3, h⟩ := obind_some h
  refine RunC.regionW ?_
  refine zM (r := i64 a0) rfl rfl rfl rfl rfl ?_
  refine ROps.d (r := b true) (fs := []) (Γ' := []) rfl rfl rfl (TOp.eqb (TOp.callB (CallAs.func ent60 rfl rfl) (Bors.cons (Bor.pure rfl) (Bors.cons (Bor.pure rfl) (Bors.cons (Bor.pure rfl) Bors.nil))) rfl rfl (s_l00In_ok a0 1 12 r1 hf1)) hc2) rfl ?_
  refine zM (r := b true) rfl rfl rfl rfl rfl ?_
  refine zM (r := i64 a1) rfl rfl rfl rfl rfl ?_
  refine ROps.d (r := b r2) (fs := []) (Γ' := []) rfl rfl rfl (TOp.callB (CallAs.func ent60 rfl rfl) (Bors.cons (Bor.pure rfl) (Bors.cons (Bor.pure rfl) (Bors.cons (Bor.pure rfl) Bors.nil))) rfl rfl (s_l00In_ok a1 1 12 r2 hf3)) rfl ?_
  refine zL (r := b r2) rfl rfl rfl (LOp.pick_true rfl rfl rfl) ?_
  refine zA (r := b r2) rfl rfl rfl rfl rfl ?_
  refine zN ?_
  refine RunC.ret ?_
  have hq := Option.some.inj h
  subst q0
  exact bodyQ.pure (.inr rfl) rfl (Res.one rfl (RV.tmp rfl))
 ·refine RunC.regionW ?_
  refine zM (r := i64 a0) rfl rfl rfl rfl rfl ?_
  refine ROps.d (r := b false) (fs := []) (Γ' := []) rfl rfl rfl (TOp.eqb (TOp.callB (CallAs.func ent60 rfl rfl) (Bors.cons (Bor.pure rfl) (Bors.cons (Bor.pure rfl) (Bors.cons (Bor.pure rfl) Bors.nil))) rfl rfl (s_l00In_ok a0 1 12 r1 hf1)) hc2) rfl ?_
  refine zM (r := b false) rfl rfl rfl rfl rfl ?_
  refine ROps.s rfl rfl rfl ?_
  refine ROps.s rfl rfl rfl ?_
  refine zL (r := b false) rfl rfl rfl (LOp.pick_false rfl rfl rfl) ?_
  refine zA (r := b false) rfl rfl rfl rfl rfl ?_
  refine zN ?_
  refine RunC.ret ?_
  have hq := Option.some.inj h
  subst q0
  exact bodyQ.pure (.inr rfl) rfl (Res.one rfl (RV.tmp rfl))
noncomputable def s_l01Finite (a0 : F) : Option (Bool) :=
 olet (fop .sub .f32 a0 a0) fun (x1 : F) =>
 some (feq .f32 x1 (some 0))
theorem s_l01Finite_ok (a0 : F) (q0 : Bool) (h : s_l01Finite a0 = some q0) : Ev Try.prog 49 [f32 a0] [] (b q0) [] := by
 refine Ev.start Try.func49 rfl rfl 0 (τ := [(0, f32 a0)]) rfl (Γ' := []) rfl (n := 15) rfl (g := 0) rfl (fun _ => rfl) ?_
 unfold s_l01Finite at h
 refine zQ ?_
 refine zA (r := b false) rfl rfl rfl rfl rfl ?_
 refine zN ?_
 refine RunC.seq ?_
 obtain ⟨x1, hx1, h⟩ := olet_some h
 refine RunC.regionW ?_
 refine zM (r := f32 a0) rfl rfl rfl rfl rfl ?_
 refine zM (r := f32 a0) rfl rfl rfl rfl rfl ?_
 refine ROps.d (r := f32 x1) (fs := []) (Γ' := []) rfl rfl rfl (TOp.eqr (TOp.fop (.inr (.inl rfl)) rfl (OpF.tmp rfl) (OpF.tmp rfl)) (congrArg (f .f32) hx1)) rfl ?_
 refine zL (r := b (feq .f32 x1 (some 0))) rfl rfl rfl (LOp.feq rfl (OpF.tmp rfl) (OpF.const rfl (by kernel_rfl) (by kernel_rfl))) ?_
 refine zA (r := b (feq .f32 x1 (some 0))) rfl rfl rfl rfl rfl ?_
 refine zN ?_
 refine RunC.ret ?_
 have hq := Option.some.inj h
 subst q0
 exact bodyQ.pure (.inr rfl) rfl (Res.one rfl (RV.tmp rfl))
noncomputable def s_l02Finite_b1 (a0 : List F) (v1 : Int) : Option (LR (Int) (Unit) (Bool)) :=
 bsel (decide (v1 < (a0.length : Int))) (
  obind (at? a0 v1) fun (e2 : F) =>
  obind (s_l01Finite e2) fun (r3 : Bool) =>
  bsel r3 (
   olet (IntKind.i64.wrap (v1 + 1)) fun (x4 : Int) =>
   some (LR.next x4)) (
   some (LR.ret false))) (
  some (LR.out ()))
noncomputable def s_l02Finite_s1 (a0 : List F) : (Int) → Option (LR (Int) (Unit) (Bool)) := fun s => s_l02Finite_b1 a0 s
noncomputable def s_l02Finite_k1  : Option (Bool) :=
 some true
noncomputable def s_l02Finite (a0 : List F) : Option (Bool) :=
 obind (loopM (s_l02Finite_s1 a0) 0) fun z => osum z (fun _ => s_l02Finite_k1) (fun r => some r)
theorem s_l02Finite_ok (a0 : List F) (q0 : Bool) (h : s_l02Finite a0 = some q0) : Ev Try.prog 39 [sl a0.length (a0.map f32)] [] (b q0) [] := by
 refine Ev.start Try.func39 rfl rfl 0 (τ := [(0, sl a0.length (a0.map f32))]) rfl (Γ' := []) rfl (n := 33) rfl (g := 0) rfl (fun _ => rfl) ?_
 unfold s_l02Finite at h
 refine zQ ?_
 refine zA (r := b false) rfl rfl rfl rfl rfl ?_
 refine zN ?_
 refine RunC.seq ?_
 refine zQ ?_
 refine zA (r := i64 0) rfl rfl rfl rfl rfl ?_
 refine zN ?_
 obtain ⟨z2, hz_2, h⟩ := obind_some h
 refine RunC.cutN (fun τ Γ => WeakLe τ [] ∧ DeadLe Γ [] ∧ z2 = .inl ()) ?_ ?_
 ·refine RunC.block (RunC.loop (RunL.loopM (x := z2) (s_l02Finite_s1 a0) (fun (s : Int) τ Γ => WeakLe τ [(0, sl a0.length (a0.map f32)), (3, i64 s)] ∧ DeadLe Γ []) ?_ _ _ _ hz_2 ⟨⟨aR, aR, trivial⟩, trivial⟩))
  rintro v1 τ2 Γ2 y2_ ⟨hw2, hd2⟩ h2_ ho2 hr2
  refine RunC.wl (τ' := [(0, sl a0.length (a0.map f32)), (3, i64 v1)]) (Γ' := []) hw2 hd2 ?_
  replace h2_ : s_l02Finite_b1 a0 v1 = some y2_ := h2_
  unfold s_l02Finite_b1 at h2_
  refine RunC.seq ?_
  refine RunC.seq ?_
  rcases bsel_some h2_ with ⟨hc1, h2_⟩ | ⟨hc1, h2_⟩
  ·refine RunC.regionW ?_
   refine zM (r := i64 v1) rfl rfl rfl rfl rfl ?_
   refine zM (r := sl a0.length (a0.map f32)) rfl rfl rfl rfl rfl ?_
   refine zL (r := i64 (a0.length : Int)) rfl rfl rfl (LOp.len_sl und22 rfl rfl) ?_
   refine zL (r := b true) rfl rfl rfl (LOp.eqb (LOp.lss rfl rfl rfl) hc1) ?_
   refine zN ?_
   refine RunC.cond_true rfl rfl ?_
   refine RunC.skip ?_
   refine RunC.seq ?_
   refine RunC.block ?_
   refine RunC.seq ?_
   obtain ⟨e2, he2, h2_⟩ := obind_some h2_
   obtain ⟨r3, hf3, h2_⟩ := obind_some h2_
   rcases bsel_some h2_ with ⟨hc4, h2_⟩ | ⟨hc4, h2_⟩
   ·refine RunC.regionW ?_
    refine zM (r := sl a0.length (a0.map f32)) rfl rfl rfl rfl rfl ?_
    refine zM (r := i64 v1) rfl rfl rfl rfl rfl ?_
    refine zL (r := ptr [f32 e2]) rfl rfl rfl (LOp.le (LOp.ix (f := f32) und22 siz45 rfl rfl rfl rfl he2) ALe.ptr) ?_
    refine zL (r := f32 e2) rfl rfl rfl (LOp.load1 agg45 rfl rfl) ?_
    refine ROps.d (r := b true) (fs := []) (Γ' := []) rfl rfl rfl (TOp.eqb (TOp.callB (CallAs.func ent49 rfl rfl) (Bors.cons (Bor.pure rfl) Bors.nil) rfl rfl (s_l01Finite_ok e2 r3 hf3)) hc4) rfl ?_
    refine zL (r := b false) rfl rfl rfl (LOp.eqb (LOp.not rfl rfl) rfl) ?_
    refine zN ?_
    refine RunC.cond_false rfl rfl ?_
    refine RunC.skip ?_
    obtain ⟨x4, hx5, h2_⟩ := olet_some h2_
    refine RunC.regionW ?_
    refine zM (r := i64 v1) rfl rfl rfl rfl rfl ?_
    refine zL (r := i64 x4) rfl rfl rfl (LOp.eqr (LOp.add rfl rfl rfl) (congrArg (ik .i64) hx5)) ?_
    refine zA (r := i64 x4) rfl rfl rfl rfl rfl ?_
    refine zN ?_
    cases Option.some.inj h2_
    exact ⟨_, rfl, ⟨aR, aR, trivial⟩, trivial⟩
   ·refine RunC.regionW ?_
    refine zM (r := sl a0.length (a0.map f32)) rfl rfl rfl rfl rfl ?_
    refine zM (r := i64 v1) rfl rfl rfl rfl rfl ?_
    refine zL (r := ptr [f32 e2]) rfl rfl rfl (LOp.le (LOp.ix (f := f32) und22 siz45 rfl rfl rfl rfl he2) ALe.ptr) ?_
    refine zL (r := f32 e2) rfl rfl rfl (LOp.load1 agg45 rfl rfl) ?_
    refine ROps.d (r := b false) (fs := []) (Γ' := []) rfl rfl rfl (TOp.eqb (TOp.callB (CallAs.func ent49 rfl rfl) (Bors.cons (Bor.pure rfl) Bors.nil) rfl rfl (s_l01Finite_ok e2 r3 hf3)) hc4) rfl ?_
    refine zL (r := b true) rfl rfl rfl (LOp.eqb (LOp.not rfl rfl) rfl) ?_
    refine zN ?_
    refine RunC.cond_true rfl rfl ?_
    refine zQ ?_
    refine zA (r := b false) rfl rfl rfl rfl rfl ?_
    refine zN ?_
    refine RunC.ret ?_
    cases Option.some.inj h2_
    have hx3_ := hr2 _ rfl
    subst hx3_
    have hq := Option.some.inj h
    subst q0
    exact bodyQ.pure (.inr rfl) rfl (Res.one rfl (RV.tmp rfl))
  ·refine RunC.regionW ?_
   refine zM (r := i64 v1) rfl rfl rfl rfl rfl ?_
   refine zM (r := sl a0.length (a0.map f32)) rfl rfl rfl rfl rfl ?_
   refine zL (r := i64 (a0.length : Int)) rfl rfl rfl (LOp.len_sl und22 rfl rfl) ?_
   refine zL (r := b false) rfl rfl rfl (LOp.eqb (LOp.lss rfl rfl rfl) hc1) ?_
   refine zN ?_
   refine RunC.cond_false rfl rfl ?_
   refine RunC.exit ?_
   cases Option.some.inj h2_
   have hx := ho2 _ rfl
   exact ⟨trivial, trivial, hx⟩
 ·rintro τ4 Γ4 ⟨hw4, hd4, rfl⟩
  refine RunC.wl hw4 hd4 ?_
  replace h : s_l02Finite_k1 = some q0 := h
  unfold s_l02Finite_k1 at h
  refine zQ ?_
  refine zA (r := b true) rfl rfl rfl rfl rfl ?_
  refine zN ?_
  refine RunC.ret ?_
  have hq := Option.some.inj h
  subst q0
  exact bodyQ.pure (.inr rfl) rfl (Res.one rfl (RV.tmp rfl))
noncomputable def s_l02Is (a0 : Int) (a1 : Int) (a2 : List F) : Option (Bool) :=
 obind (s_l02Sides a0 a1) fun (r1 : Bool) =>
 bsel r1 (
  olet (IntKind.i64.wrap (a0 * a1)) fun (x2 : Int) =>
  bsel (decide ((a2.length : Int) = x2)) (
   obind (s_l02Finite a2) fun (r3 : Bool) =>
   some r3) (
   some false)) (
  some false)
theorem s_l02Is_ok (a0 : Int) (a1 : Int) (a2 : List F) (q0 : Bool) (h : s_l02Is a0 a1 a2 = some q0) : Ev Try.prog 59 [ptr [i64 a0, i64 a1, sl a2.length (a2.map f32)]] [] (b q0) [] := by
 refine Ev.start Try.func59 rfl rfl 0 (τ := [(0, ptr [i64 a0, i64 a1, sl a2.length (a2.map f32)])]) rfl (Γ' := []) rfl (n := 73) rfl (g := 0) rfl (fun _ => rfl) ?_
 unfold s_l02Is at h
 refine zQ ?_
 refine zA (r := b false) rfl rfl rfl rfl rfl ?_
 refine zN ?_
 refine RunC.seq ?_
 obtain ⟨r1, hf1, h⟩ := obind_some h
 rcases bsel_some h with ⟨hc2, h⟩ | ⟨hc2, h⟩
 ·obtain ⟨x2, hx3, h⟩ := olet_some h
  rcases bsel_some h with ⟨hc4, h⟩ | ⟨hc4, h⟩
  ·obtain ⟨r3, hf5, h⟩ := obind_some h
   refine RunC.region_draw (Γ' := []) 34 mixed 
    (TR.l (r := ptr [i64 a0, i64 a1, sl a2.length (a2.map f32)]) rfl rfl (LOp.move rfl rfl) <|
    (TR.l (r := ptr [i64 a0, i64 a1, sl a2.length (a2.map f32)]) rfl rfl (LOp.nilCheck_ptr rfl rfl) <|
    (TR.l (r := ptr [i64 a0, i64 a1, sl a2.length (a2.map f32)]) rfl rfl (LOp.fap und31 rfl siz2 rfl rfl rfl) <|
    (TR.l (r := i64 a0) rfl rfl (LOp.load1 agg2 rfl rfl) <|
    (TR.l (r := ptr [i64 a0, i64 a1, sl a2.length (a2.map f32)]) rfl rfl (LOp.move rfl rfl) <|
    (TR.l (r := ptr [i64 a0, i64 a1, sl a2.length (a2.map f32)]) rfl rfl (LOp.nilCheck_ptr rfl rfl) <|
    (TR.l (r := ptr [i64 a1, sl a2.length (a2.map f32)]) rfl rfl (LOp.fap und31 rfl siz2 rfl rfl rfl) <|
    (TR.l (r := i64 a1) rfl rfl (LOp.load1 agg2 rfl rfl) <|
    (TR.d (r := b true) (fs := []) rfl rfl (TOp.eqb (TOp.callB (CallAs.func ent67 rfl rfl) (Bors.cons (Bor.pure rfl) (Bors.cons (Bor.pure rfl) Bors.nil)) rfl rfl (s_l02Sides_ok a0 a1 r1 hf1)) hc2) <|
    (TR.l (r := b true) rfl rfl (LOp.move rfl rfl) <|
    (TR.l (r := ptr [i64 a0, i64 a1, sl a2.length (a2.map f32)]) rfl rfl (LOp.move rfl rfl) <|
    (TR.l (r := ptr [i64 a0, i64 a1, sl a2.length (a2.map f32)]) rfl rfl (LOp.nilCheck_ptr rfl rfl) <|
    (TR.l (r := ptr [sl a2.length (a2.map f32)]) rfl rfl (LOp.fap und31 rfl siz22 rfl rfl rfl) <|
    (TR.l (r := sl a2.length (a2.map f32)) rfl rfl (LOp.load1 agg22 rfl rfl) <|
    (TR.l (r := i64 (a2.length : Int)) rfl rfl (LOp.len_sl und22 rfl rfl) <|
    (TR.l (r := ptr [i64 a0, i64 a1, sl a2.length (a2.map f32)]) rfl rfl (LOp.move rfl rfl) <|
    (TR.l (r := ptr [i64 a0, i64 a1, sl a2.length (a2.map f32)]) rfl rfl (LOp.nilCheck_ptr rfl rfl) <|
    (TR.l (r := ptr [i64 a0, i64 a1, sl a2.length (a2.map f32)]) rfl rfl (LOp.fap und31 rfl siz2 rfl rfl rfl) <|
    (TR.l (r := i64 a0) rfl rfl (LOp.load1 agg2 rfl rfl) <|
    (TR.l (r := ptr [i64 a0, i64 a1, sl a2.length (a2.map f32)]) rfl rfl (LOp.move rfl rfl) <|
    (TR.l (r := ptr [i64 a0, i64 a1, sl a2.length (a2.map f32)]) rfl rfl (LOp.nilCheck_ptr rfl rfl) <|
    (TR.l (r := ptr [i64 a1, sl a2.length (a2.map f32)]) rfl rfl (LOp.fap und31 rfl siz2 rfl rfl rfl) <|
    (TR.l (r := i64 a1) rfl rfl (LOp.load1 agg2 rfl rfl) <|
    (TR.l (r := i64 x2) rfl rfl (LOp.eqr (LOp.mul rfl rfl rfl) (congrArg (ik .i64) hx3)) <|
    (TR.l (r := b true) rfl rfl (LOp.eqb (LOp.eql rfl rfl rfl) hc4) <|
    (TR.l (r := b true) rfl rfl (LOp.pick_true rfl rfl rfl) <|
    (TR.l (r := b true) rfl rfl (LOp.move rfl rfl) <|
    (TR.l (r := ptr [i64 a0, i64 a1, sl a2.length (a2.map f32)]) rfl rfl (LOp.move rfl rfl) <|
    (TR.l (r := ptr [i64 a0, i64 a1, sl a2.length (a2.map f32)]) rfl rfl (LOp.nilCheck_ptr rfl rfl) <|
    (TR.l (r := ptr [sl a2.length (a2.map f32)]) rfl rfl (LOp.fap und31 rfl siz22 rfl rfl rfl) <|
    (TR.l (r := sl a2.length (a2.map f32)) rfl rfl (LOp.load1 agg22 rfl rfl) <|
    (TR.d (r := b r3) (fs := []) rfl rfl (TOp.callB (CallAs.func ent39 rfl rfl) (Bors.cons (Bor.sl (fun _ => rfl)) Bors.nil) rfl rfl (s_l02Finite_ok a2 r3 hf5)) <|
    (TR.l (r := b r3) rfl rfl (LOp.pick_true rfl rfl rfl) <|
    (TR.l (r := b r3) rfl rfl (LOp.assign rfl rfl) <|
    TR.nil)))))))))))))))))))))))))))))))))) rfl (by kernel_rfl) rfl fills_nil rfl ?_
   iterate 34 refine ROps.dropS ?_
   refine ROps.drop0 ?_
   refine zN ?_
   refine RunC.ret ?_
   have hq := Option.some.inj h
   subst q0
   exact bodyQ.pure (.inr rfl) rfl (Res.one rfl (RV.tmp rfl))
  ·refine RunC.region_draw (Γ' := []) 34 mixed 
    (TR.l (r := ptr [i64 a0, i64 a1, sl a2.length (a2.map f32)]) rfl rfl (LOp.move rfl rfl) <|
    (TR.l (r := ptr [i64 a0, i64 a1, sl a2.length (a2.map f32)]) rfl rfl (LOp.nilCheck_ptr rfl rfl) <|
    (TR.l (r := ptr [i64 a0, i64 a1, sl a2.length (a2.map f32)]) rfl rfl (LOp.fap und31 rfl siz2 rfl rfl rfl) <|
    (TR.l (r := i64 a0) rfl rfl (LOp.load1 agg2 rfl rfl) <|
    (TR.l (r := ptr [i64 a0, i64 a1, sl a2.length (a2.map f32)]) rfl rfl (LOp.move rfl rfl) <|
    (TR.l (r := ptr [i64 a0, i64 a1, sl a2.length (a2.map f32)]) rfl rfl (LOp.nilCheck_ptr rfl rfl) <|
    (TR.l (r := ptr [i64 a1, sl a2.length (a2.map f32)]) rfl rfl (LOp.fap und31 rfl siz2 rfl rfl rfl) <|
    (TR.l (r := i64 a1) rfl rfl (LOp.load1 agg2 rfl rfl) <|
    (TR.d (r := b true) (fs := []) rfl rfl (TOp.eqb (TOp.callB (CallAs.func ent67 rfl rfl) (Bors.cons (Bor.pure rfl) (Bors.cons (Bor.pure rfl) Bors.nil)) rfl rfl (s_l02Sides_ok a0 a1 r1 hf1)) hc2) <|
    (TR.l (r := b true) rfl rfl (LOp.move rfl rfl) <|
    (TR.l (r := ptr [i64 a0, i64 a1, sl a2.length (a2.map f32)]) rfl rfl (LOp.move rfl rfl) <|
    (TR.l (r := ptr [i64 a0, i64 a1, sl a2.length (a2.map f32)]) rfl rfl (LOp.nilCheck_ptr rfl rfl) <|
    (TR.l (r := ptr [sl a2.length (a2.map f32)]) rfl rfl (LOp.fap und31 rfl siz22 rfl rfl rfl) <|
    (TR.l (r := sl a2.length (a2.map f32)) rfl rfl (LOp.load1 agg22 rfl rfl) <|
    (TR.l (r := i64 (a2.length : Int)) rfl rfl (LOp.len_sl und22 rfl rfl) <|
    (TR.l (r := ptr [i64 a0, i64 a1, sl a2.length (a2.map f32)]) rfl rfl (LOp.move rfl rfl) <|
    (TR.l (r := ptr [i64 a0, i64 a1, sl a2.length (a2.map f32)]) rfl rfl (LOp.nilCheck_ptr rfl rfl) <|
    (TR.l (r := ptr [i64 a0, i64 a1, sl a2.length (a2.map f32)]) rfl rfl (LOp.fap und31 rfl siz2 rfl rfl rfl) <|
    (TR.l (r := i64 a0) rfl rfl (LOp.load1 agg2 rfl rfl) <|
    (TR.l (r := ptr [i64 a0, i64 a1, sl a2.length (a2.map f32)]) rfl rfl (LOp.move rfl rfl) <|
    (TR.l (r := ptr [i64 a0, i64 a1, sl a2.length (a2.map f32)]) rfl rfl (LOp.nilCheck_ptr rfl rfl) <|
    (TR.l (r := ptr [i64 a1, sl a2.length (a2.map f32)]) rfl rfl (LOp.fap und31 rfl siz2 rfl rfl rfl) <|
    (TR.l (r := i64 a1) rfl rfl (LOp.load1 agg2 rfl rfl) <|
    (TR.l (r := i64 x2) rfl rfl (LOp.eqr (LOp.mul rfl rfl rfl) (congrArg (ik .i64) hx3)) <|
    (TR.l (r := b false) rfl rfl (LOp.eqb (LOp.eql rfl rfl rfl) hc4) <|
    (TR.l (r := b false) rfl rfl (LOp.pick_true rfl rfl rfl) <|
    (TR.l (r := b false) rfl rfl (LOp.move rfl rfl) <|
    (TR.s rfl rfl <|
    (TR.s rfl rfl <|
    (TR.s rfl rfl <|
    (TR.s rfl rfl <|
    (TR.s rfl rfl <|
    (TR.l (r := b false) rfl rfl (LOp.pick_false rfl rfl rfl) <|
    (TR.l (r := b false) rfl rfl (LOp.assign rfl rfl) <|
    TR.nil)))))))))))))))))))))))))))))))))) rfl (by kernel_rfl) rfl fills_nil rfl ?_
   iterate 34 refine ROps.dropS ?_
   refine ROps.drop0 ?_
   refine zN ?_
   refine RunC.ret ?_
   have hq := Option.some.inj h
   subst q0
   exact bodyQ.pure (.inr rfl) rfl (Res.one rfl (RV.tmp rfl))
 ·refine RunC.region_draw (Γ' := []) 34 mixed 
   (TR.l (r := ptr [i64 a0, i64 a1, sl a2.length (a2.map f32)]) rfl rfl (LOp.move rfl rfl) <|
   (TR.l (r := ptr [i64 a0, i64 a1, sl a2.length (a2.map f32)]) rfl rfl (LOp.nilCheck_ptr rfl rfl) <|
   (TR.l (r := ptr [i64 a0, i64 a1, sl a2.length (a2.map f32)]) rfl rfl (LOp.fap und31 rfl siz2 rfl rfl rfl) <|
   (TR.l (r := i64 a0) rfl rfl (LOp.load1 agg2 rfl rfl) <|
   (TR.l (r := ptr [i64 a0, i64 a1, sl a2.length (a2.map f32)]) rfl rfl (LOp.move rfl rfl) <|
   (TR.l (r := ptr [i64 a0, i64 a1, sl a2.length (a2.map f32)]) rfl rfl (LOp.nilCheck_ptr rfl rfl) <|
   (TR.l (r := ptr [i64 a1, sl a2.length (a2.map f32)]) rfl rfl (LOp.fap und31 rfl siz2 rfl rfl rfl) <|
   (TR.l (r := i64 a1) rfl rfl (LOp.load1 agg2 rfl rfl) <|
   (TR.d (r := b false) (fs := []) rfl rfl (TOp.eqb (TOp.callB (CallAs.func ent67 rfl rfl) (Bors.cons (Bor.pure rfl) (Bors.cons (Bor.pure rfl) Bors.nil)) rfl rfl (s_l02Sides_ok a0 a1 r1 hf1)) hc2) <|
   (TR.l (r := b false) rfl rfl (LOp.move rfl rfl) <|
   (TR.s rfl rfl <|
   (TR.s rfl rfl <|
   (TR.s rfl rfl <|
   (TR.s rfl rfl <|
   (TR.s rfl rfl <|
   (TR.s rfl rfl <|
   (TR.s rfl rfl <|
   (TR.s rfl rfl <|
   (TR.s rfl rfl <|
   (TR.s rfl rfl <|
   (TR.s rfl rfl <|
   (TR.s rfl rfl <|
   (TR.s rfl rfl <|
   (TR.s rfl rfl <|
   (TR.s rfl rfl <|
   (TR.l (r := b false) rfl rfl (LOp.pick_false rfl rfl rfl) <|
   (TR.l (r := b false) rfl rfl (LOp.move rfl rfl) <|
   (TR.s rfl rfl <|
   (TR.s rfl rfl <|
   (TR.s rfl rfl <|
   (TR.s rfl rfl <|
   (TR.s rfl rfl <|
   (TR.l (r := b false) rfl rfl (LOp.pick_false rfl rfl rfl) <|
   (TR.l (r := b false) rfl rfl (LOp.assign rfl rfl) <|
   TR.nil)))))))))))))))))))))))))))))))))) rfl (by kernel_rfl) rfl fills_nil rfl ?_
  iterate 34 refine ROps.dropS ?_
  refine ROps.drop0 ?_
  refine zN ?_
  refine RunC.ret ?_
  have hq := Option.some.inj h
  subst q0
  exact bodyQ.pure (.inr rfl) rfl (Res.one rfl (RV.tmp rfl))
noncomputable def s_l02Square (a0 : Int) (a1 : Int) (a2 : List F) : Option (Bool) :=
 obind (s_l02Is a0 a1 a2) fun (r1 : Bool) =>
 bsel r1 (
  some (decide (a0 = a1))) (
  some false)
theorem s_l02Square_ok (a0 : Int) (a1 : Int) (a2 : List F) (q0 : Bool) (h : s_l02Square a0 a1 a2 = some q0) : Ev Try.prog 47 [ptr [i64 a0, i64 a1, sl a2.length (a2.map f32)]] [] (b q0) [] := by
 refine Ev.start Try.func47 rfl rfl 0 (τ := [(0, ptr [i64 a0, i64 a1, sl a2.length (a2.map f32)])]) rfl (Γ' := []) rfl (n := 33) rfl (g := 0) rfl (fun _ => rfl) ?_
 unfold s_l02Square at h
 refine zQ ?_
 refine zA (r := b false) rfl rfl rfl rfl rfl ?_
 refine zN ?_
 refine RunC.seq ?_
 obtain ⟨r1, hf1, h⟩ := obind_some h
 rcases bsel_some h with ⟨hc2, h⟩ | ⟨hc2, h⟩
 ·refine RunC.region_draw (Γ' := []) 14 mixed 
   (TR.l (r := ptr [i64 a0, i64 a1, sl a2.length (a2.map f32)]) rfl rfl (LOp.move rfl rfl) <|
   (TR.d (r := b true) (fs := []) rfl rfl (TOp.eqb (TOp.callB (CallAs.func ent59 rfl rfl) (Bors.cons (Bor.ptr (Bors.cons (Bor.pure rfl) (Bors.cons (Bor.pure rfl) (Bors.cons (Bor.sl (fun _ => rfl)) Bors.nil)))) Bors.nil) rfl rfl (s_l02Is_ok a0 a1 a2 r1 hf1)) hc2) <|
   (TR.l (r := b true) rfl rfl (LOp.move rfl rfl) <|
   (TR.l (r := ptr [i64 a0, i64 a1, sl a2.length (a2.map f32)]) rfl rfl (LOp.move rfl rfl) <|
   (TR.l (r := ptr [i64 a0, i64 a1, sl a2.length (a2.map f32)]) rfl rfl (LOp.nilCheck_ptr rfl rfl) <|
   (TR.l (r := ptr [i64 a0, i64 a1, sl a2.length (a2.map f32)]) rfl rfl (LOp.fap und31 rfl siz2 rfl rfl rfl) <|
   (TR.l (r := i64 a0) rfl rfl (LOp.load1 agg2 rfl rfl) <|
   (TR.l (r := ptr [i64 a0, i64 a1, sl a2.length (a2.map f32)]) rfl rfl (LOp.move rfl rfl) <|
   (TR.l (r := ptr [i64 a0, i64 a1, sl a2.length (a2.map f32)]) rfl rfl (LOp.nilCheck_ptr rfl rfl) <|
   (TR.l (r := ptr [i64 a1, sl a2.length (a2.map f32)]) rfl rfl (LOp.fap und31 rfl siz2 rfl rfl rfl) <|
   (TR.l (r := i64 a1) rfl rfl (LOp.load1 agg2 rfl rfl) <|
   (TR.l (r := b (decide (a0 = a1))) rfl rfl (LOp.eql rfl rfl rfl) <|
   (TR.l (r := b (decide (a0 = a1))) rfl rfl (LOp.pick_true rfl rfl rfl) <|
   (TR.l (r := b (decide (a0 = a1))) rfl rfl (LOp.assign rfl rfl) <|
   TR.nil)))))))))))))) rfl (by kernel_rfl) rfl fills_nil rfl ?_
  iterate 14 refine ROps.dropS ?_
  refine ROps.drop0 ?_
  refine zN ?_
  refine RunC.ret ?_
  have hq := Option.some.inj h
  subst q0
  exact bodyQ.pure (.inr rfl) rfl (Res.one rfl (RV.tmp rfl))
 ·refine RunC.region_draw (Γ' := []) 14 mixed 
   (TR.l (r := ptr [i64 a0, i64 a1, sl a2.length (a2.map f32)]) rfl rfl (LOp.move rfl rfl) <|
   (TR.d (r := b false) (fs := []) rfl rfl (TOp.eqb (TOp.callB (CallAs.func ent59 rfl rfl) (Bors.cons (Bor.ptr (Bors.cons (Bor.pure rfl) (Bors.cons (Bor.pure rfl) (Bors.cons (Bor.sl (fun _ => rfl)) Bors.nil)))) Bors.nil) rfl rfl (s_l02Is_ok a0 a1 a2 r1 hf1)) hc2) <|
   (TR.l (r := b false) rfl rfl (LOp.move rfl rfl) <|
   (TR.s rfl rfl <|
   (TR.s rfl rfl <|
   (TR.s rfl rfl <|
   (TR.s rfl rfl <|
   (TR.s rfl rfl <|
   (TR.s rfl rfl <|
   (TR.s rfl rfl <|
   (TR.s rfl rfl <|
   (TR.s rfl rfl <|
   (TR.l (r := b false) rfl rfl (LOp.pick_false rfl rfl rfl) <|
   (TR.l (r := b false) rfl rfl (LOp.assign rfl rfl) <|
   TR.nil)))))))))))))) rfl (by kernel_rfl) rfl fills_nil rfl ?_
  iterate 14 refine ROps.dropS ?_
  refine ROps.drop0 ?_
  refine zN ?_
  refine RunC.ret ?_
  have hq := Option.some.inj h
  subst q0
  exact bodyQ.pure (.inr rfl) rfl (Res.one rfl (RV.tmp rfl))
noncomputable def s_l02Order_b1 (a0 : List Int) (L1 : List Bool) (v3 : Int) : Option (LR ((List Bool) × Int) (Unit) (Bool)) :=
 bsel (decide (v3 < (a0.length : Int))) (
  obind (at? a0 v3) fun (e4 : Int) =>
  olet (IntKind.i64.wrap ((a0.length : Int) - 1)) fun (x5 : Int) =>
  obind (s_l00In e4 0 x5) fun (r6 : Bool) =>
  bsel r6 (
   obind (at? a0 v3) fun (e7 : Int) =>
   obind (at? L1 e7) fun (e8 : Bool) =>
   bsel e8 (
    some (LR.ret false)) (
    obind (at? a0 v3) fun (e9 : Int) =>
    obind (setAt? L1 e9 true) fun (L10 : List Bool) =>
    olet (IntKind.i64.wrap (v3 + 1)) fun (x11 : Int) =>
    some (LR.next (L10, x11)))) (
   some (LR.ret false))) (
  some (LR.out ()))
noncomputable def s_l02Order_s1 (a0 : List Int) : ((List Bool) × Int) → Option (LR ((List Bool) × Int) (Unit) (Bool)) := fun s => s_l02Order_b1 a0 s.1 s.2
noncomputable def s_l02Order_k1  : Option (Bool) :=
 some true
noncomputable def s_l02Order (a0 : List Int) : Option (Bool) :=
 bsel (decide ((a0.length : Int) < 1)) (
  some false) (
  bsel (decide (12 < (a0.length : Int))) (
   some false) (
   need (mkok 1 (a0.length : Int)) <|
   obind (loopM (s_l02Order_s1 a0) ((List.replicate (a0.length : Int).toNat false), 0)) fun z => osum z (fun _ => s_l02Order_k1) (fun r => some r)))
theorem s_l02Order_ok (a0 : List Int) (q0 : Bool) (h : s_l02Order a0 = some q0) : Ev Try.prog 48 [sl a0.length (a0.map i64)] [] (b q0) [] := by
 refine Ev.start Try.func48 rfl rfl 1 (τ := [(0, sl a0.length (a0.map i64))]) rfl (Γ' := [⟨0, none⟩]) rfl (n := 93) rfl (g := 0) rfl (fun _ => rfl) ?_
 unfold s_l02Order at h
 refine zQ ?_
 refine zA (r := b false) rfl rfl rfl rfl rfl ?_
 refine zN ?_
 refine RunC.seq ?_
 refine RunC.seq ?_
 rcases bsel_some h with ⟨hc1, h⟩ | ⟨hc1, h⟩
 ·refine RunC.regionW ?_
  refine zM (r := sl a0.length (a0.map i64)) rfl rfl rfl rfl rfl ?_
  refine zL (r := i64 (a0.length : Int)) rfl rfl rfl (LOp.len_sl und25 rfl rfl) ?_
  refine zL (r := b true) rfl rfl rfl (LOp.eqb (LOp.lss rfl rfl rfl) hc1) ?_
  refine zM (r := b true) rfl rfl rfl rfl rfl ?_
  refine ROps.s rfl rfl rfl ?_
  refine ROps.s rfl rfl rfl ?_
  refine ROps.s rfl rfl rfl ?_
  refine zL (r := b true) rfl rfl rfl (LOp.pick_true rfl rfl rfl) ?_
  refine zN ?_
  refine RunC.cond_true rfl rfl ?_
  refine zQ ?_
  refine zA (r := b false) rfl rfl rfl rfl rfl ?_
  refine zN ?_
  refine RunC.ret ?_
  have hq := Option.some.inj h
  subst q0
  exact bodyQ.pure (.inr rfl) rfl (Res.one rfl (RV.tmp rfl))
 ·rcases bsel_some h with ⟨hc2, h⟩ | ⟨hc2, h⟩
  ·refine RunC.regionW ?_
   refine zM (r := sl a0.length (a0.map i64)) rfl rfl rfl rfl rfl ?_
   refine zL (r := i64 (a0.length : Int)) rfl rfl rfl (LOp.len_sl und25 rfl rfl) ?_
   refine zL (r := b false) rfl rfl rfl (LOp.eqb (LOp.lss rfl rfl rfl) hc1) ?_
   refine zM (r := b false) rfl rfl rfl rfl rfl ?_
   refine zM (r := sl a0.length (a0.map i64)) rfl rfl rfl rfl rfl ?_
   refine zL (r := i64 (a0.length : Int)) rfl rfl rfl (LOp.len_sl und25 rfl rfl) ?_
   refine zL (r := b true) rfl rfl rfl (LOp.eqb (LOp.gtr rfl rfl rfl) hc2) ?_
   refine zL (r := b true) rfl rfl rfl (LOp.pick_false rfl rfl rfl) ?_
   refine zN ?_
   refine RunC.cond_true rfl rfl ?_
   refine zQ ?_
   refine zA (r := b false) rfl rfl rfl rfl rfl ?_
   refine zN ?_
   refine RunC.ret ?_
   have hq := Option.some.inj h
   subst q0
   exact bodyQ.pure (.inr rfl) rfl (Res.one rfl (RV.tmp rfl))
  ·refine RunC.regionW ?_
   refine zM (r := sl a0.length (a0.map i64)) rfl rfl rfl rfl rfl ?_
   refine zL (r := i64 (a0.length : Int)) rfl rfl rfl (LOp.len_sl und25 rfl rfl) ?_
   refine zL (r := b false) rfl rfl rfl (LOp.eqb (LOp.lss rfl rfl rfl) hc1) ?_
   refine zM (r := b false) rfl rfl rfl rfl rfl ?_
   refine zM (r := sl a0.length (a0.map i64)) rfl rfl rfl rfl rfl ?_
   refine zL (r := i64 (a0.length : Int)) rfl rfl rfl (LOp.len_sl und25 rfl rfl) ?_
   refine zL (r := b false) rfl rfl rfl (LOp.eqb (LOp.gtr rfl rfl rfl) hc2) ?_
   refine zL (r := b false) rfl rfl rfl (LOp.pick_false rfl rfl rfl) ?_
   refine zN ?_
   refine RunC.cond_false rfl rfl ?_
   refine RunC.skip ?_
   refine RunC.seq ?_
   obtain ⟨hm3, h⟩ := need_some h
   refine RunC.regionW ?_
   refine zM (r := sl a0.length (a0.map i64)) rfl rfl rfl rfl rfl ?_
   refine zL (r := i64 (a0.length : Int)) rfl rfl rfl (LOp.len_sl und25 rfl rfl) ?_
   refine ROps.d (r := oref 0 1 0 ((a0.length : Int).toNat)) (fs := [(0, ((List.replicate (a0.length : Int).toNat false).map b))]) (Γ' := [⟨1, some ((List.replicate (a0.length : Int).toNat false).map b)⟩]) rfl rfl rfl (TOp.mkS (g := ⟨0, none⟩) (t := 74) (e := 4) (by_ := 1) (f := b) (zv := false) 0 rfl und74 tin4 rfl siz4 zer4 rfl zel4 rfl rfl rfl hm3) rfl ?_
   refine zA (r := oref 0 1 0 ((a0.length : Int).toNat)) rfl rfl rfl rfl rfl ?_
   refine zN ?_
   refine RunC.seq ?_
   refine zQ ?_
   refine zA (r := i64 0) rfl rfl rfl rfl rfl ?_
   refine zN ?_
   obtain ⟨z2, hz_2, h⟩ := obind_some h
   refine RunC.cutN (fun τ Γ => WeakLe τ [] ∧ DeadLe Γ [⟨1, none⟩] ∧ z2 = .inl ()) ?_ ?_
   ·refine RunC.block (RunC.loop (RunL.loopM (x := z2) (s_l02Order_s1 a0) (fun (s : (List Bool) × Int) τ Γ => s.1.length = (a0.length : Int).toNat ∧ WeakLe τ [(0, sl a0.length (a0.map i64)), (3, oref 0 1 0 ((a0.length : Int).toNat)), (4, i64 s.2)] ∧ DeadLe Γ [⟨1, some (s.1.map b)⟩]) ?_ _ _ _ hz_2 ⟨List.length_replicate, ⟨aR, aR, aR, trivial⟩, ⟨⟨rfl, .inr rfl⟩, trivial⟩⟩))
    rintro ⟨L1, v3⟩ τ2 Γ2 y2_ ⟨hl2, hw2, hd2⟩ h2_ ho2 hr2
    refine RunC.wl (τ' := [(0, sl a0.length (a0.map i64)), (3, oref 0 1 0 ((a0.length : Int).toNat)), (4, i64 v3)]) (Γ' := [⟨1, some (L1.map b)⟩]) hw2 hd2 ?_
    replace hl2 : L1.length = (a0.length : Int).toNat := hl2
    replace h2_ : s_l02Order_b1 a0 L1 v3 = some y2_ := h2_
    unfold s_l02Order_b1 at h2_
    refine RunC.seq ?_
    refine RunC.seq ?_
    rcases bsel_some h2_ with ⟨hc4, h2_⟩ | ⟨hc4, h2_⟩
    ·refine RunC.regionW ?_
     refine zM (r := i64 v3) rfl rfl rfl rfl rfl ?_
     refine zM (r := sl a0.length (a0.map i64)) rfl rfl rfl rfl rfl ?_
     refine zL (r := i64 (a0.length : Int)) rfl rfl rfl (LOp.len_sl und25 rfl rfl) ?_
     refine zL (r := b true) rfl rfl rfl (LOp.eqb (LOp.lss rfl rfl rfl) hc4) ?_
     refine zN ?_
     refine RunC.cond_true rfl rfl ?_
     refine RunC.skip ?_
     refine RunC.seq ?_
     refine RunC.block ?_
     refine RunC.seq ?_
     refine RunC.seq ?_
     obtain ⟨e4, he5, h2_⟩ := obind_some h2_
     obtain ⟨x5, hx6, h2_⟩ := olet_some h2_
     obtain ⟨r6, hf7, h2_⟩ := obind_some h2_
     rcases bsel_some h2_ with ⟨hc8, h2_⟩ | ⟨hc8, h2_⟩
     ·obtain ⟨e7, he9, h2_⟩ := obind_some h2_
      obtain ⟨e8, he10, h2_⟩ := obind_some h2_
      rcases bsel_some h2_ with ⟨hc11, h2_⟩ | ⟨hc11, h2_⟩
      ·refine RunC.regionW ?_
       refine zM (r := sl a0.length (a0.map i64)) rfl rfl rfl rfl rfl ?_
       refine zM (r := i64 v3) rfl rfl rfl rfl rfl ?_
       refine zL (r := ptr [i64 e4]) rfl rfl rfl (LOp.le (LOp.ix (f := i64) und25 siz2 rfl rfl rfl rfl he5) ALe.ptr) ?_
       refine zL (r := i64 e4) rfl rfl rfl (LOp.load1 agg2 rfl rfl) ?_
       refine zM (r := sl a0.length (a0.map i64)) rfl rfl rfl rfl rfl ?_
       refine zL (r := i64 (a0.length : Int)) rfl rfl rfl (LOp.len_sl und25 rfl rfl) ?_
       refine zL (r := i64 x5) rfl rfl rfl (LOp.eqr (LOp.sub rfl rfl rfl) (congrArg (ik .i64) hx6)) ?_
       refine ROps.d (r := b true) (fs := []) (Γ' := [⟨1, some (L1.map b)⟩]) rfl rfl rfl (TOp.eqb (TOp.callB (CallAs.func ent60 rfl rfl) (Bors.cons (Bor.pure rfl) (Bors.cons (Bor.pure rfl) (Bors.cons (Bor.pure rfl) Bors.nil))) rfl rfl (s_l00In_ok e4 0 x5 r6 hf7)) hc8) rfl ?_
       refine zL (r := b false) rfl rfl rfl (LOp.eqb (LOp.not rfl rfl) rfl) ?_
       refine zM (r := b false) rfl rfl rfl rfl rfl ?_
       refine zM (r := oref 0 1 0 ((a0.length : Int).toNat)) rfl rfl rfl rfl rfl ?_
       refine zM (r := sl a0.length (a0.map i64)) rfl rfl rfl rfl rfl ?_
       refine zM (r := i64 v3) rfl rfl rfl rfl rfl ?_
       refine zL (r := ptr [i64 e7]) rfl rfl rfl (LOp.le (LOp.ix (f := i64) und25 siz2 rfl rfl rfl rfl he9) ALe.ptr) ?_
       refine zL (r := i64 e7) rfl rfl rfl (LOp.load1 agg2 rfl rfl) ?_
       refine ROps.d (r := optr 0 1 e7.toNat) (fs := []) (Γ' := [⟨1, some (L1.map b)⟩]) rfl rfl rfl (TOp.ixo und74 siz4 rfl rfl rfl (at_in he10 hl2) rfl) rfl ?_
       refine ROps.d (r := b true) (fs := []) (Γ' := [⟨1, some (L1.map b)⟩]) rfl rfl rfl (TOp.eqb (TOp.load1_o rfl (at_cell he10) agg4 rfl rfl) hc11) rfl ?_
       refine zL (r := b true) rfl rfl rfl (LOp.pick_false rfl rfl rfl) ?_
       refine zN ?_
       refine RunC.wl (τ' := [(0, sl a0.length (a0.map i64)), (3, oref 0 1 0 ((a0.length : Int).toNat)), (4, i64 v3), (32, oref 0 1 0 ((a0.length : Int).toNat)), (33, sl a0.length (a0.map i64)), (34, i64 v3), (35, ptr [i64 e7]), (36, i64 e7), (37, optr 0 1 e7.toNat), (38, b true), (39, b true)]) (Γ' := [⟨1, some (L1.map b)⟩]) ⟨aR, aR, aR, aR, aR, aR, aR, aR, aR, aR, aR, trivial⟩ ⟨⟨rfl, .inr rfl⟩, trivial⟩ ?_
       refine RunC.cond_true rfl rfl ?_
       refine zQ ?_
       refine zA (r := b false) rfl rfl rfl rfl rfl ?_
       refine zN ?_
       refine RunC.ret ?_
       cases Option.some.inj h2_
       have hx3_ := hr2 _ rfl
       subst hx3_
       have hq := Option.some.inj h
       subst q0
       exact bodyQ.pure (.inr rfl) rfl (Res.one rfl (RV.tmp rfl))
      ·refine RunC.regionW ?_
       refine zM (r := sl a0.length (a0.map i64)) rfl rfl rfl rfl rfl ?_
       refine zM (r := i64 v3) rfl rfl rfl rfl rfl ?_
       refine zL (r := ptr [i64 e4]) rfl rfl rfl (LOp.le (LOp.ix (f := i64) und25 siz2 rfl rfl rfl rfl he5) ALe.ptr) ?_
       refine zL (r := i64 e4) rfl rfl rfl (LOp.load1 agg2 rfl rfl) ?_
       refine zM (r := sl a0.length (a0.map i64)) rfl rfl rfl rfl rfl ?_
       refine zL (r := i64 (a0.length : Int)) rfl rfl rfl (LOp.len_sl und25 rfl rfl) ?_
       refine zL (r := i64 x5) rfl rfl rfl (LOp.eqr (LOp.sub rfl rfl rfl) (congrArg (ik .i64) hx6)) ?_
       refine ROps.d (r := b true) (fs := []) (Γ' := [⟨1, some (L1.map b)⟩]) rfl rfl rfl (TOp.eqb (TOp.callB (CallAs.func ent60 rfl rfl) (Bors.cons (Bor.pure rfl) (Bors.cons (Bor.pure rfl) (Bors.cons (Bor.pure rfl) Bors.nil))) rfl rfl (s_l00In_ok e4 0 x5 r6 hf7)) hc8) rfl ?_
       refine zL (r := b false) rfl rfl rfl (LOp.eqb (LOp.not rfl rfl) rfl) ?_
       refine zM (r := b false) rfl rfl rfl rfl rfl ?_
       refine zM (r := oref 0 1 0 ((a0.length : Int).toNat)) rfl rfl rfl rfl rfl ?_
       refine zM (r := sl a0.length (a0.map i64)) rfl rfl rfl rfl rfl ?_
       refine zM (r := i64 v3) rfl rfl rfl rfl rfl ?_
       refine zL (r := ptr [i64 e7]) rfl rfl rfl (LOp.le (LOp.ix (f := i64) und25 siz2 rfl rfl rfl rfl he9) ALe.ptr) ?_
       refine zL (r := i64 e7) rfl rfl rfl (LOp.load1 agg2 rfl rfl) ?_
       refine ROps.d (r := optr 0 1 e7.toNat) (fs := []) (Γ' := [⟨1, some (L1.map b)⟩]) rfl rfl rfl (TOp.ixo und74 siz4 rfl rfl rfl (at_in he10 hl2) rfl) rfl ?_
       refine ROps.d (r := b false) (fs := []) (Γ' := [⟨1, some (L1.map b)⟩]) rfl rfl rfl (TOp.eqb (TOp.load1_o rfl (at_cell he10) agg4 rfl rfl) hc11) rfl ?_
       refine zL (r := b false) rfl rfl rfl (LOp.pick_false rfl rfl rfl) ?_
       refine zN ?_
       refine RunC.wl (τ' := [(0, sl a0.length (a0.map i64)), (3, oref 0 1 0 ((a0.length : Int).toNat)), (4, i64 v3), (32, oref 0 1 0 ((a0.length : Int).toNat)), (33, sl a0.length (a0.map i64)), (34, i64 v3), (35, ptr [i64 e7]), (36, i64 e7), (37, optr 0 1 e7.toNat), (38, b false), (39, b false)]) (Γ' := [⟨1, some (L1.map b)⟩]) ⟨aR, aR, aR, aR, aR, aR, aR, aR, aR, aR, aR, trivial⟩ ⟨⟨rfl, .inr rfl⟩, trivial⟩ ?_
       refine RunC.cond_false rfl rfl ?_
       refine RunC.skip ?_
       obtain ⟨e9, he12, h2_⟩ := obind_some h2_
       obtain ⟨L10, he13, h2_⟩ := obind_some h2_
       refine RunC.regionW ?_
       refine zM (r := oref 0 1 0 ((a0.length : Int).toNat)) rfl rfl rfl rfl rfl ?_
       refine zM (r := sl a0.length (a0.map i64)) rfl rfl rfl rfl rfl ?_
       refine zM (r := i64 v3) rfl rfl rfl rfl rfl ?_
       refine zL (r := ptr [i64 e9]) rfl rfl rfl (LOp.le (LOp.ix (f := i64) und25 siz2 rfl rfl rfl rfl he12) ALe.ptr) ?_
       refine zL (r := i64 e9) rfl rfl rfl (LOp.load1 agg2 rfl rfl) ?_
       refine ROps.d (r := optr 0 1 e9.toNat) (fs := []) (Γ' := [⟨1, some (L1.map b)⟩]) rfl rfl rfl (TOp.ixo und74 siz4 rfl rfl rfl (set_in he13 hl2) rfl) rfl ?_
       refine ROps.st (f := b) (i := e9) (Γ' := [⟨1, some (L10.map b)⟩]) rfl siz4 rfl rfl rfl aR rfl rfl rfl he13 rfl ?_
       refine zN ?_
       obtain ⟨x11, hx14, h2_⟩ := olet_some h2_
       refine RunC.regionW ?_
       refine zM (r := i64 v3) rfl rfl rfl rfl rfl ?_
       refine zL (r := i64 x11) rfl rfl rfl (LOp.eqr (LOp.add rfl rfl rfl) (congrArg (ik .i64) hx14)) ?_
       refine zA (r := i64 x11) rfl rfl rfl rfl rfl ?_
       refine zN ?_
       cases Option.some.inj h2_
       exact ⟨_, rfl, ((setAt?_len he13).trans hl2), ⟨aR, aR, aR, trivial⟩, ⟨⟨rfl, .inr rfl⟩, trivial⟩⟩
     ·refine RunC.regionW ?_
      refine zM (r := sl a0.length (a0.map i64)) rfl rfl rfl rfl rfl ?_
      refine zM (r := i64 v3) rfl rfl rfl rfl rfl ?_
      refine zL (r := ptr [i64 e4]) rfl rfl rfl (LOp.le (LOp.ix (f := i64) und25 siz2 rfl rfl rfl rfl he5) ALe.ptr) ?_
      refine zL (r := i64 e4) rfl rfl rfl (LOp.load1 agg2 rfl rfl) ?_
      refine zM (r := sl a0.length (a0.map i64)) rfl rfl rfl rfl rfl ?_
      refine zL (r := i64 (a0.length : Int)) rfl rfl rfl (LOp.len_sl und25 rfl rfl) ?_
      refine zL (r := i64 x5) rfl rfl rfl (LOp.eqr (LOp.sub rfl rfl rfl) (congrArg (ik .i64) hx6)) ?_
      refine ROps.d (r := b false) (fs := []) (Γ' := [⟨1, some (L1.map b)⟩]) rfl rfl rfl (TOp.eqb (TOp.callB (CallAs.func ent60 rfl rfl) (Bors.cons (Bor.pure rfl) (Bors.cons (Bor.pure rfl) (Bors.cons (Bor.pure rfl) Bors.nil))) rfl rfl (s_l00In_ok e4 0 x5 r6 hf7)) hc8) rfl ?_
      refine zL (r := b true) rfl rfl rfl (LOp.eqb (LOp.not rfl rfl) rfl) ?_
      refine zM (r := b true) rfl rfl rfl rfl rfl ?_
      refine ROps.s rfl rfl rfl ?_
      refine ROps.s rfl rfl rfl ?_
      refine ROps.s rfl rfl rfl ?_
      refine ROps.s rfl rfl rfl ?_
      refine ROps.s rfl rfl rfl ?_
      refine ROps.s rfl rfl rfl ?_
      refine ROps.s rfl rfl rfl ?_
      refine zL (r := b true) rfl rfl rfl (LOp.pick_true rfl rfl rfl) ?_
      refine zN ?_
      refine RunC.wl (τ' := [(0, sl a0.length (a0.map i64)), (3, oref 0 1 0 ((a0.length : Int).toNat)), (4, i64 v3), (39, b true)]) (Γ' := [⟨1, some (L1.map b)⟩]) ⟨aR, aR, aR, aR, trivial⟩ ⟨⟨rfl, .inr rfl⟩, trivial⟩ ?_
      refine RunC.cond_true rfl rfl ?_
      refine zQ ?_
      refine zA (r := b false) rfl rfl rfl rfl rfl ?_
      refine zN ?_
      refine RunC.ret ?_
      cases Option.some.inj h2_
      have hx4_ := hr2 _ rfl
      subst hx4_
      have hq := Option.some.inj h
      subst q0
      exact bodyQ.pure (.inr rfl) rfl (Res.one rfl (RV.tmp rfl))
    ·refine RunC.regionW ?_
     refine zM (r := i64 v3) rfl rfl rfl rfl rfl ?_
     refine zM (r := sl a0.length (a0.map i64)) rfl rfl rfl rfl rfl ?_
     refine zL (r := i64 (a0.length : Int)) rfl rfl rfl (LOp.len_sl und25 rfl rfl) ?_
     refine zL (r := b false) rfl rfl rfl (LOp.eqb (LOp.lss rfl rfl rfl) hc4) ?_
     refine zN ?_
     refine RunC.cond_false rfl rfl ?_
     refine RunC.exit ?_
     cases Option.some.inj h2_
     have hx := ho2 _ rfl
     exact ⟨trivial, ⟨⟨rfl, .inl rfl⟩, trivial⟩, hx⟩
   ·rintro τ5 Γ5 ⟨hw5, hd5, rfl⟩
    refine RunC.wl hw5 hd5 ?_
    replace h : s_l02Order_k1 = some q0 := h
    unfold s_l02Order_k1 at h
    refine zQ ?_
    refine zA (r := b true) rfl rfl rfl rfl rfl ?_
    refine zN ?_
    refine RunC.ret ?_
    have hq := Option.some.inj h
    subst q0
    exact bodyQ.pure (.inr rfl) rfl (Res.one rfl (RV.tmp rfl))
noncomputable def s_l02At (a0 : Int) (a1 : Int) (a2 : List F) (a3 : Int) (a4 : Int) : Option (F) :=
 olet (IntKind.i64.wrap (a3 * a1)) fun (x1 : Int) =>
 olet (IntKind.i64.wrap (x1 + a4)) fun (x2 : Int) =>
 obind (at? a2 x2) fun (e3 : F) =>
 some e3
theorem s_l02At_ok (a0 : Int) (a1 : Int) (a2 : List F) (a3 : Int) (a4 : Int) (q0 : F) (h : s_l02At a0 a1 a2 a3 a4 = some q0) : Ev Try.prog 20 [ptr [i64 a0, i64 a1, sl a2.length (a2.map f32)], i64 a3, i64 a4] [] (f32 q0) [] := by
 refine Ev.start Try.func20 rfl rfl 0 (τ := [(0, ptr [i64 a0, i64 a1, sl a2.length (a2.map f32)]), (1, i64 a3), (2, i64 a4)]) rfl (Γ' := []) rfl (n := 43) rfl (g := 0) rfl (fun _ => rfl) ?_
 unfold s_l02At at h
 refine zQ ?_
 refine zL (r := f32 (some 0)) rfl rfl rfl (LOp.le (LOp.assign rfl rfl) (ALe.fl (by kernel_rfl) (by kernel_rfl))) ?_
 refine zN ?_
 refine RunC.seq ?_
 obtain ⟨x1, hx1, h⟩ := olet_some h
 obtain ⟨x2, hx2, h⟩ := olet_some h
 obtain ⟨e3, he3, h⟩ := obind_some h
 refine RunC.region_draw (Γ' := []) 15 mixed 
  (TR.l (r := ptr [i64 a0, i64 a1, sl a2.length (a2.map f32)]) rfl rfl (LOp.move rfl rfl) <|
  (TR.l (r := ptr [i64 a0, i64 a1, sl a2.length (a2.map f32)]) rfl rfl (LOp.nilCheck_ptr rfl rfl) <|
  (TR.l (r := ptr [sl a2.length (a2.map f32)]) rfl rfl (LOp.fap und31 rfl siz22 rfl rfl rfl) <|
  (TR.l (r := sl a2.length (a2.map f32)) rfl rfl (LOp.load1 agg22 rfl rfl) <|
  (TR.l (r := i64 a3) rfl rfl (LOp.move rfl rfl) <|
  (TR.l (r := ptr [i64 a0, i64 a1, sl a2.length (a2.map f32)]) rfl rfl (LOp.move rfl rfl) <|
  (TR.l (r := ptr [i64 a0, i64 a1, sl a2.length (a2.map f32)]) rfl rfl (LOp.nilCheck_ptr rfl rfl) <|
  (TR.l (r := ptr [i64 a1, sl a2.length (a2.map f32)]) rfl rfl (LOp.fap und31 rfl siz2 rfl rfl rfl) <|
  (TR.l (r := i64 a1) rfl rfl (LOp.load1 agg2 rfl rfl) <|
  (TR.l (r := i64 x1) rfl rfl (LOp.eqr (LOp.mul rfl rfl rfl) (congrArg (ik .i64) hx1)) <|
  (TR.l (r := i64 a4) rfl rfl (LOp.move rfl rfl) <|
  (TR.l (r := i64 x2) rfl rfl (LOp.eqr (LOp.add rfl rfl rfl) (congrArg (ik .i64) hx2)) <|
  (TR.l (r := ptr [f32 e3]) rfl rfl (LOp.le (LOp.ix (f := f32) und22 siz45 rfl rfl rfl rfl he3) ALe.ptr) <|
  (TR.l (r := f32 e3) rfl rfl (LOp.load1 agg45 rfl rfl) <|
  (TR.l (r := f32 e3) rfl rfl (LOp.assign rfl rfl) <|
  TR.nil))))))))))))))) rfl (by kernel_rfl) rfl fills_nil rfl ?_
 iterate 15 refine ROps.dropS ?_
 refine ROps.drop0 ?_
 refine zN ?_
 refine RunC.ret ?_
 have hq := Option.some.inj h
 subst q0
 exact bodyQ.pure (.inr rfl) rfl (Res.one rfl (RV.tmp rfl))
noncomputable def s_l03Is_b1 (a0 : Int) (a1 : Int) (a2 : List F) (v3 : Int) : Option (LR (Int) (Unit) (Bool)) :=
 bsel (decide (v3 < a0)) (
  obind (s_l02At a0 a1 a2 v3 v3) fun (r4 : F) =>
  bsel (feq .f32 r4 (some 0)) (
   some (LR.ret false)) (
   olet (IntKind.i64.wrap (v3 + 1)) fun (x5 : Int) =>
   some (LR.next x5))) (
  some (LR.out ()))
noncomputable def s_l03Is_s1 (a0 : Int) (a1 : Int) (a2 : List F) : (Int) → Option (LR (Int) (Unit) (Bool)) := fun s => s_l03Is_b1 a0 a1 a2 s
noncomputable def s_l03Is_k1  : Option (Bool) :=
 some true
noncomputable def s_l03Is (a0 : Int) (a1 : Int) (a2 : List F) (a3 : List Int) : Option (Bool) :=
 obind (s_l02Square a0 a1 a2) fun (r1 : Bool) =>
 bsel r1 (
  obind (s_l02Order a3) fun (r2 : Bool) =>
  bsel r2 (
   bsel (!decide ((a3.length : Int) = a0)) (
    some false) (
    obind (loopM (s_l03Is_s1 a0 a1 a2) 0) fun z => osum z (fun _ => s_l03Is_k1) (fun r => some r))) (
   some false)) (
  some false)
theorem s_l03Is_ok (a0 : Int) (a1 : Int) (a2 : List F) (a3 : List Int) (q0 : Bool) (h : s_l03Is a0 a1 a2 a3 = some q0) : Ev Try.prog 37 [ptr [i64 a0, i64 a1, sl a2.length (a2.map f32), sl a3.length (a3.map i64)]] [] (b q0) [] := by
 refine Ev.start Try.func37 rfl rfl 0 (τ := [(0, ptr [i64 a0, i64 a1, sl a2.length (a2.map f32), sl a3.length (a3.map i64)])]) rfl (Γ' := []) rfl (n := 93) rfl (g := 0) rfl (fun _ => rfl) ?_
 unfold s_l03Is at h
 refine zQ ?_
 refine zA (r := b false) rfl rfl rfl rfl rfl ?_
 refine zN ?_
 refine RunC.seq ?_
 refine RunC.seq ?_
 obtain ⟨r1, hf1, h⟩ := obind_some h
 rcases bsel_some h with ⟨hc2, h⟩ | ⟨hc2, h⟩
 ·obtain ⟨r2, hf3, h⟩ := obind_some h
  rcases bsel_some h with ⟨hc4, h⟩ | ⟨hc4, h⟩
  ·rcases bsel_some h with ⟨hc5, h⟩ | ⟨hc5, h⟩
   ·refine RunC.region_draw (Γ' := []) 26 mixed 
     (TR.l (r := ptr [i64 a0, i64 a1, sl a2.length (a2.map f32), sl a3.length (a3.map i64)]) rfl rfl (LOp.move rfl rfl) <|
     (TR.l (r := ptr [i64 a0, i64 a1, sl a2.length (a2.map f32), sl a3.length (a3.map i64)]) rfl rfl (LOp.nilCheck_ptr rfl rfl) <|
     (TR.l (r := ptr [i64 a0, i64 a1, sl a2.length (a2.map f32), sl a3.length (a3.map i64)]) rfl rfl (LOp.fap und33 rfl siz31 rfl rfl rfl) <|
     (TR.d (r := b true) (fs := []) rfl rfl (TOp.eqb (TOp.callB (CallAs.func ent47 rfl rfl) (Bors.cons (Bor.ptrT 3 (Bors.cons (Bor.pure rfl) (Bors.cons (Bor.pure rfl) (Bors.cons (Bor.sl (fun _ => rfl)) (Bors.cons (Bor.sl (fun _ => rfl)) Bors.nil)))) rfl) Bors.nil) rfl rfl (s_l02Square_ok a0 a1 a2 r1 hf1)) hc2) <|
     (TR.l (r := b false) rfl rfl (LOp.eqb (LOp.not rfl rfl) rfl) <|
     (TR.l (r := b false) rfl rfl (LOp.move rfl rfl) <|
     (TR.l (r := ptr [i64 a0, i64 a1, sl a2.length (a2.map f32), sl a3.length (a3.map i64)]) rfl rfl (LOp.move rfl rfl) <|
     (TR.l (r := ptr [i64 a0, i64 a1, sl a2.length (a2.map f32), sl a3.length (a3.map i64)]) rfl rfl (LOp.nilCheck_ptr rfl rfl) <|
     (TR.l (r := ptr [sl a3.length (a3.map i64)]) rfl rfl (LOp.fap und33 rfl siz25 rfl rfl rfl) <|
     (TR.l (r := sl a3.length (a3.map i64)) rfl rfl (LOp.load1 agg25 rfl rfl) <|
     (TR.d (r := b true) (fs := []) rfl rfl (TOp.eqb (TOp.callB (CallAs.func ent48 rfl rfl) (Bors.cons (Bor.sl (fun _ => rfl)) Bors.nil) rfl rfl (s_l02Order_ok a3 r2 hf3)) hc4) <|
     (TR.l (r := b false) rfl rfl (LOp.eqb (LOp.not rfl rfl) rfl) <|
     (TR.l (r := b false) rfl rfl (LOp.pick_false rfl rfl rfl) <|
     (TR.l (r := b false) rfl rfl (LOp.move rfl rfl) <|
     (TR.l (r := ptr [i64 a0, i64 a1, sl a2.length (a2.map f32), sl a3.length (a3.map i64)]) rfl rfl (LOp.move rfl rfl) <|
     (TR.l (r := ptr [i64 a0, i64 a1, sl a2.length (a2.map f32), sl a3.length (a3.map i64)]) rfl rfl (LOp.nilCheck_ptr rfl rfl) <|
     (TR.l (r := ptr [sl a3.length (a3.map i64)]) rfl rfl (LOp.fap und33 rfl siz25 rfl rfl rfl) <|
     (TR.l (r := sl a3.length (a3.map i64)) rfl rfl (LOp.load1 agg25 rfl rfl) <|
     (TR.l (r := i64 (a3.length : Int)) rfl rfl (LOp.len_sl und25 rfl rfl) <|
     (TR.l (r := ptr [i64 a0, i64 a1, sl a2.length (a2.map f32), sl a3.length (a3.map i64)]) rfl rfl (LOp.move rfl rfl) <|
     (TR.l (r := ptr [i64 a0, i64 a1, sl a2.length (a2.map f32), sl a3.length (a3.map i64)]) rfl rfl (LOp.nilCheck_ptr rfl rfl) <|
     (TR.l (r := ptr [i64 a0, i64 a1, sl a2.length (a2.map f32), sl a3.length (a3.map i64)]) rfl rfl (LOp.fap und33 rfl siz31 rfl rfl rfl) <|
     (TR.l (r := ptr [i64 a0, i64 a1, sl a2.length (a2.map f32), sl a3.length (a3.map i64)]) rfl rfl (LOp.fap und31 rfl siz2 rfl rfl rfl) <|
     (TR.l (r := i64 a0) rfl rfl (LOp.load1 agg2 rfl rfl) <|
     (TR.l (r := b true) rfl rfl (LOp.eqb (LOp.neq rfl rfl rfl) hc5) <|
     (TR.l (r := b true) rfl rfl (LOp.pick_false rfl rfl rfl) <|
     TR.nil)))))))))))))))))))))))))) rfl (by kernel_rfl) rfl fills_nil rfl ?_
    iterate 26 refine ROps.dropS ?_
    refine ROps.drop0 ?_
    refine zN ?_
    refine RunC.wl (τ' := [(0, ptr [i64 a0, i64 a1, sl a2.length (a2.map f32), sl a3.length (a3.map i64)]), (29, b true)]) (Γ' := []) ⟨aR, aR, trivial⟩ trivial ?_
    refine RunC.cond_true rfl rfl ?_
    refine zQ ?_
    refine zA (r := b false) rfl rfl rfl rfl rfl ?_
    refine zN ?_
    refine RunC.ret ?_
    have hq := Option.some.inj h
    subst q0
    exact bodyQ.pure (.inr rfl) rfl (Res.one rfl (RV.tmp rfl))
   ·refine RunC.region_draw (Γ' := []) 26 mixed 
     (TR.l (r := ptr [i64 a0, i64 a1, sl a2.length (a2.map f32), sl a3.length (a3.map i64)]) rfl rfl (LOp.move rfl rfl) <|
     (TR.l (r := ptr [i64 a0, i64 a1, sl a2.length (a2.map f32), sl a3.length (a3.map i64)]) rfl rfl (LOp.nilCheck_ptr rfl rfl) <|
     (TR.l (r := ptr [i64 a0, i64 a1, sl a2.length (a2.map f32), sl a3.length (a3.map i64)]) rfl rfl (LOp.fap und33 rfl siz31 rfl rfl rfl) <|
     (TR.d (r := b true) (fs := []) rfl rfl (TOp.eqb (TOp.callB (CallAs.func ent47 rfl rfl) (Bors.cons (Bor.ptrT 3 (Bors.cons (Bor.pure rfl) (Bors.cons (Bor.pure rfl) (Bors.cons (Bor.sl (fun _ => rfl)) (Bors.cons (Bor.sl (fun _ => rfl)) Bors.nil)))) rfl) Bors.nil) rfl rfl (s_l02Square_ok a0 a1 a2 r1 hf1)) hc2) <|
     (TR.l (r := b false) rfl rfl (LOp.eqb (LOp.not rfl rfl) rfl) <|
     (TR.l (r := b false) rfl rfl (LOp.move rfl rfl) <|
     (TR.l (r := ptr [i64 a0, i64 a1, sl a2.length (a2.map f32), sl a3.length (a3.map i64)]) rfl rfl (LOp.move rfl rfl) <|
     (TR.l (r := ptr [i64 a0, i64 a1, sl a2.length (a2.map f32), sl a3.length (a3.map i64)]) rfl rfl (LOp.nilCheck_ptr rfl rfl) <|
     (TR.l (r := ptr [sl a3.length (a3.map i64)]) rfl rfl (LOp.fap und33 rfl siz25 rfl rfl rfl) <|
     (TR.l (r := sl a3.length (a3.map i64)) rfl rfl (LOp.load1 agg25 rfl rfl) <|
     (TR.d (r := b true) (fs := []) rfl rfl (TOp.eqb (TOp.callB (CallAs.func ent48 rfl rfl) (Bors.cons (Bor.sl (fun _ => rfl)) Bors.nil) rfl rfl (s_l02Order_ok a3 r2 hf3)) hc4) <|
     (TR.l (r := b false) rfl rfl (LOp.eqb (LOp.not rfl rfl) rfl) <|
     (TR.l (r := b false) rfl rfl (LOp.pick_false rfl rfl rfl) <|
     (TR.l (r := b false) rfl rfl (LOp.move rfl rfl) <|
     (TR.l (r := ptr [i64 a0, i64 a1, sl a2.length (a2.map f32), sl a3.length (a3.map i64)]) rfl rfl (LOp.move rfl rfl) <|
     (TR.l (r := ptr [i64 a0, i64 a1, sl a2.length (a2.map f32), sl a3.length (a3.map i64)]) rfl rfl (LOp.nilCheck_ptr rfl rfl) <|
     (TR.l (r := ptr [sl a3.length (a3.map i64)]) rfl rfl (LOp.fap und33 rfl siz25 rfl rfl rfl) <|
     (TR.l (r := sl a3.length (a3.map i64)) rfl rfl (LOp.load1 agg25 rfl rfl) <|
     (TR.l (r := i64 (a3.length : Int)) rfl rfl (LOp.len_sl und25 rfl rfl) <|
     (TR.l (r := ptr [i64 a0, i64 a1, sl a2.length (a2.map f32), sl a3.length (a3.map i64)]) rfl rfl (LOp.move rfl rfl) <|
     (TR.l (r := ptr [i64 a0, i64 a1, sl a2.length (a2.map f32), sl a3.length (a3.map i64)]) rfl rfl (LOp.nilCheck_ptr rfl rfl) <|
     (TR.l (r := ptr [i64 a0, i64 a1, sl a2.length (a2.map f32), sl a3.length (a3.map i64)]) rfl rfl (LOp.fap und33 rfl siz31 rfl rfl rfl) <|
     (TR.l (r := ptr [i64 a0, i64 a1, sl a2.length (a2.map f32), sl a3.length (a3.map i64)]) rfl rfl (LOp.fap und31 rfl siz2 rfl rfl rfl) <|
     (TR.l (r := i64 a0) rfl rfl (LOp.load1 agg2 rfl rfl) <|
     (TR.l (r := b false) rfl rfl (LOp.eqb (LOp.neq rfl rfl rfl) hc5) <|
     (TR.l (r := b false) rfl rfl (LOp.pick_false rfl rfl rfl) <|
     TR.nil)))))))))))))))))))))))))) rfl (by kernel_rfl) rfl fills_nil rfl ?_
    iterate 26 refine ROps.dropS ?_
    refine ROps.drop0 ?_
    refine zN ?_
    refine RunC.wl (τ' := [(0, ptr [i64 a0, i64 a1, sl a2.length (a2.map f32), sl a3.length (a3.map i64)]), (29, b false)]) (Γ' := []) ⟨aR, aR, trivial⟩ trivial ?_
    refine RunC.cond_false rfl rfl ?_
    refine RunC.skip ?_
    refine RunC.seq ?_
    refine zQ ?_
    refine zA (r := i64 0) rfl rfl rfl rfl rfl ?_
    refine zN ?_
    obtain ⟨z2, hz_2, h⟩ := obind_some h
    refine RunC.cutN (fun τ Γ => WeakLe τ [] ∧ DeadLe Γ [] ∧ z2 = .inl ()) ?_ ?_
    ·refine RunC.block (RunC.loop (RunL.loopM (x := z2) (s_l03Is_s1 a0 a1 a2) (fun (s : Int) τ Γ => WeakLe τ [(0, ptr [i64 a0, i64 a1, sl a2.length (a2.map f32), sl a3.length (a3.map i64)]), (3, i64 s)] ∧ DeadLe Γ []) ?_ _ _ _ hz_2 ⟨⟨aR, aR, trivial⟩, trivial⟩))
     rintro v3 τ2 Γ2 y2_ ⟨hw2, hd2⟩ h2_ ho2 hr2
     refine RunC.wl (τ' := [(0, ptr [i64 a0, i64 a1, sl a2.length (a2.map f32), sl a3.length (a3.map i64)]), (3, i64 v3)]) (Γ' := []) hw2 hd2 ?_
     replace h2_ : s_l03Is_b1 a0 a1 a2 v3 = some y2_ := h2_
     unfold s_l03Is_b1 at h2_
     refine RunC.seq ?_
     refine RunC.seq ?_
     rcases bsel_some h2_ with ⟨hc6, h2_⟩ | ⟨hc6, h2_⟩
     ·refine RunC.regionW ?_
      refine zM (r := i64 v3) rfl rfl rfl rfl rfl ?_
      refine zM (r := ptr [i64 a0, i64 a1, sl a2.length (a2.map f32), sl a3.length (a3.map i64)]) rfl rfl rfl rfl rfl ?_
      refine zL (r := ptr [i64 a0, i64 a1, sl a2.length (a2.map f32), sl a3.length (a3.map i64)]) rfl rfl rfl (LOp.nilCheck_ptr rfl rfl) ?_
      refine zL (r := ptr [i64 a0, i64 a1, sl a2.length (a2.map f32), sl a3.length (a3.map i64)]) rfl rfl rfl (LOp.fap und33 rfl siz31 rfl rfl rfl) ?_
      refine zL (r := ptr [i64 a0, i64 a1, sl a2.length (a2.map f32), sl a3.length (a3.map i64)]) rfl rfl rfl (LOp.fap und31 rfl siz2 rfl rfl rfl) ?_
      refine zL (r := i64 a0) rfl rfl rfl (LOp.load1 agg2 rfl rfl) ?_
      refine zL (r := b true) rfl rfl rfl (LOp.eqb (LOp.lss rfl rfl rfl) hc6) ?_
      refine zN ?_
      refine RunC.cond_true rfl rfl ?_
      refine RunC.skip ?_
      refine RunC.seq ?_
      refine RunC.block ?_
      refine RunC.seq ?_
      obtain ⟨r4, hf7, h2_⟩ := obind_some h2_
      rcases bsel_some h2_ with ⟨hc8, h2_⟩ | ⟨hc8, h2_⟩
      ·refine RunC.regionW ?_
       refine zM (r := ptr [i64 a0, i64 a1, sl a2.length (a2.map f32), sl a3.length (a3.map i64)]) rfl rfl rfl rfl rfl ?_
       refine zL (r := ptr [i64 a0, i64 a1, sl a2.length (a2.map f32), sl a3.length (a3.map i64)]) rfl rfl rfl (LOp.nilCheck_ptr rfl rfl) ?_
       refine zL (r := ptr [i64 a0, i64 a1, sl a2.length (a2.map f32), sl a3.length (a3.map i64)]) rfl rfl rfl (LOp.fap und33 rfl siz31 rfl rfl rfl) ?_
       refine zM (r := i64 v3) rfl rfl rfl rfl rfl ?_
       refine zM (r := i64 v3) rfl rfl rfl rfl rfl ?_
       refine ROps.d (r := f32 r4) (fs := []) (Γ' := []) rfl rfl rfl (TOp.callB (CallAs.func ent20 rfl rfl) (Bors.cons (Bor.ptrT 3 (Bors.cons (Bor.pure rfl) (Bors.cons (Bor.pure rfl) (Bors.cons (Bor.sl (fun _ => rfl)) (Bors.cons (Bor.sl (fun _ => rfl)) Bors.nil)))) rfl) (Bors.cons (Bor.pure rfl) (Bors.cons (Bor.pure rfl) Bors.nil))) rfl rfl (s_l02At_ok a0 a1 a2 v3 v3 r4 hf7)) rfl ?_
       refine zL (r := b true) rfl rfl rfl (LOp.eqb (LOp.feq rfl (OpF.tmp rfl) (OpF.const rfl (by kernel_rfl) (by kernel_rfl))) hc8) ?_
       refine zN ?_
       refine RunC.wl (τ' := [(0, ptr [i64 a0, i64 a1, sl a2.length (a2.map f32), sl a3.length (a3.map i64)]), (3, i64 v3), (45, b true)]) (Γ' := []) ⟨aR, aR, aR, trivial⟩ trivial ?_
       refine RunC.cond_true rfl rfl ?_
       refine zQ ?_
       refine zA (r := b false) rfl rfl rfl rfl rfl ?_
       refine zN ?_
       refine RunC.ret ?_
       cases Option.some.inj h2_
       have hx3_ := hr2 _ rfl
       subst hx3_
       have hq := Option.some.inj h
       subst q0
       exact bodyQ.pure (.inr rfl) rfl (Res.one rfl (RV.tmp rfl))
      ·refine RunC.regionW ?_
       refine zM (r := ptr [i64 a0, i64 a1, sl a2.length (a2.map f32), sl a3.length (a3.map i64)]) rfl rfl rfl rfl rfl ?_
       refine zL (r := ptr [i64 a0, i64 a1, sl a2.length (a2.map f32), sl a3.length (a3.map i64)]) rfl rfl rfl (LOp.nilCheck_ptr rfl rfl) ?_
       refine zL (r := ptr [i64 a0, i64 a1, sl a2.length (a2.map f32), sl a3.length (a3.map i64)]) rfl rfl rfl (LOp.fap und33 rfl siz31 rfl rfl rfl) ?_
       refine zM (r := i64 v3) rfl rfl rfl rfl rfl ?_
       refine zM (r := i64 v3) rfl rfl rfl rfl rfl ?_
       refine ROps.d (r := f32 r4) (fs := []) (Γ' := []) rfl rfl rfl (TOp.callB (CallAs.func ent20 rfl rfl) (Bors.cons (Bor.ptrT 3 (Bors.cons (Bor.pure rfl) (Bors.cons (Bor.pure rfl) (Bors.cons (Bor.sl (fun _ => rfl)) (Bors.cons (Bor.sl (fun _ => rfl)) Bors.nil)))) rfl) (Bors.cons (Bor.pure rfl) (Bors.cons (Bor.pure rfl) Bors.nil))) rfl rfl (s_l02At_ok a0 a1 a2 v3 v3 r4 hf7)) rfl ?_
       refine zL (r := b false) rfl rfl rfl (LOp.eqb (LOp.feq rfl (OpF.tmp rfl) (OpF.const rfl (by kernel_rfl) (by kernel_rfl))) hc8) ?_
       refine zN ?_
       refine RunC.wl (τ' := [(0, ptr [i64 a0, i64 a1, sl a2.length (a2.map f32), sl a3.length (a3.map i64)]), (3, i64 v3), (45, b false)]) (Γ' := []) ⟨aR, aR, aR, trivial⟩ trivial ?_
       refine RunC.cond_false rfl rfl ?_
       refine RunC.skip ?_
       obtain ⟨x5, hx9, h2_⟩ := olet_some h2_
       refine RunC.regionW ?_
       refine zM (r := i64 v3) rfl rfl rfl rfl rfl ?_
       refine zL (r := i64 x5) rfl rfl rfl (LOp.eqr (LOp.add rfl rfl rfl) (congrArg (ik .i64) hx9)) ?_
       refine zA (r := i64 x5) rfl rfl rfl rfl rfl ?_
       refine zN ?_
       cases Option.some.inj h2_
       exact ⟨_, rfl, ⟨aR, aR, trivial⟩, trivial⟩
     ·refine RunC.regionW ?_
      refine zM (r := i64 v3) rfl rfl rfl rfl rfl ?_
      refine zM (r := ptr [i64 a0, i64 a1, sl a2.length (a2.map f32), sl a3.length (a3.map i64)]) rfl rfl rfl rfl rfl ?_
      refine zL (r := ptr [i64 a0, i64 a1, sl a2.length (a2.map f32), sl a3.length (a3.map i64)]) rfl rfl rfl (LOp.nilCheck_ptr rfl rfl) ?_
      refine zL (r := ptr [i64 a0, i64 a1, sl a2.length (a2.map f32), sl a3.length (a3.map i64)]) rfl rfl rfl (LOp.fap und33 rfl siz31 rfl rfl rfl) ?_
      refine zL (r := ptr [i64 a0, i64 a1, sl a2.length (a2.map f32), sl a3.length (a3.map i64)]) rfl rfl rfl (LOp.fap und31 rfl siz2 rfl rfl rfl) ?_
      refine zL (r := i64 a0) rfl rfl rfl (LOp.load1 agg2 rfl rfl) ?_
      refine zL (r := b false) rfl rfl rfl (LOp.eqb (LOp.lss rfl rfl rfl) hc6) ?_
      refine zN ?_
      refine RunC.cond_false rfl rfl ?_
      refine RunC.exit ?_
      cases Option.some.inj h2_
      have hx := ho2 _ rfl
      exact ⟨trivial, trivial, hx⟩
    ·rintro τ4 Γ4 ⟨hw4, hd4, rfl⟩
     refine RunC.wl hw4 hd4 ?_
     replace h : s_l03Is_k1 = some q0 := h
     unfold s_l03Is_k1 at h
     refine zQ ?_
     refine zA (r := b true) rfl rfl rfl rfl rfl ?_
     refine zN ?_
     refine RunC.ret ?_
     have hq := Option.some.inj h
     subst q0
     exact bodyQ.pure (.inr rfl) rfl (Res.one rfl (RV.tmp rfl))
  ·refine RunC.region_draw (Γ' := []) 26 mixed 
    (TR.l (r := ptr [i64 a0, i64 a1, sl a2.length (a2.map f32), sl a3.length (a3.map i64)]) rfl rfl (LOp.move rfl rfl) <|
    (TR.l (r := ptr [i64 a0, i64 a1, sl a2.length (a2.map f32), sl a3.length (a3.map i64)]) rfl rfl (LOp.nilCheck_ptr rfl rfl) <|
    (TR.l (r := ptr [i64 a0, i64 a1, sl a2.length (a2.map f32), sl a3.length (a3.map i64)]) rfl rfl (LOp.fap und33 rfl siz31 rfl rfl rfl) <|
    (TR.d (r := b true) (fs := []) rfl rfl (TOp.eqb (TOp.callB (CallAs.func ent47 rfl rfl) (Bors.cons (Bor.ptrT 3 (Bors.cons (Bor.pure rfl) (Bors.cons (Bor.pure rfl) (Bors.cons (Bor.sl (fun _ => rfl)) (Bors.cons (Bor.sl (fun _ => rfl)) Bors.nil)))) rfl) Bors.nil) rfl rfl (s_l02Square_ok a0 a1 a2 r1 hf1)) hc2) <|
    (TR.l (r := b false) rfl rfl (LOp.eqb (LOp.not rfl rfl) rfl) <|
    (TR.l (r := b false) rfl rfl (LOp.move rfl rfl) <|
    (TR.l (r := ptr [i64 a0, i64 a1, sl a2.length (a2.map f32), sl a3.length (a3.map i64)]) rfl rfl (LOp.move rfl rfl) <|
    (TR.l (r := ptr [i64 a0, i64 a1, sl a2.length (a2.map f32), sl a3.length (a3.map i64)]) rfl rfl (LOp.nilCheck_ptr rfl rfl) <|
    (TR.l (r := ptr [sl a3.length (a3.map i64)]) rfl rfl (LOp.fap und33 rfl siz25 rfl rfl rfl) <|
    (TR.l (r := sl a3.length (a3.map i64)) rfl rfl (LOp.load1 agg25 rfl rfl) <|
    (TR.d (r := b false) (fs := []) rfl rfl (TOp.eqb (TOp.callB (CallAs.func ent48 rfl rfl) (Bors.cons (Bor.sl (fun _ => rfl)) Bors.nil) rfl rfl (s_l02Order_ok a3 r2 hf3)) hc4) <|
    (TR.l (r := b true) rfl rfl (LOp.eqb (LOp.not rfl rfl) rfl) <|
    (TR.l (r := b true) rfl rfl (LOp.pick_false rfl rfl rfl) <|
    (TR.l (r := b true) rfl rfl (LOp.move rfl rfl) <|
    (TR.s rfl rfl <|
    (TR.s rfl rfl <|
    (TR.s rfl rfl <|
    (TR.s rfl rfl <|
    (TR.s rfl rfl <|
    (TR.s rfl rfl <|
    (TR.s rfl rfl <|
    (TR.s rfl rfl <|
    (TR.s rfl rfl <|
    (TR.s rfl rfl <|
    (TR.s rfl rfl <|
    (TR.l (r := b true) rfl rfl (LOp.pick_true rfl rfl rfl) <|
    TR.nil)))))))))))))))))))))))))) rfl (by kernel_rfl) rfl fills_nil rfl ?_
   iterate 26 refine ROps.dropS ?_
   refine ROps.drop0 ?_
   refine zN ?_
   refine RunC.wl (τ' := [(0, ptr [i64 a0, i64 a1, sl a2.length (a2.map f32), sl a3.length (a3.map i64)]), (29, b true)]) (Γ' := []) ⟨aR, aR, trivial⟩ trivial ?_
   refine RunC.cond_true rfl rfl ?_
   refine zQ ?_
   refine zA (r := b false) rfl rfl rfl rfl rfl ?_
   refine zN ?_
   refine RunC.ret ?_
   have hq := Option.some.inj h
   subst q0
   exact bodyQ.pure (.inr rfl) rfl (Res.one rfl (RV.tmp rfl))
 ·refine RunC.region_draw (Γ' := []) 26 mixed 
   (TR.l (r := ptr [i64 a0, i64 a1, sl a2.length (a2.map f32), sl a3.length (a3.map i64)]) rfl rfl (LOp.move rfl rfl) <|
   (TR.l (r := ptr [i64 a0, i64 a1, sl a2.length (a2.map f32), sl a3.length (a3.map i64)]) rfl rfl (LOp.nilCheck_ptr rfl rfl) <|
   (TR.l (r := ptr [i64 a0, i64 a1, sl a2.length (a2.map f32), sl a3.length (a3.map i64)]) rfl rfl (LOp.fap und33 rfl siz31 rfl rfl rfl) <|
   (TR.d (r := b false) (fs := []) rfl rfl (TOp.eqb (TOp.callB (CallAs.func ent47 rfl rfl) (Bors.cons (Bor.ptrT 3 (Bors.cons (Bor.pure rfl) (Bors.cons (Bor.pure rfl) (Bors.cons (Bor.sl (fun _ => rfl)) (Bors.cons (Bor.sl (fun _ => rfl)) Bors.nil)))) rfl) Bors.nil) rfl rfl (s_l02Square_ok a0 a1 a2 r1 hf1)) hc2) <|
   (TR.l (r := b true) rfl rfl (LOp.eqb (LOp.not rfl rfl) rfl) <|
   (TR.l (r := b true) rfl rfl (LOp.move rfl rfl) <|
   (TR.s rfl rfl <|
   (TR.s rfl rfl <|
   (TR.s rfl rfl <|
   (TR.s rfl rfl <|
   (TR.s rfl rfl <|
   (TR.s rfl rfl <|
   (TR.l (r := b true) rfl rfl (LOp.pick_true rfl rfl rfl) <|
   (TR.l (r := b true) rfl rfl (LOp.move rfl rfl) <|
   (TR.s rfl rfl <|
   (TR.s rfl rfl <|
   (TR.s rfl rfl <|
   (TR.s rfl rfl <|
   (TR.s rfl rfl <|
   (TR.s rfl rfl <|
   (TR.s rfl rfl <|
   (TR.s rfl rfl <|
   (TR.s rfl rfl <|
   (TR.s rfl rfl <|
   (TR.s rfl rfl <|
   (TR.l (r := b true) rfl rfl (LOp.pick_true rfl rfl rfl) <|
   TR.nil)))))))))))))))))))))))))) rfl (by kernel_rfl) rfl fills_nil rfl ?_
  iterate 26 refine ROps.dropS ?_
  refine ROps.drop0 ?_
  refine zN ?_
  refine RunC.wl (τ' := [(0, ptr [i64 a0, i64 a1, sl a2.length (a2.map f32), sl a3.length (a3.map i64)]), (29, b true)]) (Γ' := []) ⟨aR, aR, trivial⟩ trivial ?_
  refine RunC.cond_true rfl rfl ?_
  refine zQ ?_
  refine zA (r := b false) rfl rfl rfl rfl rfl ?_
  refine zN ?_
  refine RunC.ret ?_
  have hq := Option.some.inj h
  subst q0
  exact bodyQ.pure (.inr rfl) rfl (Res.one rfl (RV.tmp rfl))
noncomputable def s_l02Vector (a0 : List F) : Option (Bool) :=
 bsel (decide (1 ≤ (a0.length : Int))) (
  bsel (decide ((a0.length : Int) ≤ 256)) (
   obind (s_l02Finite a0) fun (r1 : Bool) =>
   some r1) (
   some false)) (
  some false)
theorem s_l02Vector_ok (a0 : List F) (q0 : Bool) (h : s_l02Vector a0 = some q0) : Ev Try.prog 38 [sl a0.length (a0.map f32)] [] (b q0) [] := by
 refine Ev.start Try.func38 rfl rfl 0 (τ := [(0, sl a0.length (a0.map f32))]) rfl (Γ' := []) rfl (n := 31) rfl (g := 0) rfl (fun _ => rfl) ?_
 unfold s_l02Vector at h
 refine zQ ?_
 refine zA (r := b false) rfl rfl rfl rfl rfl ?_
 refine zN ?_
 refine RunC.seq ?_
 rcases bsel_some h with ⟨hc1, h⟩ | ⟨hc1, h⟩
 ·rcases bsel_some h with ⟨hc2, h⟩ | ⟨hc2, h⟩
  ·obtain ⟨r1, hf3, h⟩ := obind_some h
   refine RunC.regionW ?_
   refine zM (r := sl a0.length (a0.map f32)) rfl rfl rfl rfl rfl ?_
   refine zL (r := i64 (a0.length : Int)) rfl rfl rfl (LOp.len_sl und22 rfl rfl) ?_
   refine zL (r := b true) rfl rfl rfl (LOp.eqb (LOp.geq rfl rfl rfl) hc1) ?_
   refine zM (r := b true) rfl rfl rfl rfl rfl ?_
   refine zM (r := sl a0.length (a0.map f32)) rfl rfl rfl rfl rfl ?_
   refine zL (r := i64 (a0.length : Int)) rfl rfl rfl (LOp.len_sl und22 rfl rfl) ?_
   refine zL (r := b true) rfl rfl rfl (LOp.eqb (LOp.leq rfl rfl rfl) hc2) ?_
   refine zL (r := b true) rfl rfl rfl (LOp.pick_true rfl rfl rfl) ?_
   refine zM (r := b true) rfl rfl rfl rfl rfl ?_
   refine zM (r := sl a0.length (a0.map f32)) rfl rfl rfl rfl rfl ?_
   refine ROps.d (r := b r1) (fs := []) (Γ' := []) rfl rfl rfl (TOp.callB (CallAs.func ent39 rfl rfl) (Bors.cons (Bor.sl (fun _ => rfl)) Bors.nil) rfl rfl (s_l02Finite_ok a0 r1 hf3)) rfl ?_
   refine zL (r := b r1) rfl rfl rfl (LOp.pick_true rfl rfl rfl) ?_
   refine zA (r := b r1) rfl rfl rfl rfl rfl ?_
   refine zN ?_
   refine RunC.ret ?_
   have hq := Option.some.inj h
   subst q0
   exact bodyQ.pure (.inr rfl) rfl (Res.one rfl (RV.tmp rfl))
  ·refine RunC.regionW ?_
   refine zM (r := sl a0.length (a0.map f32)) rfl rfl rfl rfl rfl ?_
   refine zL (r := i64 (a0.length : Int)) rfl rfl rfl (LOp.len_sl und22 rfl rfl) ?_
   refine zL (r := b true) rfl rfl rfl (LOp.eqb (LOp.geq rfl rfl rfl) hc1) ?_
   refine zM (r := b true) rfl rfl rfl rfl rfl ?_
   refine zM (r := sl a0.length (a0.map f32)) rfl rfl rfl rfl rfl ?_
   refine zL (r := i64 (a0.length : Int)) rfl rfl rfl (LOp.len_sl und22 rfl rfl) ?_
   refine zL (r := b false) rfl rfl rfl (LOp.eqb (LOp.leq rfl rfl rfl) hc2) ?_
   refine zL (r := b false) rfl rfl rfl (LOp.pick_true rfl rfl rfl) ?_
   refine zM (r := b false) rfl rfl rfl rfl rfl ?_
   refine ROps.s rfl rfl rfl ?_
   refine ROps.s rfl rfl rfl ?_
   refine zL (r := b false) rfl rfl rfl (LOp.pick_false rfl rfl rfl) ?_
   refine zA (r := b false) rfl rfl rfl rfl rfl ?_
   refine zN ?_
   refine RunC.ret ?_
   have hq := Option.some.inj h
   subst q0
   exact bodyQ.pure (.inr rfl) rfl (Res.one rfl (RV.tmp rfl))
 ·refine RunC.regionW ?_
  refine zM (r := sl a0.length (a0.map f32)) rfl rfl rfl rfl rfl ?_
  refine zL (r := i64 (a0.length : Int)) rfl rfl rfl (LOp.len_sl und22 rfl rfl) ?_
  refine zL (r := b false) rfl rfl rfl (LOp.eqb (LOp.geq rfl rfl rfl) hc1) ?_
  refine zM (r := b false) rfl rfl rfl rfl rfl ?_
  refine ROps.s rfl rfl rfl ?_
  refine ROps.s rfl rfl rfl ?_
  refine ROps.s rfl rfl rfl ?_
  refine zL (r := b false) rfl rfl rfl (LOp.pick_false rfl rfl rfl) ?_
  refine zM (r := b false) rfl rfl rfl rfl rfl ?_
  refine ROps.s rfl rfl rfl ?_
  refine ROps.s rfl rfl rfl ?_
  refine zL (r := b false) rfl rfl rfl (LOp.pick_false rfl rfl rfl) ?_
  refine zA (r := b false) rfl rfl rfl rfl rfl ?_
  refine zN ?_
  refine RunC.ret ?_
  have hq := Option.some.inj h
  subst q0
  exact bodyQ.pure (.inr rfl) rfl (Res.one rfl (RV.tmp rfl))
noncomputable def s_l03Fits (a0 : Int) (a1 : Int) (a2 : List F) (a3 : List Int) (a4 : List F) : Option (Bool) :=
 obind (s_l03Is a0 a1 a2 a3) fun (r1 : Bool) =>
 bsel r1 (
  obind (s_l02Vector a4) fun (r2 : Bool) =>
  bsel r2 (
   some (decide ((a4.length : Int) = a0))) (
   some false)) (
  some false)
theorem s_l03Fits_ok (a0 : Int) (a1 : Int) (a2 : List F) (a3 : List Int) (a4 : List F) (q0 : Bool) (h : s_l03Fits a0 a1 a2 a3 a4 = some q0) : Ev Try.prog 19 [ptr [i64 a0, i64 a1, sl a2.length (a2.map f32), sl a3.length (a3.map i64)], sl a4.length (a4.map f32)] [] (b q0) [] := by
 refine Ev.start Try.func19 rfl rfl 0 (τ := [(0, ptr [i64 a0, i64 a1, sl a2.length (a2.map f32), sl a3.length (a3.map i64)]), (1, sl a4.length (a4.map f32))]) rfl (Γ' := []) rfl (n := 43) rfl (g := 0) rfl (fun _ => rfl) ?_
 unfold s_l03Fits at h
 refine zQ ?_
 refine zA (r := b false) rfl rfl rfl rfl rfl ?_
 refine zN ?_
 refine RunC.seq ?_
 obtain ⟨r1, hf1, h⟩ := obind_some h
 rcases bsel_some h with ⟨hc2, h⟩ | ⟨hc2, h⟩
 ·obtain ⟨r2, hf3, h⟩ := obind_some h
  rcases bsel_some h with ⟨hc4, h⟩ | ⟨hc4, h⟩
  ·refine RunC.regionW ?_
   refine zM (r := ptr [i64 a0, i64 a1, sl a2.length (a2.map f32), sl a3.length (a3.map i64)]) rfl rfl rfl rfl rfl ?_
   refine ROps.d (r := b true) (fs := []) (Γ' := []) rfl rfl rfl (TOp.eqb (TOp.callB (CallAs.func ent37 rfl rfl) (Bors.cons (Bor.ptr (Bors.cons (Bor.pure rfl) (Bors.cons (Bor.pure rfl) (Bors.cons (Bor.sl (fun _ => rfl)) (Bors.cons (Bor.sl (fun _ => rfl)) Bors.nil))))) Bors.nil) rfl rfl (s_l03Is_ok a0 a1 a2 a3 r1 hf1)) hc2) rfl ?_
   refine zM (r := b true) rfl rfl rfl rfl rfl ?_
   refine zM (r := sl a4.length (a4.map f32)) rfl rfl rfl rfl rfl ?_
   refine ROps.d (r := b true) (fs := []) (Γ' := []) rfl rfl rfl (TOp.eqb (TOp.callB (CallAs.func ent38 rfl rfl) (Bors.cons (Bor.sl (fun _ => rfl)) Bors.nil) rfl rfl (s_l02Vector_ok a4 r2 hf3)) hc4) rfl ?_
   refine zL (r := b true) rfl rfl rfl (LOp.pick_true rfl rfl rfl) ?_
   refine zM (r := b true) rfl rfl rfl rfl rfl ?_
   refine zM (r := sl a4.length (a4.map f32)) rfl rfl rfl rfl rfl ?_
   refine zL (r := i64 (a4.length : Int)) rfl rfl rfl (LOp.len_sl und22 rfl rfl) ?_
   refine zM (r := ptr [i64 a0, i64 a1, sl a2.length (a2.map f32), sl a3.length (a3.map i64)]) rfl rfl rfl rfl rfl ?_
   refine zL (r := ptr [i64 a0, i64 a1, sl a2.length (a2.map f32), sl a3.length (a3.map i64)]) rfl rfl rfl (LOp.nilCheck_ptr rfl rfl) ?_
   refine zL (r := ptr [i64 a0, i64 a1, sl a2.length (a2.map f32), sl a3.length (a3.map i64)]) rfl rfl rfl (LOp.fap und33 rfl siz31 rfl rfl rfl) ?_
   refine zL (r := ptr [i64 a0, i64 a1, sl a2.length (a2.map f32), sl a3.length (a3.map i64)]) rfl rfl rfl (LOp.fap und31 rfl siz2 rfl rfl rfl) ?_
   refine zL (r := i64 a0) rfl rfl rfl (LOp.load1 agg2 rfl rfl) ?_
   refine zL (r := b (decide ((a4.length : Int) = a0))) rfl rfl rfl (LOp.eql rfl rfl rfl) ?_
   refine zL (r := b (decide ((a4.length : Int) = a0))) rfl rfl rfl (LOp.pick_true rfl rfl rfl) ?_
   refine zA (r := b (decide ((a4.length : Int) = a0))) rfl rfl rfl rfl rfl ?_
   refine zN ?_
   refine RunC.ret ?_
   have hq := Option.some.inj h
   subst q0
   exact bodyQ.pure (.inr rfl) rfl (Res.one rfl (RV.tmp rfl))
  ·refine RunC.regionW ?_
   refine zM (r := ptr [i64 a0, i64 a1, sl a2.length (a2.map f32), sl a3.length (a3.map i64)]) rfl rfl rfl rfl rfl ?_
   refine ROps.d (r := b true) (fs := []) (Γ' := []) rfl rfl rfl (TOp.eqb (TOp.callB (CallAs.func ent37 rfl rfl) (Bors.cons (Bor.ptr (Bors.cons (Bor.pure rfl) (Bors.cons (Bor.pure rfl) (Bors.cons (Bor.sl (fun _ => rfl)) (Bors.cons (Bor.sl (fun _ => rfl)) Bors.nil))))) Bors.nil) rfl rfl (s_l03Is_ok a0 a1 a2 a3 r1 hf1)) hc2) rfl ?_
   refine zM (r := b true) rfl rfl rfl rfl rfl ?_
   refine zM (r := sl a4.length (a4.map f32)) rfl rfl rfl rfl rfl ?_
   refine ROps.d (r := b false) (fs := []) (Γ' := []) rfl rfl rfl (TOp.eqb (TOp.callB (CallAs.func ent38 rfl rfl) (Bors.cons (Bor.sl (fun _ => rfl)) Bors.nil) rfl rfl (s_l02Vector_ok a4 r2 hf3)) hc4) rfl ?_
   refine zL (r := b false) rfl rfl rfl (LOp.pick_true rfl rfl rfl) ?_
   refine zM (r := b false) rfl rfl rfl rfl rfl ?_
   refine ROps.s rfl rfl rfl ?_
   refine ROps.s rfl rfl rfl ?_
   refine ROps.s rfl rfl rfl ?_
   refine ROps.s rfl rfl rfl ?_
   refine ROps.s rfl rfl rfl ?_
   refine ROps.s rfl rfl rfl ?_
   refine ROps.s rfl rfl rfl ?_
   refine ROps.s rfl rfl rfl ?_
   refine zL (r := b false) rfl rfl rfl (LOp.pick_false rfl rfl rfl) ?_
   refine zA (r := b false) rfl rfl rfl rfl rfl ?_
   refine zN ?_
   refine RunC.ret ?_
   have hq := Option.some.inj h
   subst q0
   exact bodyQ.pure (.inr rfl) rfl (Res.one rfl (RV.tmp rfl))
 ·refine RunC.regionW ?_
  refine zM (r := ptr [i64 a0, i64 a1, sl a2.length (a2.map f32), sl a3.length (a3.map i64)]) rfl rfl rfl rfl rfl ?_
  refine ROps.d (r := b false) (fs := []) (Γ' := []) rfl rfl rfl (TOp.eqb (TOp.callB (CallAs.func ent37 rfl rfl) (Bors.cons (Bor.ptr (Bors.cons (Bor.pure rfl) (Bors.cons (Bor.pure rfl) (Bors.cons (Bor.sl (fun _ => rfl)) (Bors.cons (Bor.sl (fun _ => rfl)) Bors.nil))))) Bors.nil) rfl rfl (s_l03Is_ok a0 a1 a2 a3 r1 hf1)) hc2) rfl ?_
  refine zM (r := b false) rfl rfl rfl rfl rfl ?_
  refine ROps.s rfl rfl rfl ?_
  refine ROps.s rfl rfl rfl ?_
  refine zL (r := b false) rfl rfl rfl (LOp.pick_false rfl rfl rfl) ?_
  refine zM (r := b false) rfl rfl rfl rfl rfl ?_
  refine ROps.s rfl rfl rfl ?_
  refine ROps.s rfl rfl rfl ?_
  refine ROps.s rfl rfl rfl ?_
  refine ROps.s rfl rfl rfl ?_
  refine ROps.s rfl rfl rfl ?_
  refine ROps.s rfl rfl rfl ?_
  refine ROps.s rfl rfl rfl ?_
  refine ROps.s rfl rfl rfl ?_
  refine zL (r := b false) rfl rfl rfl (LOp.pick_false rfl rfl rfl) ?_
  refine zA (r := b false) rfl rfl rfl rfl rfl ?_
  refine zN ?_
  refine RunC.ret ?_
  have hq := Option.some.inj h
  subst q0
  exact bodyQ.pure (.inr rfl) rfl (Res.one rfl (RV.tmp rfl))
noncomputable def s_l02List_0o (a0 : List F) : Option ((Bool × (List F)) ⊕ (Bool × (List F) × (List F))) :=
 obind (s_l02Finite a0) fun (r1 : Bool) =>
 bsel r1 (
  some (Sum.inl (true, a0))) (
  some (Sum.inr (false, a0, ([] : List F))))
theorem s_l02List_0o_ok0 (a0 : List F) (q0 : Bool) (q1 : List F) (h : s_l02List_0o a0 = some (Sum.inl (q0, q1))) : Ev Try.prog 21 [oref 0 0 0 a0.length] [⟨0, some (a0.map f32)⟩] (tup [oref 0 0 0 q1.length, b q0]) [⟨0, some (q1.map f32)⟩] := by
 refine Ev.start Try.func21 rfl rfl 1 (τ := [(0, oref 0 0 0 a0.length)]) rfl (Γ' := [⟨0, some (a0.map f32)⟩, ⟨0, none⟩]) rfl (n := 16) rfl (g := 1) rfl (by decide) ?_
 unfold s_l02List_0o at h
 refine zQ ?_
 refine zA (r := nilsl) rfl rfl rfl rfl rfl ?_
 refine zA (r := b false) rfl rfl rfl rfl rfl ?_
 refine zN ?_
 refine RunC.seq ?_
 refine RunC.seq ?_
 obtain ⟨r1, hf1, h⟩ := obind_some h
 rcases bsel_some h with ⟨hc2, h⟩ | ⟨hc2, h⟩
 ·refine RunC.regionW ?_
  refine zM (r := oref 0 0 0 a0.length) rfl rfl rfl rfl rfl ?_
  refine ROps.d (r := b true) (fs := []) (Γ' := [⟨0, some (a0.map f32)⟩, ⟨0, none⟩]) rfl rfl rfl (TOp.eqb (TOp.callB (CallAs.func ent39 rfl rfl) (Bors.cons (Bor.own (f := f32) (fun _ => rfl) rfl rfl) Bors.nil) rfl rfl (s_l02Finite_ok a0 r1 hf1)) hc2) rfl ?_
  refine zL (r := b false) rfl rfl rfl (LOp.eqb (LOp.not rfl rfl) rfl) ?_
  refine zN ?_
  refine RunC.cond_false rfl rfl ?_
  refine RunC.skip ?_
  refine zQ ?_
  refine zM (r := oref 0 0 0 a0.length) rfl rfl rfl rfl rfl ?_
  refine zA (r := oref 0 0 0 a0.length) rfl rfl rfl rfl rfl ?_
  refine zA (r := b true) rfl rfl rfl rfl rfl ?_
  refine zN ?_
  refine RunC.ret ?_
  have hq := Option.some.inj h
  have hq := Sum.inl.inj hq
  obtain ⟨hq0, hq⟩ := Prod.mk.inj hq
  subst q0
  subst q1
  exact bodyQ.mk (r' := tup [oref 0 0 0 a0.length, b true]) [(0, 0)] (.inr rfl) rfl (show List.Nodup [0] from by decide) rfl rfl (Res.two rfl (RV.tmp rfl) (RV.tmp rfl)) (SelL.arr (f := f32) (fun _ => rfl) rfl trivial)
 ·refine RunC.regionW ?_
  refine zM (r := oref 0 0 0 a0.length) rfl rfl rfl rfl rfl ?_
  refine ROps.d (r := b false) (fs := []) (Γ' := [⟨0, some (a0.map f32)⟩, ⟨0, none⟩]) rfl rfl rfl (TOp.eqb (TOp.callB (CallAs.func ent39 rfl rfl) (Bors.cons (Bor.own (f := f32) (fun _ => rfl) rfl rfl) Bors.nil) rfl rfl (s_l02Finite_ok a0 r1 hf1)) hc2) rfl ?_
  refine zL (r := b true) rfl rfl rfl (LOp.eqb (LOp.not rfl rfl) rfl) ?_
  refine zN ?_
  refine RunC.cond_true rfl rfl ?_
  refine zQ ?_
  refine zA (r := nilsl) rfl rfl rfl rfl rfl ?_
  refine zA (r := b false) rfl rfl rfl rfl rfl ?_
  refine zN ?_
  cases Option.some.inj h
theorem s_l02List_0o_ok1 (a0 : List F) (q0 : Bool) (q1 : List F) (q2 : List F) (h : s_l02List_0o a0 = some (Sum.inr (q0, q1, q2))) : Ev Try.prog 21 [oref 0 0 0 a0.length] [⟨0, some (a0.map f32)⟩] (tup [oref 1 0 0 q2.length, b q0]) [⟨0, some (q1.map f32)⟩, ⟨0, some (q2.map f32)⟩] := by
 refine Ev.start Try.func21 rfl rfl 1 (τ := [(0, oref 0 0 0 a0.length)]) rfl (Γ' := [⟨0, some (a0.map f32)⟩, ⟨0, none⟩]) rfl (n := 16) rfl (g := 1) rfl (by decide) ?_
 unfold s_l02List_0o at h
 refine zQ ?_
 refine zA (r := nilsl) rfl rfl rfl rfl rfl ?_
 refine zA (r := b false) rfl rfl rfl rfl rfl ?_
 refine zN ?_
 refine RunC.seq ?_
 refine RunC.seq ?_
 obtain ⟨r1, hf1, h⟩ := obind_some h
 rcases bsel_some h with ⟨hc2, h⟩ | ⟨hc2, h⟩
 ·refine RunC.regionW ?_
  refine zM (r := oref 0 0 0 a0.length) rfl rfl rfl rfl rfl ?_
  refine ROps.d (r := b true) (fs := []) (Γ' := [⟨0, some (a0.map f32)⟩, ⟨0, none⟩]) rfl rfl rfl (TOp.eqb (TOp.callB (CallAs.func ent39 rfl rfl) (Bors.cons (Bor.own (f := f32) (fun _ => rfl) rfl rfl) Bors.nil) rfl rfl (s_l02Finite_ok a0 r1 hf1)) hc2) rfl ?_
  refine zL (r := b false) rfl rfl rfl (LOp.eqb (LOp.not rfl rfl) rfl) ?_
  refine zN ?_
  refine RunC.cond_false rfl rfl ?_
  refine RunC.skip ?_
  refine zQ ?_
  refine zM (r := oref 0 0 0 a0.length) rfl rfl rfl rfl rfl ?_
  refine zA (r := oref 0 0 0 a0.length) rfl rfl rfl rfl rfl ?_
  refine zA (r := b true) rfl rfl rfl rfl rfl ?_
  refine zN ?_
  cases Option.some.inj h
 ·refine RunC.regionW ?_
  refine zM (r := oref 0 0 0 a0.length) rfl rfl rfl rfl rfl ?_
  refine ROps.d (r := b false) (fs := []) (Γ' := [⟨0, some (a0.map f32)⟩, ⟨0, none⟩]) rfl rfl rfl (TOp.eqb (TOp.callB (CallAs.func ent39 rfl rfl) (Bors.cons (Bor.own (f := f32) (fun _ => rfl) rfl rfl) Bors.nil) rfl rfl (s_l02Finite_ok a0 r1 hf1)) hc2) rfl ?_
  refine zL (r := b true) rfl rfl rfl (LOp.eqb (LOp.not rfl rfl) rfl) ?_
  refine zN ?_
  refine RunC.cond_true rfl rfl ?_
  refine zQ ?_
  refine zA (r := nilsl) rfl rfl rfl rfl rfl ?_
  refine zA (r := b false) rfl rfl rfl rfl rfl ?_
  refine zN ?_
  refine RunC.nil_slot (Γ' := [⟨0, some (a0.map f32)⟩, ⟨1, some (([] : List F).map f32)⟩]) 2 1 rfl rfl rfl ?_
  refine RunC.ret ?_
  have hq := Option.some.inj h
  have hq := Sum.inr.inj hq
  obtain ⟨hq0, hq⟩ := Prod.mk.inj hq
  obtain ⟨hq1, hq⟩ := Prod.mk.inj hq
  subst q0
  subst q1
  subst q2
  exact bodyQ.mk (r' := tup [oref 1 1 0 (([] : List F).length), b false]) [(0, 0), (1, 1)] (.inr rfl) rfl (show List.Nodup [0, 1] from by decide) rfl rfl (Res.eq (Res.two rfl (RV.tmp rfl) (RV.tmp rfl)) (by rw [(show ([] : List F).length = 0 from rfl)] <;> rfl)) (SelL.arr (f := f32) (fun _ => rfl) rfl (SelL.arr0 (f := f32) (fun _ => rfl) rfl trivial))
noncomputable def s_FactorSolveFlipped_b2 (a0 : Int) (a1 : Int) (a2 : List F) (L4 : List F) (v5 : Int) (y7 : F) (v8 : Int) : Option (LR (F × Int) (F) (Bool × (List F))) :=
 bsel (decide (v8 < v5)) (
  obind (s_l02At a0 a1 a2 v8 v5) fun (r9 : F) =>
  obind (at? L4 v8) fun (e10 : F) =>
  olet (fop .mul .f32 r9 e10) fun (x11 : F) =>
  olet (fop .sub .f32 y7 x11) fun (x12 : F) =>
  olet (IntKind.i64.wrap (v8 + 1)) fun (x13 : Int) =>
  some (LR.next (x12, x13))) (
  some (LR.out y7))
noncomputable def s_FactorSolveFlipped_s2 (a0 : Int) (a1 : Int) (a2 : List F) (L4 : List F) (v5 : Int) : (F × Int) → Option (LR (F × Int) (F) (Bool × (List F))) := fun s => s_FactorSolveFlipped_b2 a0 a1 a2 L4 v5 s.1 s.2
noncomputable def s_FactorSolveFlipped_k2 (a0 : Int) (a1 : Int) (a2 : List F) (L4 : List F) (v5 : Int) (y14 : F) : Option (LR ((List F) × Int) ((List F)) (Bool × (List F))) :=
 obind (s_l02At a0 a1 a2 v5 v5) fun (r15 : F) =>
 olet (fop .quo .f32 y14 r15) fun (x16 : F) =>
 need (apok 4 L4.length 1) <|
 olet (IntKind.i64.wrap (v5 + 1)) fun (x17 : Int) =>
 some (LR.next ((L4 ++ ([x16] : List F)), x17))
noncomputable def s_FactorSolveFlipped_b3 (a0 : Int) (a1 : Int) (a2 : List F) (a4 : List F) (L4 : List F) (v5 : Int) : Option (LR ((List F) × Int) ((List F)) (Bool × (List F))) :=
 bsel (decide (v5 < a0)) (
  obind (at? a4 v5) fun (e6 : F) =>
  obind (loopM (s_FactorSolveFlipped_s2 a0 a1 a2 L4 v5) (e6, 0)) fun z => osum z (fun e => s_FactorSolveFlipped_k2 a0 a1 a2 L4 v5 e) (fun r => some (LR.ret r))) (
  some (LR.out L4))
noncomputable def s_FactorSolveFlipped_s3 (a0 : Int) (a1 : Int) (a2 : List F) (a4 : List F) : ((List F) × Int) → Option (LR ((List F) × Int) ((List F)) (Bool × (List F))) := fun s => s_FactorSolveFlipped_b3 a0 a1 a2 a4 s.1 s.2
noncomputable def s_FactorSolveFlipped_b5 (a0 : Int) (a1 : Int) (a2 : List F) (L22 : List F) (v26 : Int) (y29 : F) (v30 : Int) : Option (LR (F × Int) (F) (Bool × (List F))) :=
 bsel (decide (v30 < a0)) (
  obind (s_l02At a0 a1 a2 v30 v26) fun (r31 : F) =>
  obind (at? L22 v30) fun (e32 : F) =>
  olet (fop .mul .f32 r31 e32) fun (x33 : F) =>
  olet (fop .sub .f32 y29 x33) fun (x34 : F) =>
  olet (IntKind.i64.wrap (v30 + 1)) fun (x35 : Int) =>
  some (LR.next (x34, x35))) (
  some (LR.out y29))
noncomputable def s_FactorSolveFlipped_s5 (a0 : Int) (a1 : Int) (a2 : List F) (L22 : List F) (v26 : Int) : (F × Int) → Option (LR (F × Int) (F) (Bool × (List F))) := fun s => s_FactorSolveFlipped_b5 a0 a1 a2 L22 v26 s.1 s.2
noncomputable def s_FactorSolveFlipped_k5 (a3 : List Int) (L22 : List F) (L24 : List F) (v26 : Int) (y38 : F) : Option (LR ((List F) × (List F) × Int) ((List F)) (Bool × (List F))) :=
 obind (setAt? L22 v26 y38) fun (L39 : List F) =>
 obind (at? a3 v26) fun (e40 : Int) =>
 obind (setAt? L24 e40 y38) fun (L41 : List F) =>
 olet (IntKind.i64.wrap (v26 - 1)) fun (x42 : Int) =>
 some (LR.next (L39, L41, x42))
noncomputable def s_FactorSolveFlipped_b6 (a0 : Int) (a1 : Int) (a2 : List F) (a3 : List Int) (L22 : List F) (L24 : List F) (v26 : Int) : Option (LR ((List F) × (List F) × Int) ((List F)) (Bool × (List F))) :=
 bsel (decide (0 ≤ v26)) (
  obind (at? L22 v26) fun (e27 : F) =>
  olet (IntKind.i64.wrap (v26 + 1)) fun (x28 : Int) =>
  obind (loopM (s_FactorSolveFlipped_s5 a0 a1 a2 L22 v26) (e27, x28)) fun z => osum z (fun e => s_FactorSolveFlipped_k5 a3 L22 L24 v26 e) (fun r => some (LR.ret r))) (
  some (LR.out L24))
noncomputable def s_FactorSolveFlipped_s6 (a0 : Int) (a1 : Int) (a2 : List F) (a3 : List Int) : ((List F) × (List F) × Int) → Option (LR ((List F) × (List F) × Int) ((List F)) (Bool × (List F))) := fun s => s_FactorSolveFlipped_b6 a0 a1 a2 a3 s.1 s.2.1 s.2.2
noncomputable def s_FactorSolveFlipped_k6 (a0 : Int) (L43 : List F) : Option (Bool × (List F)) :=
 obind (s_l02List_0o L43) (fun z => osum z (fun y => obind2 (some y) fun (r45 : Bool) (r46 : List F) =>
  need (decide (r46.length = a0.toNat)) <|
  some (r45, r46)) (fun y => obind3 (some y) fun (r47 : Bool) (r48 : List F) (r49 : List F) =>
  need (decide (r48.length = a0.toNat)) <|
  some (r47, r49)))
noncomputable def s_FactorSolveFlipped_k3 (a0 : Int) (a1 : Int) (a2 : List F) (a3 : List Int) (L20 : List F) : Option (Bool × (List F)) :=
 need (mkok 4 a0) <|
 olet (IntKind.i64.wrap (a0 - 1)) fun (x21 : Int) =>
 obind (loopM (s_FactorSolveFlipped_s6 a0 a1 a2 a3) (L20, (List.replicate a0.toNat (some 0)), x21)) fun z => osum z (fun e => s_FactorSolveFlipped_k6 a0 e) (fun r => some r)
noncomputable def s_FactorSolveFlipped (a0 : Int) (a1 : Int) (a2 : List F) (a3 : List Int) (a4 : List F) : Option (Bool × (List F)) :=
 obind (s_l03Fits a0 a1 a2 a3 a4) fun (r1 : Bool) =>
 bsel r1 (
  obind (loopM (s_FactorSolveFlipped_s3 a0 a1 a2 a4) (([] : List F), 0)) fun z => osum z (fun e => s_FactorSolveFlipped_k3 a0 a1 a2 a3 e) (fun r => some r)) (
  some (false, ([] : List F)))
theorem s_FactorSolveFlipped_ok (a0 : Int) (a1 : Int) (a2 : List F) (a3 : List Int) (a4 : List F) (q0 : Bool) (q1 : List F) (h : s_FactorSolveFlipped a0 a1 a2 a3 a4 = some (q0, q1)) : Ev Try.prog 6 [agg [i64 a0, i64 a1, sl a2.length (a2.map f32), sl a3.length (a3.map i64)], sl a4.length (a4.map f32)] [] (tup [oref 0 0 0 q1.length, b q0]) [⟨0, some (q1.map f32)⟩] := by
 refine Ev.start Try.func6 rfl rfl 2 (τ := [(0, agg [i64 a0, i64 a1, sl a2.length (a2.map f32), sl a3.length (a3.map i64)]), (1, sl a4.length (a4.map f32))]) rfl (Γ' := [⟨0, none⟩, ⟨0, none⟩]) rfl (n := 205) rfl (g := 0) rfl (fun _ => rfl) ?_
 unfold s_FactorSolveFlipped at h
 refine zQ ?_
 refine ROps.d (r := ptr [i64 a0, i64 a1, sl a2.length (a2.map f32), sl a3.length (a3.map i64)]) (fs := []) (Γ' := [⟨0, none⟩, ⟨0, none⟩]) rfl rfl rfl (TOp.box_s rfl rfl rfl) rfl ?_
 refine zA (r := nilsl) rfl rfl rfl rfl rfl ?_
 refine zA (r := b false) rfl rfl rfl rfl rfl ?_
 refine zN ?_
 refine RunC.seq ?_
 refine RunC.seq ?_
 obtain ⟨r1, hf1, h⟩ := obind_some h
 rcases bsel_some h with ⟨hc2, h⟩ | ⟨hc2, h⟩
 ·refine RunC.regionW ?_
  refine zM (r := sl a4.length (a4.map f32)) rfl rfl rfl rfl rfl ?_
  refine ROps.d (r := b true) (fs := []) (Γ' := [⟨0, none⟩, ⟨0, none⟩]) rfl rfl rfl (TOp.eqb (TOp.callB (CallAs.func ent19 rfl rfl) (Bors.cons (Bor.ptr (Bors.cons (Bor.pure rfl) (Bors.cons (Bor.pure rfl) (Bors.cons (Bor.sl (fun _ => rfl)) (Bors.cons (Bor.sl (fun _ => rfl)) Bors.nil))))) (Bors.cons (Bor.sl (fun _ => rfl)) Bors.nil)) rfl rfl (s_l03Fits_ok a0 a1 a2 a3 a4 r1 hf1)) hc2) rfl ?_
  refine zL (r := b false) rfl rfl rfl (LOp.eqb (LOp.not rfl rfl) rfl) ?_
  refine zN ?_
  refine RunC.cond_false rfl rfl ?_
  refine RunC.skip ?_
  refine zQ ?_
  refine zL (r := ptr [i64 a0, i64 a1, sl a2.length (a2.map f32), sl a3.length (a3.map i64)]) rfl rfl rfl (LOp.fap und33 rfl siz31 rfl rfl rfl) ?_
  refine zL (r := ptr [i64 a0, i64 a1, sl a2.length (a2.map f32), sl a3.length (a3.map i64)]) rfl rfl rfl (LOp.fap und31 rfl siz2 rfl rfl rfl) ?_
  refine zL (r := i64 a0) rfl rfl rfl (LOp.load1 agg2 rfl rfl) ?_
  refine zA (r := i64 a0) rfl rfl rfl rfl rfl ?_
  refine zN ?_
  refine zQ ?_
  refine ROps.d (r := oref 0 1 0 0) (fs := [(0, (([] : List F).map f32))]) (Γ' := [⟨1, some (([] : List F).map f32)⟩, ⟨0, none⟩]) rfl rfl rfl (TOp.buildSlice_o (g := ⟨0, none⟩) (za := f32 (some 0)) (qs := []) 0 rfl und22 siz45 zer45 rfl zel45 rfl rfl trivial rfl) rfl ?_
  refine zA (r := oref 0 1 0 0) rfl rfl rfl rfl rfl ?_
  refine zN ?_
  refine RunC.seq ?_
  refine zQ ?_
  refine zA (r := i64 0) rfl rfl rfl rfl rfl ?_
  refine zN ?_
  obtain ⟨z7, hz_7, h⟩ := obind_some h
  refine RunC.cutN (fun τ Γ => ∃ (L20 : List F) (u18 : Nat) (u19 : Nat), WeakLe τ [(2, ptr [i64 a0, i64 a1, sl a2.length (a2.map f32), sl a3.length (a3.map i64)]), (6, i64 a0), (7, oref 0 u18 0 L20.length)] ∧ DeadLe Γ [⟨u18, some (L20.map f32)⟩, ⟨u19, none⟩] ∧ z7 = .inl L20) ?_ ?_
  ·refine RunC.block (RunC.loop (RunL.loopM (x := z7) (s_FactorSolveFlipped_s3 a0 a1 a2 a4) (fun (s : (List F) × Int) τ Γ => ∃ (u2 : Nat) (u3 : Nat), WeakLe τ [(1, sl a4.length (a4.map f32)), (2, ptr [i64 a0, i64 a1, sl a2.length (a2.map f32), sl a3.length (a3.map i64)]), (6, i64 a0), (7, oref 0 u2 0 s.1.length), (8, i64 s.2)] ∧ DeadLe Γ [⟨u2, some (s.1.map f32)⟩, ⟨u3, none⟩]) ?_ _ _ _ hz_7 ⟨1, 0, ⟨aR, aR, aR, aR, aR, trivial⟩, ⟨⟨rfl, .inr rfl⟩, ⟨rfl, .inl rfl⟩, trivial⟩⟩))
   rintro ⟨L4, v5⟩ τ7 Γ7 y7_ ⟨u2, u3, hw7, hd7⟩ h7_ ho7 hr7
   refine RunC.wl (τ' := [(1, sl a4.length (a4.map f32)), (2, ptr [i64 a0, i64 a1, sl a2.length (a2.map f32), sl a3.length (a3.map i64)]), (6, i64 a0), (7, oref 0 u2 0 L4.length), (8, i64 v5)]) (Γ' := [⟨u2, some (L4.map f32)⟩, ⟨u3, none⟩]) hw7 hd7 ?_
   replace h7_ : s_FactorSolveFlipped_b3 a0 a1 a2 a4 L4 v5 = some y7_ := h7_
   unfold s_FactorSolveFlipped_b3 at h7_
   refine RunC.seq ?_
   refine RunC.seq ?_
   rcases bsel_some h7_ with ⟨hc3, h7_⟩ | ⟨hc3, h7_⟩
   ·refine RunC.regionW ?_
    refine zM (r := i64 v5) rfl rfl rfl rfl rfl ?_
    refine zM (r := i64 a0) rfl rfl rfl rfl rfl ?_
    refine zL (r := b true) rfl rfl rfl (LOp.eqb (LOp.lss rfl rfl rfl) hc3) ?_
    refine zN ?_
    refine RunC.cond_true rfl rfl ?_
    refine RunC.skip ?_
    refine RunC.seq ?_
    refine RunC.block ?_
    refine RunC.seq ?_
    obtain ⟨e6, he4, h7_⟩ := obind_some h7_
    refine RunC.regionW ?_
    refine zM (r := sl a4.length (a4.map f32)) rfl rfl rfl rfl rfl ?_
    refine zM (r := i64 v5) rfl rfl rfl rfl rfl ?_
    refine zL (r := ptr [f32 e6]) rfl rfl rfl (LOp.le (LOp.ix (f := f32) und22 siz45 rfl rfl rfl rfl he4) ALe.ptr) ?_
    refine zL (r := f32 e6) rfl rfl rfl (LOp.load1 agg45 rfl rfl) ?_
    refine zA (r := f32 e6) rfl rfl rfl rfl rfl ?_
    refine zN ?_
    refine RunC.seq ?_
    refine zQ ?_
    refine zA (r := i64 0) rfl rfl rfl rfl rfl ?_
    refine zN ?_
    obtain ⟨z8, hz_8, h7_⟩ := obind_some h7_
    refine RunC.cutN (fun τ Γ => ∃ (y14 : F), WeakLe τ [(1, sl a4.length (a4.map f32)), (2, ptr [i64 a0, i64 a1, sl a2.length (a2.map f32), sl a3.length (a3.map i64)]), (6, i64 a0), (7, oref 0 u2 0 L4.length), (8, i64 v5), (9, f32 y14)] ∧ DeadLe Γ [⟨u2, some (L4.map f32)⟩, ⟨u3, none⟩] ∧ z8 = .inl y14) ?_ ?_
    ·refine RunC.block (RunC.loop (RunL.loopM (x := z8) (s_FactorSolveFlipped_s2 a0 a1 a2 L4 v5) (fun (s : F × Int) τ Γ => WeakLe τ [(1, sl a4.length (a4.map f32)), (2, ptr [i64 a0, i64 a1, sl a2.length (a2.map f32), sl a3.length (a3.map i64)]), (6, i64 a0), (7, oref 0 u2 0 L4.length), (8, i64 v5), (9, f32 s.1), (10, i64 s.2)] ∧ DeadLe Γ [⟨u2, some (L4.map f32)⟩, ⟨u3, none⟩]) ?_ _ _ _ hz_8 ⟨⟨aR, aR, aR, aR, aR, aR, aR, trivial⟩, ⟨⟨rfl, .inr rfl⟩, ⟨rfl, .inl rfl⟩, trivial⟩⟩))
     rintro ⟨y7, v8⟩ τ8 Γ8 y8_ ⟨hw8, hd8⟩ h8_ ho8 hr8
     refine RunC.wl (τ' := [(1, sl a4.length (a4.map f32)), (2, ptr [i64 a0, i64 a1, sl a2.length (a2.map f32), sl a3.length (a3.map i64)]), (6, i64 a0), (7, oref 0 u2 0 L4.length), (8, i64 v5), (9, f32 y7), (10, i64 v8)]) (Γ' := [⟨u2, some (L4.map f32)⟩, ⟨u3, none⟩]) hw8 hd8 ?_
     replace h8_ : s_FactorSolveFlipped_b2 a0 a1 a2 L4 v5 y7 v8 = some y8_ := h8_
     unfold s_FactorSolveFlipped_b2 at h8_
     refine RunC.seq ?_
     refine RunC.seq ?_
     rcases bsel_some h8_ with ⟨hc5, h8_⟩ | ⟨hc5, h8_⟩
     ·refine RunC.regionW ?_
      refine zM (r := i64 v8) rfl rfl rfl rfl rfl ?_
      refine zM (r := i64 v5) rfl rfl rfl rfl rfl ?_
      refine zL (r := b true) rfl rfl rfl (LOp.eqb (LOp.lss rfl rfl rfl) hc5) ?_
      refine zN ?_
      refine RunC.cond_true rfl rfl ?_
      refine RunC.skip ?_
      refine RunC.seq ?_
      refine RunC.block ?_
      obtain ⟨r9, hf6, h8_⟩ := obind_some h8_
      obtain ⟨e10, he7, h8_⟩ := obind_some h8_
      obtain ⟨x11, hx8, h8_⟩ := olet_some h8_
      obtain ⟨x12, hx9, h8_⟩ := olet_some h8_
      refine RunC.region_draw (Γ' := [⟨u2, some (L4.map f32)⟩, ⟨u3, none⟩]) 12 mixed 
       (TR.l (r := f32 y7) rfl rfl (LOp.move rfl rfl) <|
       (TR.l (r := ptr [i64 a0, i64 a1, sl a2.length (a2.map f32), sl a3.length (a3.map i64)]) rfl rfl (LOp.fap und33 rfl siz31 rfl rfl rfl) <|
       (TR.l (r := i64 v8) rfl rfl (LOp.move rfl rfl) <|
       (TR.l (r := i64 v5) rfl rfl (LOp.move rfl rfl) <|
       (TR.d (r := f32 r9) (fs := []) rfl rfl (TOp.callB (CallAs.func ent20 rfl rfl) (Bors.cons (Bor.ptrT 3 (Bors.cons (Bor.pure rfl) (Bors.cons (Bor.pure rfl) (Bors.cons (Bor.sl (fun _ => rfl)) (Bors.cons (Bor.sl (fun _ => rfl)) Bors.nil)))) rfl) (Bors.cons (Bor.pure rfl) (Bors.cons (Bor.pure rfl) Bors.nil))) rfl rfl (s_l02At_ok a0 a1 a2 v8 v5 r9 hf6)) <|
       (TR.l (r := oref 0 u2 0 L4.length) rfl rfl (LOp.move rfl rfl) <|
       (TR.l (r := i64 v8) rfl rfl (LOp.move rfl rfl) <|
       (TR.d (r := optr 0 u2 v8.toNat) (fs := []) rfl rfl (TOp.ixo und22 siz45 rfl rfl rfl (at_in he7 rfl) rfl) <|
       (TR.d (r := f32 e10) (fs := []) rfl rfl (TOp.load1_o rfl (at_cell he7) agg45 rfl rfl) <|
       (TR.d (r := f32 x11) (fs := []) rfl rfl (TOp.eqr (TOp.fop (.inr (.inr (.inl rfl))) rfl (OpF.tmp rfl) (OpF.tmp rfl)) (congrArg (f .f32) hx8)) <|
       (TR.d (r := f32 x12) (fs := []) rfl rfl (TOp.eqr (TOp.fop (.inr (.inl rfl)) rfl (OpF.tmp rfl) (OpF.tmp rfl)) (congrArg (f .f32) hx9)) <|
       (TR.l (r := f32 x12) rfl rfl (LOp.assign rfl rfl) <|
       TR.nil)))))))))))) rfl (by kernel_rfl) rfl fills_nil rfl ?_
      iterate 12 refine ROps.dropS ?_
      refine ROps.drop0 ?_
      refine zN ?_
      refine RunC.wl (τ' := [(1, sl a4.length (a4.map f32)), (2, ptr [i64 a0, i64 a1, sl a2.length (a2.map f32), sl a3.length (a3.map i64)]), (6, i64 a0), (7, oref 0 u2 0 L4.length), (8, i64 v5), (9, f32 x12), (10, i64 v8)]) (Γ' := [⟨u2, some (L4.map f32)⟩, ⟨u3, none⟩]) ⟨aR, aR, aR, aR, aR, aR, aR, trivial⟩ ⟨⟨rfl, .inr rfl⟩, ⟨rfl, .inl rfl⟩, trivial⟩ ?_
      obtain ⟨x13, hx10, h8_⟩ := olet_some h8_
      refine RunC.regionW ?_
      refine zM (r := i64 v8) rfl rfl rfl rfl rfl ?_
      refine zL (r := i64 x13) rfl rfl rfl (LOp.eqr (LOp.add rfl rfl rfl) (congrArg (ik .i64) hx10)) ?_
      refine zA (r := i64 x13) rfl rfl rfl rfl rfl ?_
      refine zN ?_
      cases Option.some.inj h8_
      exact ⟨_, rfl, ⟨aR, aR, aR, aR, aR, aR, aR, trivial⟩, ⟨⟨rfl, .inr rfl⟩, ⟨rfl, .inl rfl⟩, trivial⟩⟩
     ·refine RunC.regionW ?_
      refine zM (r := i64 v8) rfl rfl rfl rfl rfl ?_
      refine zM (r := i64 v5) rfl rfl rfl rfl rfl ?_
      refine zL (r := b false) rfl rfl rfl (LOp.eqb (LOp.lss rfl rfl rfl) hc5) ?_
      refine zN ?_
      refine RunC.cond_false rfl rfl ?_
      refine RunC.exit ?_
      cases Option.some.inj h8_
      have hx := ho8 _ rfl
      exact ⟨y7, ⟨aR, aR, aR, aR, aR, aR, trivial⟩, ⟨⟨rfl, .inr rfl⟩, ⟨rfl, .inl rfl⟩, trivial⟩, hx⟩
    ·rintro τ9 Γ9 ⟨y14, hw9, hd9, rfl⟩
     refine RunC.wl hw9 hd9 ?_
     replace h7_ : s_FactorSolveFlipped_k2 a0 a1 a2 L4 v5 y14 = some y7_ := h7_
     unfold s_FactorSolveFlipped_k2 at h7_
     obtain ⟨r15, hf11, h7_⟩ := obind_some h7_
     obtain ⟨x16, hx12, h7_⟩ := olet_some h7_
     obtain ⟨hm13, h7_⟩ := need_some h7_
     refine RunC.regionW ?_
     refine zM (r := oref 0 u2 0 L4.length) rfl rfl rfl rfl rfl ?_
     refine zM (r := f32 y14) rfl rfl rfl rfl rfl ?_
     refine zL (r := ptr [i64 a0, i64 a1, sl a2.length (a2.map f32), sl a3.length (a3.map i64)]) rfl rfl rfl (LOp.fap und33 rfl siz31 rfl rfl rfl) ?_
     refine zM (r := i64 v5) rfl rfl rfl rfl rfl ?_
     refine zM (r := i64 v5) rfl rfl rfl rfl rfl ?_
     refine ROps.d (r := f32 r15) (fs := []) (Γ' := [⟨u2, some (L4.map f32)⟩, ⟨u3, none⟩]) rfl rfl rfl (TOp.callB (CallAs.func ent20 rfl rfl) (Bors.cons (Bor.ptrT 3 (Bors.cons (Bor.pure rfl) (Bors.cons (Bor.pure rfl) (Bors.cons (Bor.sl (fun _ => rfl)) (Bors.cons (Bor.sl (fun _ => rfl)) Bors.nil)))) rfl) (Bors.cons (Bor.pure rfl) (Bors.cons (Bor.pure rfl) Bors.nil))) rfl rfl (s_l02At_ok a0 a1 a2 v5 v5 r15 hf11)) rfl ?_
     refine ROps.d (r := f32 x16) (fs := []) (Γ' := [⟨u2, some (L4.map f32)⟩, ⟨u3, none⟩]) rfl rfl rfl (TOp.eqr (TOp.fop (.inr (.inr (.inr rfl))) rfl (OpF.tmp rfl) (OpF.tmp rfl)) (congrArg (f .f32) hx12)) rfl ?_
     refine ROps.d (r := oref 1 (u3 + 1) 0 1) (fs := [(1, (([x16] : List F).map f32))]) (Γ' := [⟨u2, some (L4.map f32)⟩, ⟨(u3 + 1), some (([x16] : List F).map f32)⟩]) rfl rfl rfl (TOp.buildSlice_o (g := ⟨u3, none⟩) (za := f32 (some 0)) (qs := [(0, [f32 x16])]) 1 rfl und22 siz45 zer45 rfl zel45 rfl rfl ⟨rfl, ⟨_, ALe.refl _, rfl⟩, trivial⟩ rfl) rfl ?_
     refine ROps.app (f := f32) (xs := L4) (ys := ([x16] : List F)) (Γ' := [⟨(u2 + 1), some ((L4 ++ ([x16] : List F)).map f32)⟩, ⟨(u3 + 1), some (([x16] : List F).map f32)⟩]) rfl pun22 inf45 rfl rfl rfl rfl rfl rfl rfl rfl rfl (by simp) (ReadAs.own rfl (by simp)) (ones_map (fun _ => rfl)) (ap_by hm13) (ap_mx hm13) rfl ?_
     refine zA (r := oref 0 (u2 + 1) 0 (L4.length + 1)) rfl rfl rfl rfl rfl ?_
     refine zN ?_
     refine RunC.wl (τ' := [(1, sl a4.length (a4.map f32)), (2, ptr [i64 a0, i64 a1, sl a2.length (a2.map f32), sl a3.length (a3.map i64)]), (6, i64 a0), (7, oref 0 (u2 + 1) 0 (L4.length + 1)), (8, i64 v5)]) (Γ' := [⟨(u2 + 1), some ((L4 ++ ([x16] : List F)).map f32)⟩, ⟨(u3 + 1), none⟩]) ⟨aR, aR, aR, aR, aR, trivial⟩ ⟨⟨rfl, .inr rfl⟩, ⟨rfl, .inl rfl⟩, trivial⟩ ?_
     obtain ⟨x17, hx14, h7_⟩ := olet_some h7_
     refine RunC.regionW ?_
     refine zM (r := i64 v5) rfl rfl rfl rfl rfl ?_
     refine zL (r := i64 x17) rfl rfl rfl (LOp.eqr (LOp.add rfl rfl rfl) (congrArg (ik .i64) hx14)) ?_
     refine zA (r := i64 x17) rfl rfl rfl rfl rfl ?_
     refine zN ?_
     cases Option.some.inj h7_
     exact ⟨_, rfl, (u2 + 1), (u3 + 1), ⟨aR, aR, aR, (ALe.eq (by rw [(app_len rfl rfl)] <;> rfl)), aR, trivial⟩, ⟨⟨rfl, .inr rfl⟩, ⟨rfl, .inl rfl⟩, trivial⟩⟩
   ·refine RunC.regionW ?_
    refine zM (r := i64 v5) rfl rfl rfl rfl rfl ?_
    refine zM (r := i64 a0) rfl rfl rfl rfl rfl ?_
    refine zL (r := b false) rfl rfl rfl (LOp.eqb (LOp.lss rfl rfl rfl) hc3) ?_
    refine zN ?_
    refine RunC.cond_false rfl rfl ?_
    refine RunC.exit ?_
    cases Option.some.inj h7_
    have hx := ho7 _ rfl
    exact ⟨L4, u2, u3, ⟨aR, aR, aR, trivial⟩, ⟨⟨rfl, .inr rfl⟩, ⟨rfl, .inl rfl⟩, trivial⟩, hx⟩
  ·rintro τ10 Γ10 ⟨L20, u18, u19, hw10, hd10, rfl⟩
   refine RunC.wl hw10 hd10 ?_
   replace h : s_FactorSolveFlipped_k3 a0 a1 a2 a3 L20 = some (q0, q1) := h
   unfold s_FactorSolveFlipped_k3 at h
   refine RunC.seq ?_
   obtain ⟨hm15, h⟩ := need_some h
   refine RunC.regionW ?_
   refine zM (r := i64 a0) rfl rfl rfl rfl rfl ?_
   refine ROps.d (r := oref 1 (u19 + 1) 0 a0.toNat) (fs := [(1, ((List.replicate a0.toNat (some 0)).map f32))]) (Γ' := [⟨u18, some (L20.map f32)⟩, ⟨(u19 + 1), some ((List.replicate a0.toNat (some 0)).map f32)⟩]) rfl rfl rfl (TOp.mkS (g := ⟨u19, none⟩) (t := 22) (e := 45) (by_ := 4) (f := f32) (zv := some 0) 1 rfl und22 tin45 rfl siz45 zer45 rfl zel45 rfl rfl rfl hm15) rfl ?_
   refine zA (r := oref 1 (u19 + 1) 0 a0.toNat) rfl rfl rfl rfl rfl ?_
   refine zN ?_
   refine RunC.seq ?_
   refine RunC.seq ?_
   obtain ⟨x21, hx16, h⟩ := olet_some h
   refine RunC.regionW ?_
   refine zM (r := i64 a0) rfl rfl rfl rfl rfl ?_
   refine zL (r := i64 x21) rfl rfl rfl (LOp.eqr (LOp.sub rfl rfl rfl) (congrArg (ik .i64) hx16)) ?_
   refine zA (r := i64 x21) rfl rfl rfl rfl rfl ?_
   refine zN ?_
   obtain ⟨z11, hz_11, h⟩ := obind_some h
   refine RunC.cutN (fun τ Γ => ∃ (L43 : List F), L43.length = a0.toNat ∧ WeakLe τ [(11, oref 1 (u19 + 1) 0 a0.toNat)] ∧ DeadLe Γ [⟨u18, none⟩, ⟨(u19 + 1), some (L43.map f32)⟩] ∧ z11 = .inl L43) ?_ ?_
   ·refine RunC.block (RunC.loop (RunL.loopM (x := z11) (s_FactorSolveFlipped_s6 a0 a1 a2 a3) (fun (s : (List F) × (List F) × Int) τ Γ => s.1.length = L20.length ∧ s.2.1.length = a0.toNat ∧ WeakLe τ [(2, ptr [i64 a0, i64 a1, sl a2.length (a2.map f32), sl a3.length (a3.map i64)]), (6, i64 a0), (7, oref 0 u18 0 L20.length), (11, oref 1 (u19 + 1) 0 a0.toNat), (12, i64 s.2.2)] ∧ DeadLe Γ [⟨u18, some (s.1.map f32)⟩, ⟨(u19 + 1), some (s.2.1.map f32)⟩]) ?_ _ _ _ hz_11 ⟨rfl, List.length_replicate, ⟨aR, aR, aR, aR, aR, trivial⟩, ⟨⟨rfl, .inr rfl⟩, ⟨rfl, .inr rfl⟩, trivial⟩⟩))
    rintro ⟨L22, L24, v26⟩ τ11 Γ11 y11_ ⟨hl23, hl25, hw11, hd11⟩ h11_ ho11 hr11
    refine RunC.wl (τ' := [(2, ptr [i64 a0, i64 a1, sl a2.length (a2.map f32), sl a3.length (a3.map i64)]), (6, i64 a0), (7, oref 0 u18 0 L20.length), (11, oref 1 (u19 + 1) 0 a0.toNat), (12, i64 v26)]) (Γ' := [⟨u18, some (L22.map f32)⟩, ⟨(u19 + 1), some (L24.map f32)⟩]) hw11 hd11 ?_
    replace hl23 : L22.length = L20.length := hl23
    replace hl25 : L24.length = a0.toNat := hl25
    replace h11_ : s_FactorSolveFlipped_b6 a0 a1 a2 a3 L22 L24 v26 = some y11_ := h11_
    unfold s_FactorSolveFlipped_b6 at h11_
    refine RunC.seq ?_
    refine RunC.seq ?_
    rcases bsel_some h11_ with ⟨hc17, h11_⟩ | ⟨hc17, h11_⟩
    ·refine RunC.regionW ?_
     refine zM (r := i64 v26) rfl rfl rfl rfl rfl ?_
     refine zL (r := b true) rfl rfl rfl (LOp.eqb (LOp.geq rfl rfl rfl) hc17) ?_
     refine zN ?_
     refine RunC.cond_true rfl rfl ?_
     refine RunC.skip ?_
     refine RunC.seq ?_
     refine RunC.block ?_
     refine RunC.seq ?_
     obtain ⟨e27, he18, h11_⟩ := obind_some h11_
     refine RunC.regionW ?_
     refine zM (r := oref 0 u18 0 L20.length) rfl rfl rfl rfl rfl ?_
     refine zM (r := i64 v26) rfl rfl rfl rfl rfl ?_
     refine ROps.d (r := optr 0 u18 v26.toNat) (fs := []) (Γ' := [⟨u18, some (L22.map f32)⟩, ⟨(u19 + 1), some (L24.map f32)⟩]) rfl rfl rfl (TOp.ixo und22 siz45 rfl rfl rfl (at_in he18 hl23) rfl) rfl ?_
     refine ROps.d (r := f32 e27) (fs := []) (Γ' := [⟨u18, some (L22.map f32)⟩, ⟨(u19 + 1), some (L24.map f32)⟩]) rfl rfl rfl (TOp.load1_o rfl (at_cell he18) agg45 rfl rfl) rfl ?_
     refine zA (r := f32 e27) rfl rfl rfl rfl rfl ?_
     refine zN ?_
     refine RunC.seq ?_
     refine RunC.seq ?_
     obtain ⟨x28, hx19, h11_⟩ := olet_some h11_
     refine RunC.regionW ?_
     refine zM (r := i64 v26) rfl rfl rfl rfl rfl ?_
     refine zL (r := i64 x28) rfl rfl rfl (LOp.eqr (LOp.add rfl rfl rfl) (congrArg (ik .i64) hx19)) ?_
     refine zA (r := i64 x28) rfl rfl rfl rfl rfl ?_
     refine zN ?_
     obtain ⟨z12, hz_12, h11_⟩ := obind_some h11_
     refine RunC.cutN (fun τ Γ => ∃ (y38 : F), L22.length = L20.length ∧ L24.length = a0.toNat ∧ WeakLe τ [(2, ptr [i64 a0, i64 a1, sl a2.length (a2.map f32), sl a3.length (a3.map i64)]), (6, i64 a0), (7, oref 0 u18 0 L20.length), (11, oref 1 (u19 + 1) 0 a0.toNat), (12, i64 v26), (13, f32 y38)] ∧ DeadLe Γ [⟨u18, some (L22.map f32)⟩, ⟨(u19 + 1), some (L24.map f32)⟩] ∧ z12 = .inl y38) ?_ ?_
     ·refine RunC.block (RunC.loop (RunL.loopM (x := z12) (s_FactorSolveFlipped_s5 a0 a1 a2 L22 v26) (fun (s : F × Int) τ Γ => WeakLe τ [(2, ptr [i64 a0, i64 a1, sl a2.length (a2.map f32), sl a3.length (a3.map i64)]), (6, i64 a0), (7, oref 0 u18 0 L20.length), (11, oref 1 (u19 + 1) 0 a0.toNat), (12, i64 v26), (13, f32 s.1), (14, i64 s.2)] ∧ DeadLe Γ [⟨u18, some (L22.map f32)⟩, ⟨(u19 + 1), some (L24.map f32)⟩]) ?_ _ _ _ hz_12 ⟨⟨aR, aR, aR, aR, aR, aR, aR, trivial⟩, ⟨⟨rfl, .inr rfl⟩, ⟨rfl, .inr rfl⟩, trivial⟩⟩))
      rintro ⟨y29, v30⟩ τ12 Γ12 y12_ ⟨hw12, hd12⟩ h12_ ho12 hr12
      refine RunC.wl (τ' := [(2, ptr [i64 a0, i64 a1, sl a2.length (a2.map f32), sl a3.length (a3.map i64)]), (6, i64 a0), (7, oref 0 u18 0 L20.length), (11, oref 1 (u19 + 1) 0 a0.toNat), (12, i64 v26), (13, f32 y29), (14, i64 v30)]) (Γ' := [⟨u18, some (L22.map f32)⟩, ⟨(u19 + 1), some (L24.map f32)⟩]) hw12 hd12 ?_
      replace h12_ : s_FactorSolveFlipped_b5 a0 a1 a2 L22 v26 y29 v30 = some y12_ := h12_
      unfold s_FactorSolveFlipped_b5 at h12_
      refine RunC.seq ?_
      refine RunC.seq ?_
      rcases bsel_some h12_ with ⟨hc20, h12_⟩ | ⟨hc20, h12_⟩
      ·refine RunC.regionW ?_
       refine zM (r := i64 v30) rfl rfl rfl rfl rfl ?_
       refine zM (r := i64 a0) rfl rfl rfl rfl rfl ?_
       refine zL (r := b true) rfl rfl rfl (LOp.eqb (LOp.lss rfl rfl rfl) hc20) ?_
       refine zN ?_
       refine RunC.cond_true rfl rfl ?_
       refine RunC.skip ?_
       refine RunC.seq ?_
       refine RunC.block ?_
       obtain ⟨r31, hf21, h12_⟩ := obind_some h12_
       obtain ⟨e32, he22, h12_⟩ := obind_some h12_
       obtain ⟨x33, hx23, h12_⟩ := olet_some h12_
       obtain ⟨x34, hx24, h12_⟩ := olet_some h12_
       refine RunC.region_draw (Γ' := [⟨u18, some (L22.map f32)⟩, ⟨(u19 + 1), some (L24.map f32)⟩]) 12 mixed 
        (TR.l (r := f32 y29) rfl rfl (LOp.move rfl rfl) <|
        (TR.l (r := ptr [i64 a0, i64 a1, sl a2.length (a2.map f32), sl a3.length (a3.map i64)]) rfl rfl (LOp.fap und33 rfl siz31 rfl rfl rfl) <|
        (TR.l (r := i64 v30) rfl rfl (LOp.move rfl rfl) <|
        (TR.l (r := i64 v26) rfl rfl (LOp.move rfl rfl) <|
        (TR.d (r := f32 r31) (fs := []) rfl rfl (TOp.callB (CallAs.func ent20 rfl rfl) (Bors.cons (Bor.ptrT 3 (Bors.cons (Bor.pure rfl) (Bors.cons (Bor.pure rfl) (Bors.cons (Bor.sl (fun _ => rfl)) (Bors.cons (Bor.sl (fun _ => rfl)) Bors.nil)))) rfl) (Bors.cons (Bor.pure rfl) (Bors.cons (Bor.pure rfl) Bors.nil))) rfl rfl (s_l02At_ok a0 a1 a2 v30 v26 r31 hf21)) <|
        (TR.l (r := oref 0 u18 0 L20.length) rfl rfl (LOp.move rfl rfl) <|
        (TR.l (r := i64 v30) rfl rfl (LOp.move rfl rfl) <|
        (TR.d (r := optr 0 u18 v30.toNat) (fs := []) rfl rfl (TOp.ixo und22 siz45 rfl rfl rfl (at_in he22 hl23) rfl) <|
        (TR.d (r := f32 e32) (fs := []) rfl rfl (TOp.load1_o rfl (at_cell he22) agg45 rfl rfl) <|
        (TR.d (r := f32 x33) (fs := []) rfl rfl (TOp.eqr (TOp.fop (.inr (.inr (.inl rfl))) rfl (OpF.tmp rfl) (OpF.tmp rfl)) (congrArg (f .f32) hx23)) <|
        (TR.d (r := f32 x34) (fs := []) rfl rfl (TOp.eqr (TOp.fop (.inr (.inl rfl)) rfl (OpF.tmp rfl) (OpF.tmp rfl)) (congrArg (f .f32) hx24)) <|
        (TR.l (r := f32 x34) rfl rfl (LOp.assign rfl rfl) <|
        TR.nil)))))))))))) rfl (by kernel_rfl) rfl fills_nil rfl ?_
       iterate 12 refine ROps.dropS ?_
       refine ROps.drop0 ?_
       refine zN ?_
       refine RunC.wl (τ' := [(2, ptr [i64 a0, i64 a1, sl a2.length (a2.map f32), sl a3.length (a3.map i64)]), (6, i64 a0), (7, oref 0 u18 0 L20.length), (11, oref 1 (u19 + 1) 0 a0.toNat), (12, i64 v26), (13, f32 x34), (14, i64 v30)]) (Γ' := [⟨u18, some (L22.map f32)⟩, ⟨(u19 + 1), some (L24.map f32)⟩]) ⟨aR, aR, aR, aR, aR, aR, aR, trivial⟩ ⟨⟨rfl, .inr rfl⟩, ⟨rfl, .inr rfl⟩, trivial⟩ ?_
       obtain ⟨x35, hx25, h12_⟩ := olet_some h12_
       refine RunC.regionW ?_
       refine zM (r := i64 v30) rfl rfl rfl rfl rfl ?_
       refine zL (r := i64 x35) rfl rfl rfl (LOp.eqr (LOp.add rfl rfl rfl) (congrArg (ik .i64) hx25)) ?_
       refine zA (r := i64 x35) rfl rfl rfl rfl rfl ?_
       refine zN ?_
       cases Option.some.inj h12_
       exact ⟨_, rfl, ⟨aR, aR, aR, aR, aR, aR, aR, trivial⟩, ⟨⟨rfl, .inr rfl⟩, ⟨rfl, .inr rfl⟩, trivial⟩⟩
      ·refine RunC.regionW ?_
       refine zM (r := i64 v30) rfl rfl rfl rfl rfl ?_
       refine zM (r := i64 a0) rfl rfl rfl rfl rfl ?_
       refine zL (r := b false) rfl rfl rfl (LOp.eqb (LOp.lss rfl rfl rfl) hc20) ?_
       refine zN ?_
       refine RunC.cond_false rfl rfl ?_
       refine RunC.exit ?_
       cases Option.some.inj h12_
       have hx := ho12 _ rfl
       exact ⟨y29, hl23, hl25, ⟨aR, aR, aR, aR, aR, aR, trivial⟩, ⟨⟨rfl, .inr rfl⟩, ⟨rfl, .inr rfl⟩, trivial⟩, hx⟩
     ·rintro τ13 Γ13 ⟨y38, hl36, hl37, hw13, hd13, rfl⟩
      refine RunC.wl hw13 hd13 ?_
      replace h11_ : s_FactorSolveFlipped_k5 a3 L22 L24 v26 y38 = some y11_ := h11_
      unfold s_FactorSolveFlipped_k5 at h11_
      refine RunC.seq ?_
      obtain ⟨L39, he26, h11_⟩ := obind_some h11_
      refine RunC.regionW ?_
      refine zM (r := oref 0 u18 0 L20.length) rfl rfl rfl rfl rfl ?_
      refine zM (r := i64 v26) rfl rfl rfl rfl rfl ?_
      refine zM (r := f32 y38) rfl rfl rfl rfl rfl ?_
      refine ROps.d (r := optr 0 u18 v26.toNat) (fs := []) (Γ' := [⟨u18, some (L22.map f32)⟩, ⟨(u19 + 1), some (L24.map f32)⟩]) rfl rfl rfl (TOp.ixo und22 siz45 rfl rfl rfl (set_in he26 hl36) rfl) rfl ?_
      refine ROps.st (f := f32) (i := v26) (Γ' := [⟨u18, some (L39.map f32)⟩, ⟨(u19 + 1), some (L24.map f32)⟩]) rfl siz45 rfl rfl rfl aR rfl rfl rfl he26 rfl ?_
      refine zN ?_
      obtain ⟨e40, he27, h11_⟩ := obind_some h11_
      obtain ⟨L41, he28, h11_⟩ := obind_some h11_
      refine RunC.regionW ?_
      refine zM (r := oref 1 (u19 + 1) 0 a0.toNat) rfl rfl rfl rfl rfl ?_
      refine zL (r := ptr [sl a3.length (a3.map i64)]) rfl rfl rfl (LOp.fap und33 rfl siz25 rfl rfl rfl) ?_
      refine zL (r := sl a3.length (a3.map i64)) rfl rfl rfl (LOp.load1 agg25 rfl rfl) ?_
      refine zM (r := i64 v26) rfl rfl rfl rfl rfl ?_
      refine zL (r := ptr [i64 e40]) rfl rfl rfl (LOp.le (LOp.ix (f := i64) und25 siz2 rfl rfl rfl rfl he27) ALe.ptr) ?_
      refine zL (r := i64 e40) rfl rfl rfl (LOp.load1 agg2 rfl rfl) ?_
      refine zM (r := f32 y38) rfl rfl rfl rfl rfl ?_
      refine ROps.d (r := optr 1 (u19 + 1) e40.toNat) (fs := []) (Γ' := [⟨u18, some (L39.map f32)⟩, ⟨(u19 + 1), some (L24.map f32)⟩]) rfl rfl rfl (TOp.ixo und22 siz45 rfl rfl rfl (set_in he28 hl37) rfl) rfl ?_
      refine ROps.st (f := f32) (i := e40) (Γ' := [⟨u18, some (L39.map f32)⟩, ⟨(u19 + 1), some (L41.map f32)⟩]) rfl siz45 rfl rfl rfl aR rfl rfl rfl he28 rfl ?_
      refine zN ?_
      refine RunC.wl (τ' := [(2, ptr [i64 a0, i64 a1, sl a2.length (a2.map f32), sl a3.length (a3.map i64)]), (6, i64 a0), (7, oref 0 u18 0 L20.length), (11, oref 1 (u19 + 1) 0 a0.toNat), (12, i64 v26)]) (Γ' := [⟨u18, some (L39.map f32)⟩, ⟨(u19 + 1), some (L41.map f32)⟩]) ⟨aR, aR, aR, aR, aR, trivial⟩ ⟨⟨rfl, .inr rfl⟩, ⟨rfl, .inr rfl⟩, trivial⟩ ?_
      obtain ⟨x42, hx29, h11_⟩ := olet_some h11_
      refine RunC.regionW ?_
      refine zM (r := i64 v26) rfl rfl rfl rfl rfl ?_
      refine zL (r := i64 x42) rfl rfl rfl (LOp.eqr (LOp.sub rfl rfl rfl) (congrArg (ik .i64) hx29)) ?_
      refine zA (r := i64 x42) rfl rfl rfl rfl rfl ?_
      refine zN ?_
      cases Option.some.inj h11_
      exact ⟨_, rfl, ((setAt?_len he26).trans hl36), ((setAt?_len he28).trans hl37), ⟨aR, aR, aR, aR, aR, trivial⟩, ⟨⟨rfl, .inr rfl⟩, ⟨rfl, .inr rfl⟩, trivial⟩⟩
    ·refine RunC.regionW ?_
     refine zM (r := i64 v26) rfl rfl rfl rfl rfl ?_
     refine zL (r := b false) rfl rfl rfl (LOp.eqb (LOp.geq rfl rfl rfl) hc17) ?_
     refine zN ?_
     refine RunC.cond_false rfl rfl ?_
     refine RunC.exit ?_
     cases Option.some.inj h11_
     have hx := ho11 _ rfl
     exact ⟨L24, hl25, ⟨aR, trivial⟩, ⟨⟨rfl, .inl rfl⟩, ⟨rfl, .inr rfl⟩, trivial⟩, hx⟩
   ·rintro τ14 Γ14 ⟨L43, hl44, hw14, hd14, rfl⟩
    refine RunC.wl hw14 hd14 ?_
    replace h : s_FactorSolveFlipped_k6 a0 L43 = some (q0, q1) := h
    unfold s_FactorSolveFlipped_k6 at h
    refine RunC.seq ?_
    obtain ⟨z15, hf30, h⟩ := obind_some h
    rcases z15 with z15 | z15
    ·replace h := (osum_inl _ _ _).symm.trans h
     obtain ⟨r45, r46, hz16, h⟩ := obind2_some h
     cases hz16
     obtain ⟨hn31, h⟩ := need_some h
     refine RunC.regionW ?_
     refine zM (r := oref 1 (u19 + 1) 0 a0.toNat) rfl rfl rfl rfl rfl ?_
     refine ROps.callO (A := [oref 1 (u19 + 1) 0 a0.toNat]) (args := [oref 0 0 0 L43.length]) (Γc := [⟨0, some (L43.map f32)⟩]) (Γc' := [⟨0, some (r46.map f32)⟩]) (r' := tup [oref 1 (u19 + 1) 0 a0.toNat, b r45]) (Γ' := [⟨u18, none⟩, ⟨(u19 + 1), some (r46.map f32)⟩]) [(1, (u19 + 1))] [] rfl (CallAs.func ent21 rfl rfl) rfl rfl (SelOk.of (show List.Nodup [1] from by decide) (SelL.arr0 (f := f32) (fun _ => rfl) rfl trivial)) (live_of ⟨⟨_, _, rfl⟩, trivial⟩) (by simp [ren, rens, sigma, rens_f32, rens_f64, rens_i64, rens_ik, rens_str, rens_cp, hl44]) rfl (s_l02List_0o_ok0 L43 r45 r46 hf30) rfl (news_of trivial) (show List.Nodup [1] from by decide) (by simp [ren, rens, sigma, of_decide_eq_true hn31]) (by simp [backOb, sigma, ren, rens, rens_f32, rens_f64, rens_i64, rens_ik, rens_str, rens_cp]) ?_
     refine zL (r := oref 1 (u19 + 1) 0 a0.toNat) rfl rfl rfl (LOp.extract rfl rfl rfl) ?_
     refine zL (r := b r45) rfl rfl rfl (LOp.extract rfl rfl rfl) ?_
     refine zA (r := oref 1 (u19 + 1) 0 a0.toNat) rfl rfl rfl rfl rfl ?_
     refine zA (r := b r45) rfl rfl rfl rfl rfl ?_
     refine zN ?_
     refine RunC.ret ?_
     have hq := Option.some.inj h
     obtain ⟨hq0, hq⟩ := Prod.mk.inj hq
     subst q0
     subst q1
     exact bodyQ.mk (r' := tup [oref 1 (u19 + 1) 0 r46.length, b r45]) [(1, (u19 + 1))] (.inr rfl) rfl (show List.Nodup [1] from by decide) (by simp [ren, rens, sigma]) rfl (Res.eq (Res.two rfl (RV.tmp rfl) (RV.tmp rfl)) (by rw [(show r46.length = a0.toNat from (of_decide_eq_true hn31))] <;> rfl)) (SelL.arr0 (f := f32) (fun _ => rfl) rfl trivial)
    ·replace h := (osum_inr _ _ _).symm.trans h
     obtain ⟨r47, r48, r49, hz17, h⟩ := obind3_some h
     cases hz17
     obtain ⟨hn32, h⟩ := need_some h
     refine RunC.regionW ?_
     refine zM (r := oref 1 (u19 + 1) 0 a0.toNat) rfl rfl rfl rfl rfl ?_
     refine ROps.callO (A := [oref 1 (u19 + 1) 0 a0.toNat]) (args := [oref 0 0 0 L43.length]) (Γc := [⟨0, some (L43.map f32)⟩]) (Γc' := [⟨0, some (r48.map f32)⟩, ⟨0, some (r49.map f32)⟩]) (r' := tup [oref 0 (u18 + 1) 0 r49.length, b r47]) (Γ' := [⟨(u18 + 1), some (r49.map f32)⟩, ⟨(u19 + 1), some (r48.map f32)⟩]) [(1, (u19 + 1))] [(0, (u18 + 1))] rfl (CallAs.func ent21 rfl rfl) rfl rfl (SelOk.of (show List.Nodup [1] from by decide) (SelL.arr0 (f := f32) (fun _ => rfl) rfl trivial)) (live_of ⟨⟨_, _, rfl⟩, trivial⟩) (by simp [ren, rens, sigma, rens_f32, rens_f64, rens_i64, rens_ik, rens_str, rens_cp, hl44]) rfl (s_l02List_0o_ok1 L43 r47 r48 r49 hf30) rfl (news_of ⟨⟨_, rfl, rfl⟩, trivial⟩) (show List.Nodup [1, 0] from by decide) (by simp [ren, rens, sigma, of_decide_eq_true hn32]) (by simp [backOb, sigma, ren, rens, rens_f32, rens_f64, rens_i64, rens_ik, rens_str, rens_cp]) ?_
     refine zL (r := oref 0 (u18 + 1) 0 r49.length) rfl rfl rfl (LOp.extract rfl rfl rfl) ?_
     refine zL (r := b r47) rfl rfl rfl (LOp.extract rfl rfl rfl) ?_
     refine zA (r := oref 0 (u18 + 1) 0 r49.length) rfl rfl rfl rfl rfl ?_
     refine zA (r := b r47) rfl rfl rfl rfl rfl ?_
     refine zN ?_
     refine RunC.ret ?_
     have hq := Option.some.inj h
     obtain ⟨hq0, hq⟩ := Prod.mk.inj hq
     subst q0
     subst q1
     exact bodyQ.mk (r' := tup [oref 0 (u18 + 1) 0 r49.length, b r47]) [(0, (u18 + 1))] (.inr rfl) rfl (show List.Nodup [0] from by decide) (by simp [ren, rens, sigma]) rfl (Res.two rfl (RV.tmp rfl) (RV.tmp rfl)) (SelL.arr0 (f := f32) (fun _ => rfl) rfl trivial)
 ·refine RunC.regionW ?_
  refine zM (r := sl a4.length (a4.map f32)) rfl rfl rfl rfl rfl ?_
  refine ROps.d (r := b false) (fs := []) (Γ' := [⟨0, none⟩, ⟨0, none⟩]) rfl rfl rfl (TOp.eqb (TOp.callB (CallAs.func ent19 rfl rfl) (Bors.cons (Bor.ptr (Bors.cons (Bor.pure rfl) (Bors.cons (Bor.pure rfl) (Bors.cons (Bor.sl (fun _ => rfl)) (Bors.cons (Bor.sl (fun _ => rfl)) Bors.nil))))) (Bors.cons (Bor.sl (fun _ => rfl)) Bors.nil)) rfl rfl (s_l03Fits_ok a0 a1 a2 a3 a4 r1 hf1)) hc2) rfl ?_
  refine zL (r := b true) rfl rfl rfl (LOp.eqb (LOp.not rfl rfl) rfl) ?_
  refine zN ?_
  refine RunC.cond_true rfl rfl ?_
  refine zQ ?_
  refine zA (r := nilsl) rfl rfl rfl rfl rfl ?_
  refine zA (r := b false) rfl rfl rfl rfl rfl ?_
  refine zN ?_
  refine RunC.nil_slot (Γ' := [⟨1, some (([] : List F).map f32)⟩, ⟨0, none⟩]) 4 0 rfl rfl rfl ?_
  refine RunC.ret ?_
  have hq := Option.some.inj h
  obtain ⟨hq0, hq⟩ := Prod.mk.inj hq
  subst q0
  subst q1
  exact bodyQ.mk (r' := tup [oref 0 1 0 (([] : List F).length), b false]) [(0, 1)] (.inr rfl) rfl (show List.Nodup [0] from by decide) rfl rfl (Res.eq (Res.two rfl (RV.tmp rfl) (RV.tmp rfl)) (by rw [(show ([] : List F).length = 0 from rfl)] <;> rfl)) (SelL.arr0 (f := f32) (fun _ => rfl) rfl trivial)
noncomputable def i_inRange (a0 : Int) (a1 : Int) (a2 : Int) : Option (Bool) :=
 bsel (decide (a1 ≤ a0)) (
  some (decide (a0 ≤ a2))) (
  some false)
theorem i_inRange_ok (a0 : Int) (a1 : Int) (a2 : Int) (q0 : Bool) (h : i_inRange a0 a1 a2 = some q0) : Ev Try.prog 55 [i64 a0, i64 a1, i64 a2] [] (b q0) [] := by
 refine Ev.start Try.func55 rfl rfl 0 (τ := [(0, i64 a0), (1, i64 a1), (2, i64 a2)]) rfl (Γ' := []) rfl (n := 31) rfl (g := 0) rfl (fun _ => rfl) ?_
 unfold i_inRange at h
 refine zQ ?_
 refine zA (r := b false) rfl rfl rfl rfl rfl ?_
 refine zN ?_
 refine RunC.seq ?_
 rcases bsel_some h with ⟨hc1, h⟩ | ⟨hc1, h⟩
 ·refine RunC.regionW ?_
  refine zM (r := i64 a1) rfl rfl rfl rfl rfl ?_
  refine zM (r := i64 a0) rfl rfl rfl rfl rfl ?_
  refine zL (r := b true) rfl rfl rfl (LOp.eqb (LOp.leq rfl rfl rfl) hc1) ?_
  refine zM (r := b true) rfl rfl rfl rfl rfl ?_
  refine zM (r := i64 a0) rfl rfl rfl rfl rfl ?_
  refine zM (r := i64 a2) rfl rfl rfl rfl rfl ?_
  refine zL (r := b (decide (a0 ≤ a2))) rfl rfl rfl (LOp.leq rfl rfl rfl) ?_
  refine zL (r := b (decide (a0 ≤ a2))) rfl rfl rfl (LOp.pick_true rfl rfl rfl) ?_
  refine zA (r := b (decide (a0 ≤ a2))) rfl rfl rfl rfl rfl ?_
  refine zN ?_
  refine RunC.ret ?_
  have hq := Option.some.inj h
  subst q0
  exact bodyQ.pure (.inr rfl) rfl (Res.one rfl (RV.tmp rfl))
 ·refine RunC.regionW ?_
  refine zM (r := i64 a1) rfl rfl rfl rfl rfl ?_
  refine zM (r := i64 a0) rfl rfl rfl rfl rfl ?_
  refine zL (r := b false) rfl rfl rfl (LOp.eqb (LOp.leq rfl rfl rfl) hc1) ?_
  refine zM (r := b false) rfl rfl rfl rfl rfl ?_
  refine ROps.s rfl rfl rfl ?_
  refine ROps.s rfl rfl rfl ?_
  refine ROps.s rfl rfl rfl ?_
  refine zL (r := b false) rfl rfl rfl (LOp.pick_false rfl rfl rfl) ?_
  refine zA (r := b false) rfl rfl rfl rfl rfl ?_
  refine zN ?_
  refine RunC.ret ?_
  have hq := Option.some.inj h
  subst q0
  exact bodyQ.pure (.inr rfl) rfl (Res.one rfl (RV.tmp rfl))
noncomputable def i_isSide (a0 : Int) : Option (Bool) :=
 obind (i_inRange a0 1 12) fun (r1 : Bool) =>
 some r1
theorem i_isSide_ok (a0 : Int) (q0 : Bool) (h : i_isSide a0 = some q0) : Ev Try.prog 63 [i64 a0] [] (b q0) [] := by
 refine Ev.start Try.func63 rfl rfl 0 (τ := [(0, i64 a0)]) rfl (Γ' := []) rfl (n := 11) rfl (g := 0) rfl (fun _ => rfl) ?_
 unfold i_isSide at h
 refine zQ ?_
 refine zA (r := b false) rfl rfl rfl rfl rfl ?_
 refine zN ?_
 refine RunC.seq ?_
 obtain ⟨r1, hf1, h⟩ := obind_some h
 refine RunC.regionW ?_
 refine zM (r := i64 a0) rfl rfl rfl rfl rfl ?_
 refine ROps.d (r := b r1) (fs := []) (Γ' := []) rfl rfl rfl (TOp.callB (CallAs.func ent55 rfl rfl) (Bors.cons (Bor.pure rfl) (Bors.cons (Bor.pure rfl) (Bors.cons (Bor.pure rfl) Bors.nil))) rfl rfl (i_inRange_ok a0 1 12 r1 hf1)) rfl ?_
 refine zA (r := b r1) rfl rfl rfl rfl rfl ?_
 refine zN ?_
 refine RunC.ret ?_
 have hq := Option.some.inj h
 subst q0
 exact bodyQ.pure (.inr rfl) rfl (Res.one rfl (RV.tmp rfl))
noncomputable def i_length_float32 (a0 : List F) : Option (Int) :=
 some (a0.length : Int)
theorem i_length_float32_ok (a0 : List F) (q0 : Int) (h : i_length_float32 a0 = some q0) : Ev Try.prog 42 [sl a0.length (a0.map f32)] [] (i64 q0) [] := by
 refine Ev.start Try.func42 rfl rfl 0 (τ := [(0, sl a0.length (a0.map f32))]) rfl (Γ' := []) rfl (n := 11) rfl (g := 0) rfl (fun _ => rfl) ?_
 unfold i_length_float32 at h
 refine zQ ?_
 refine zA (r := i64 0) rfl rfl rfl rfl rfl ?_
 refine zN ?_
 refine zQ ?_
 refine zM (r := sl a0.length (a0.map f32)) rfl rfl rfl rfl rfl ?_
 refine zL (r := i64 (a0.length : Int)) rfl rfl rfl (LOp.len_sl und22 rfl rfl) ?_
 refine zA (r := i64 (a0.length : Int)) rfl rfl rfl rfl rfl ?_
 refine zN ?_
 refine RunC.ret ?_
 have hq := Option.some.inj h
 subst q0
 exact bodyQ.pure (.inr rfl) rfl (Res.one rfl (RV.tmp rfl))
noncomputable def x_math_IsNaN (a0 : F) : Option (Bool) :=
 some (!feq .f64 a0 a0)
theorem x_math_IsNaN_ok (a0 : F) (q0 : Bool) (h : x_math_IsNaN a0 = some q0) : Ev Try.prog 70 [f64 a0] [] (b q0) [] := by
 refine Ev.start Try.func70 rfl rfl 0 (τ := [(0, f64 a0)]) rfl (Γ' := []) rfl (n := 13) rfl (g := 0) rfl (fun _ => rfl) ?_
 unfold x_math_IsNaN at h
 refine zQ ?_
 refine zA (r := b false) rfl rfl rfl rfl rfl ?_
 refine zN ?_
 refine zQ ?_
 refine zM (r := f64 a0) rfl rfl rfl rfl rfl ?_
 refine zM (r := f64 a0) rfl rfl rfl rfl rfl ?_
 refine zL (r := b (!feq .f64 a0 a0)) rfl rfl rfl (LOp.fne rfl (OpF.tmp rfl) (OpF.tmp rfl)) ?_
 refine zA (r := b (!feq .f64 a0 a0)) rfl rfl rfl rfl rfl ?_
 refine zN ?_
 refine RunC.ret ?_
 have hq := Option.some.inj h
 subst q0
 exact bodyQ.pure (.inr rfl) rfl (Res.one rfl (RV.tmp rfl))
noncomputable def x_math_Abs (a0 : F) : Option (F) :=
 olet (fabs a0) fun (x1 : F) =>
 some x1
theorem x_math_Abs_ok (a0 : F) (q0 : F) (h : x_math_Abs a0 = some q0) : Ev Try.prog 75 [f64 a0] [] (f64 q0) [] := by
 refine Ev.start Try.func75 rfl rfl 0 (τ := [(0, f64 a0)]) rfl (Γ' := []) rfl (n := 15) rfl (g := 0) rfl (fun _ => rfl) ?_
 unfold x_math_Abs at h
 refine zQ ?_
 refine zL (r := f64 (some 0)) rfl rfl rfl (LOp.le (LOp.assign rfl rfl) (ALe.fl (by kernel_rfl) (by kernel_rfl))) ?_
 refine zN ?_
 refine RunC.seq ?_
 obtain ⟨x1, hx1, h⟩ := olet_some h
 refine RunC.regionW ?_
 refine zM (r := f64 a0) rfl rfl rfl rfl rfl ?_
 refine zL (r := bt .f64 .u64 a0) rfl rfl rfl (LOp.fbits ext80 rfl (OpF.tmp rfl)) ?_
 refine zL (r := bt .f64 .u64 x1) rfl rfl rfl (LOp.eqr (LOp.andNot_bt rfl rfl rfl) (congrArg (bt .f64 .u64) hx1)) ?_
 refine zL (r := f64 x1) rfl rfl rfl (LOp.ffrom ext79 rfl rfl) ?_
 refine zA (r := f64 x1) rfl rfl rfl rfl rfl ?_
 refine zN ?_
 refine RunC.ret ?_
 have hq := Option.some.inj h
 subst q0
 exact bodyQ.pure (.inr rfl) rfl (Res.one rfl (RV.tmp rfl))
noncomputable def x_math_IsInf_k1 (y3 : F) : Option (Bool) :=
 some (flt .f64 (some 9218868437227405311) y3)
noncomputable def x_math_IsInf (a0 : F) (a1 : Int) : Option (Bool) :=
 bsel (decide (a1 = 0)) (
  obind (x_math_Abs a0) fun (r1 : F) =>
  x_math_IsInf_k1 r1) (
  bsel (decide (a1 < 0)) (
   olet (fneg .f64 a0) fun (x2 : F) =>
   x_math_IsInf_k1 x2) (
   x_math_IsInf_k1 a0))
theorem x_math_IsInf_ok (a0 : F) (a1 : Int) (q0 : Bool) (h : x_math_IsInf a0 a1 = some q0) : Ev Try.prog 71 [f64 a0, i64 a1] [] (b q0) [] := by
 refine Ev.start Try.func71 rfl rfl 0 (τ := [(0, f64 a0), (1, i64 a1)]) rfl (Γ' := []) rfl (n := 31) rfl (g := 0) rfl (fun _ => rfl) ?_
 unfold x_math_IsInf at h
 refine zQ ?_
 refine zA (r := b false) rfl rfl rfl rfl rfl ?_
 refine zN ?_
 refine RunC.seq ?_
 refine RunC.cutN (fun τ Γ => ∃ (y3 : F), WeakLe τ [(0, f64 y3)] ∧ DeadLe Γ [] ∧ x_math_IsInf_k1 y3 = some q0) ?_ ?_
 ·refine RunC.seq ?_
  rcases bsel_some h with ⟨hc1, h⟩ | ⟨hc1, h⟩
  ·refine RunC.regionW ?_
   refine zM (r := i64 a1) rfl rfl rfl rfl rfl ?_
   refine zL (r := b true) rfl rfl rfl (LOp.eqb (LOp.eql rfl rfl rfl) hc1) ?_
   refine zN ?_
   refine RunC.cond_true rfl rfl ?_
   obtain ⟨r1, hf2, h⟩ := obind_some h
   refine RunC.regionW ?_
   refine zM (r := f64 a0) rfl rfl rfl rfl rfl ?_
   refine ROps.d (r := f64 r1) (fs := []) (Γ' := []) rfl rfl rfl (TOp.callB (CallAs.func ent75 rfl rfl) (Bors.cons (Bor.pure rfl) Bors.nil) rfl rfl (x_math_Abs_ok a0 r1 hf2)) rfl ?_
   refine zA (r := f64 r1) rfl rfl rfl rfl rfl ?_
   refine zN ?_
   exact ⟨r1, ⟨aR, trivial⟩, trivial, h⟩
  ·refine RunC.regionW ?_
   refine zM (r := i64 a1) rfl rfl rfl rfl rfl ?_
   refine zL (r := b false) rfl rfl rfl (LOp.eqb (LOp.eql rfl rfl rfl) hc1) ?_
   refine zN ?_
   refine RunC.cond_false rfl rfl ?_
   refine RunC.seq ?_
   rcases bsel_some h with ⟨hc3, h⟩ | ⟨hc3, h⟩
   ·refine RunC.regionW ?_
    refine zM (r := i64 a1) rfl rfl rfl rfl rfl ?_
    refine zL (r := b true) rfl rfl rfl (LOp.eqb (LOp.lss rfl rfl rfl) hc3) ?_
    refine zN ?_
    refine RunC.cond_true rfl rfl ?_
    obtain ⟨x2, hx4, h⟩ := olet_some h
    refine RunC.regionW ?_
    refine zM (r := f64 a0) rfl rfl rfl rfl rfl ?_
    refine zL (r := f64 x2) rfl rfl rfl (LOp.eqr (LOp.fneg rfl (OpF.tmp rfl)) (congrArg (f .f64) hx4)) ?_
    refine zA (r := f64 x2) rfl rfl rfl rfl rfl ?_
    refine zN ?_
    exact ⟨x2, ⟨aR, trivial⟩, trivial, h⟩
   ·refine RunC.regionW ?_
    refine zM (r := i64 a1) rfl rfl rfl rfl rfl ?_
    refine zL (r := b false) rfl rfl rfl (LOp.eqb (LOp.lss rfl rfl rfl) hc3) ?_
    refine zN ?_
    refine RunC.cond_false rfl rfl ?_
    refine RunC.skip ?_
    exact ⟨a0, ⟨aR, trivial⟩, trivial, h⟩
 ·rintro τ2 Γ2 ⟨y3, hw2, hd2, h⟩
  refine RunC.wl hw2 hd2 ?_
  unfold x_math_IsInf_k1 at h
  refine zQ ?_
  refine zM (r := f64 y3) rfl rfl rfl rfl rfl ?_
  refine zL (r := b (flt .f64 (some 9218868437227405311) y3)) rfl rfl rfl (LOp.fgt rfl (OpF.tmp rfl) (OpF.const rfl (by kernel_rfl) (by kernel_rfl))) ?_
  refine zA (r := b (flt .f64 (some 9218868437227405311) y3)) rfl rfl rfl rfl rfl ?_
  refine zN ?_
  refine RunC.ret ?_
  have hq := Option.some.inj h
  subst q0
  exact bodyQ.pure (.inr rfl) rfl (Res.one rfl (RV.tmp rfl))
noncomputable def i_isFinite64 (a0 : F) : Option (Bool) :=
 obind (x_math_IsNaN a0) fun (r1 : Bool) =>
 bsel r1 (
  some false) (
  obind (x_math_IsInf a0 0) fun (r2 : Bool) =>
  some (!r2))
theorem i_isFinite64_ok (a0 : F) (q0 : Bool) (h : i_isFinite64 a0 = some q0) : Ev Try.prog 66 [f64 a0] [] (b q0) [] := by
 refine Ev.start Try.func66 rfl rfl 0 (τ := [(0, f64 a0)]) rfl (Γ' := []) rfl (n := 23) rfl (g := 0) rfl (fun _ => rfl) ?_
 unfold i_isFinite64 at h
 refine zQ ?_
 refine zA (r := b false) rfl rfl rfl rfl rfl ?_
 refine zN ?_
 refine RunC.seq ?_
 obtain ⟨r1, hf1, h⟩ := obind_some h
 rcases bsel_some h with ⟨hc2, h⟩ | ⟨hc2, h⟩
 ·refine RunC.regionW ?_
  refine zM (r := f64 a0) rfl rfl rfl rfl rfl ?_
  refine ROps.d (r := b true) (fs := []) (Γ' := []) rfl rfl rfl (TOp.eqb (TOp.callB (CallAs.func ent70 rfl rfl) (Bors.cons (Bor.pure rfl) Bors.nil) rfl rfl (x_math_IsNaN_ok a0 r1 hf1)) hc2) rfl ?_
  refine zL (r := b false) rfl rfl rfl (LOp.eqb (LOp.not rfl rfl) rfl) ?_
  refine zM (r := b false) rfl rfl rfl rfl rfl ?_
  refine ROps.s rfl rfl rfl ?_
  refine ROps.s rfl rfl rfl ?_
  refine ROps.s rfl rfl rfl ?_
  refine zL (r := b false) rfl rfl rfl (LOp.pick_false rfl rfl rfl) ?_
  refine zA (r := b false) rfl rfl rfl rfl rfl ?_
  refine zN ?_
  refine RunC.ret ?_
  have hq := Option.some.inj h
  subst q0
  exact bodyQ.pure (.inr rfl) rfl (Res.one rfl (RV.tmp rfl))
 ·obtain ⟨r2, hf3, h⟩ := obind_some h
  refine RunC.regionW ?_
  refine zM (r := f64 a0) rfl rfl rfl rfl rfl ?_
  refine ROps.d (r := b false) (fs := []) (Γ' := []) rfl rfl rfl (TOp.eqb (TOp.callB (CallAs.func ent70 rfl rfl) (Bors.cons (Bor.pure rfl) Bors.nil) rfl rfl (x_math_IsNaN_ok a0 r1 hf1)) hc2) rfl ?_
  refine zL (r := b true) rfl rfl rfl (LOp.eqb (LOp.not rfl rfl) rfl) ?_
  refine zM (r := b true) rfl rfl rfl rfl rfl ?_
  refine zM (r := f64 a0) rfl rfl rfl rfl rfl ?_
  refine ROps.d (r := b r2) (fs := []) (Γ' := []) rfl rfl rfl (TOp.callB (CallAs.func ent71 rfl rfl) (Bors.cons (Bor.pure rfl) (Bors.cons (Bor.pure rfl) Bors.nil)) rfl rfl (x_math_IsInf_ok a0 0 r2 hf3)) rfl ?_
  refine zL (r := b (!r2)) rfl rfl rfl (LOp.not rfl rfl) ?_
  refine zL (r := b (!r2)) rfl rfl rfl (LOp.pick_true rfl rfl rfl) ?_
  refine zA (r := b (!r2)) rfl rfl rfl rfl rfl ?_
  refine zN ?_
  refine RunC.ret ?_
  have hq := Option.some.inj h
  subst q0
  exact bodyQ.pure (.inr rfl) rfl (Res.one rfl (RV.tmp rfl))
noncomputable def i_IsFinite (a0 : F) : Option (Bool) :=
 olet (fwiden a0) fun (x1 : F) =>
 obind (i_isFinite64 x1) fun (r2 : Bool) =>
 some r2
theorem i_IsFinite_ok (a0 : F) (q0 : Bool) (h : i_IsFinite a0 = some q0) : Ev Try.prog 58 [f32 a0] [] (b q0) [] := by
 refine Ev.start Try.func58 rfl rfl 0 (τ := [(0, f32 a0)]) rfl (Γ' := []) rfl (n := 13) rfl (g := 0) rfl (fun _ => rfl) ?_
 unfold i_IsFinite at h
 refine zQ ?_
 refine zA (r := b false) rfl rfl rfl rfl rfl ?_
 refine zN ?_
 refine RunC.seq ?_
 obtain ⟨x1, hx1, h⟩ := olet_some h
 obtain ⟨r2, hf2, h⟩ := obind_some h
 refine RunC.regionW ?_
 refine zM (r := f32 a0) rfl rfl rfl rfl rfl ?_
 refine ROps.d (r := f64 x1) (fs := []) (Γ' := []) rfl rfl rfl (TOp.eqr (TOp.widen (src := 45) (dst := 55) ⟨_, pun45⟩ pun55 rfl (OpF.tmp rfl)) (congrArg (f .f64) hx1)) rfl ?_
 refine ROps.d (r := b r2) (fs := []) (Γ' := []) rfl rfl rfl (TOp.callB (CallAs.func ent66 rfl rfl) (Bors.cons (Bor.pure rfl) Bors.nil) rfl rfl (i_isFinite64_ok x1 r2 hf2)) rfl ?_
 refine zA (r := b r2) rfl rfl rfl rfl rfl ?_
 refine zN ?_
 refine RunC.ret ?_
 have hq := Option.some.inj h
 subst q0
 exact bodyQ.pure (.inr rfl) rfl (Res.one rfl (RV.tmp rfl))
noncomputable def i_areFinite_1 (a0 : F) : Option (Bool) :=
 obind (i_IsFinite a0) fun (r1 : Bool) =>
 some (!r1)
theorem i_areFinite_1_ok (a0 : F) (q0 : Bool) (h : i_areFinite_1 a0 = some q0) : Ev Try.prog 57 [f32 a0] [] (b q0) [] := by
 refine Ev.start Try.func57 rfl rfl 0 (τ := [(0, f32 a0)]) rfl (Γ' := []) rfl (n := 13) rfl (g := 0) rfl (fun _ => rfl) ?_
 unfold i_areFinite_1 at h
 refine zQ ?_
 refine zA (r := b false) rfl rfl rfl rfl rfl ?_
 refine zN ?_
 refine RunC.seq ?_
 obtain ⟨r1, hf1, h⟩ := obind_some h
 refine RunC.regionW ?_
 refine zM (r := f32 a0) rfl rfl rfl rfl rfl ?_
 refine ROps.d (r := b r1) (fs := []) (Γ' := []) rfl rfl rfl (TOp.callB (CallAs.func ent58 rfl rfl) (Bors.cons (Bor.pure rfl) Bors.nil) rfl rfl (i_IsFinite_ok a0 r1 hf1)) rfl ?_
 refine zL (r := b (!r1)) rfl rfl rfl (LOp.not rfl rfl) ?_
 refine zA (r := b (!r1)) rfl rfl rfl rfl rfl ?_
 refine zN ?_
 refine RunC.ret ?_
 have hq := Option.some.inj h
 subst q0
 exact bodyQ.pure (.inr rfl) rfl (Res.one rfl (RV.tmp rfl))
noncomputable def x_slices_IndexFunc_float32_float32_1Fi_areFinite_1_b1 (a0 : List F) (v1 : Int) : Option (LR (Int) (Unit) (Int)) :=
 bsel (decide (v1 < (a0.length : Int))) (
  obind (at? a0 v1) fun (e2 : F) =>
  obind (i_areFinite_1 e2) fun (r3 : Bool) =>
  bsel r3 (
   some (LR.ret v1)) (
   olet (IntKind.i64.wrap (v1 + 1)) fun (x4 : Int) =>
   some (LR.next x4))) (
  some (LR.out ()))
noncomputable def x_slices_IndexFunc_float32_float32_1Fi_areFinite_1_s1 (a0 : List F) : (Int) → Option (LR (Int) (Unit) (Int)) := fun s => x_slices_IndexFunc_float32_float32_1Fi_areFinite_1_b1 a0 s
noncomputable def x_slices_IndexFunc_float32_float32_1Fi_areFinite_1_k1  : Option (Int) :=
 some (-1)
noncomputable def x_slices_IndexFunc_float32_float32_1Fi_areFinite_1 (a0 : List F) : Option (Int) :=
 obind (loopM (x_slices_IndexFunc_float32_float32_1Fi_areFinite_1_s1 a0) 0) fun z => osum z (fun _ => x_slices_IndexFunc_float32_float32_1Fi_areFinite_1_k1) (fun r => some r)
theorem x_slices_IndexFunc_float32_float32_1Fi_areFinite_1_ok (a0 : List F) (q0 : Int) (h : x_slices_IndexFunc_float32_float32_1Fi_areFinite_1 a0 = some q0) : Ev Try.prog 65 [sl a0.length (a0.map f32), fn (.func 57) [] []] [] (i64 q0) [] := by
 refine Ev.start Try.func65 rfl rfl 0 (τ := [(0, sl a0.length (a0.map f32)), (1, fn (.func 57) [] [])]) rfl (Γ' := []) rfl (n := 39) rfl (g := 0) rfl (fun _ => rfl) ?_
 unfold x_slices_IndexFunc_float32_float32_1Fi_areFinite_1 at h
 refine zQ ?_
 refine zA (r := i64 0) rfl rfl rfl rfl rfl ?_
 refine zN ?_
 refine RunC.seq ?_
 refine zQ ?_
 refine zM (r := sl a0.length (a0.map f32)) rfl rfl rfl rfl rfl ?_
 refine zL (r := i64 (a0.length : Int)) rfl rfl rfl (LOp.len_sl und22 rfl rfl) ?_
 refine zM (r := i64 0) rfl rfl rfl rfl rfl ?_
 refine zN ?_
 obtain ⟨z2, hz_2, h⟩ := obind_some h
 refine RunC.cutN (fun τ Γ => WeakLe τ [] ∧ DeadLe Γ [] ∧ z2 = .inl ()) ?_ ?_
 ·refine RunC.block (RunC.loop (RunL.loopM (x := z2) (x_slices_IndexFunc_float32_float32_1Fi_areFinite_1_s1 a0) (fun (s : Int) τ Γ => WeakLe τ [(0, sl a0.length (a0.map f32)), (1, fn (.func 57) [] []), (7, i64 (a0.length : Int)), (8, i64 s)] ∧ DeadLe Γ []) ?_ _ _ _ hz_2 ⟨⟨aR, aR, aR, aR, trivial⟩, trivial⟩))
  rintro v1 τ2 Γ2 y2_ ⟨hw2, hd2⟩ h2_ ho2 hr2
  refine RunC.wl (τ' := [(0, sl a0.length (a0.map f32)), (1, fn (.func 57) [] []), (7, i64 (a0.length : Int)), (8, i64 v1)]) (Γ' := []) hw2 hd2 ?_
  replace h2_ : x_slices_IndexFunc_float32_float32_1Fi_areFinite_1_b1 a0 v1 = some y2_ := h2_
  unfold x_slices_IndexFunc_float32_float32_1Fi_areFinite_1_b1 at h2_
  refine RunC.seq ?_
  rcases bsel_some h2_ with ⟨hc1, h2_⟩ | ⟨hc1, h2_⟩
  ·refine RunC.regionW ?_
   refine zL (r := b true) rfl rfl rfl (LOp.eqb (LOp.lss rfl rfl rfl) hc1) ?_
   refine zN ?_
   refine RunC.seq ?_
   refine RunC.cond_true rfl rfl ?_
   refine RunC.skip ?_
   refine RunC.seq ?_
   refine RunC.block ?_
   refine zQ ?_
   refine zM (r := i64 v1) rfl rfl rfl rfl rfl ?_
   refine zA (r := i64 v1) rfl rfl rfl rfl rfl ?_
   refine zN ?_
   refine RunC.seq ?_
   obtain ⟨e2, he2, h2_⟩ := obind_some h2_
   obtain ⟨r3, hf3, h2_⟩ := obind_some h2_
   rcases bsel_some h2_ with ⟨hc4, h2_⟩ | ⟨hc4, h2_⟩
   ·refine RunC.regionW ?_
    refine zM (r := fn (.func 57) [] []) rfl rfl rfl rfl rfl ?_
    refine zM (r := sl a0.length (a0.map f32)) rfl rfl rfl rfl rfl ?_
    refine zM (r := i64 v1) rfl rfl rfl rfl rfl ?_
    refine zL (r := ptr [f32 e2]) rfl rfl rfl (LOp.le (LOp.ix (f := f32) und22 siz45 rfl rfl rfl rfl he2) ALe.ptr) ?_
    refine zL (r := f32 e2) rfl rfl rfl (LOp.load1 agg45 rfl rfl) ?_
    refine ROps.d (r := b true) (fs := []) (Γ' := []) rfl rfl rfl (TOp.eqb (TOp.callB (CallAs.fn ent57 rfl rfl rfl rfl) (Bors.cons (Bor.pure rfl) Bors.nil) rfl rfl (i_areFinite_1_ok e2 r3 hf3)) hc4) rfl ?_
    refine zN ?_
    refine RunC.cond_true rfl rfl ?_
    refine zQ ?_
    refine zM (r := i64 v1) rfl rfl rfl rfl rfl ?_
    refine zA (r := i64 v1) rfl rfl rfl rfl rfl ?_
    refine zN ?_
    refine RunC.ret ?_
    cases Option.some.inj h2_
    have hx3_ := hr2 _ rfl
    subst hx3_
    have hq := Option.some.inj h
    subst q0
    exact bodyQ.pure (.inr rfl) rfl (Res.one rfl (RV.tmp rfl))
   ·refine RunC.regionW ?_
    refine zM (r := fn (.func 57) [] []) rfl rfl rfl rfl rfl ?_
    refine zM (r := sl a0.length (a0.map f32)) rfl rfl rfl rfl rfl ?_
    refine zM (r := i64 v1) rfl rfl rfl rfl rfl ?_
    refine zL (r := ptr [f32 e2]) rfl rfl rfl (LOp.le (LOp.ix (f := f32) und22 siz45 rfl rfl rfl rfl he2) ALe.ptr) ?_
    refine zL (r := f32 e2) rfl rfl rfl (LOp.load1 agg45 rfl rfl) ?_
    refine ROps.d (r := b false) (fs := []) (Γ' := []) rfl rfl rfl (TOp.eqb (TOp.callB (CallAs.fn ent57 rfl rfl rfl rfl) (Bors.cons (Bor.pure rfl) Bors.nil) rfl rfl (i_areFinite_1_ok e2 r3 hf3)) hc4) rfl ?_
    refine zN ?_
    refine RunC.cond_false rfl rfl ?_
    refine RunC.skip ?_
    obtain ⟨x4, hx5, h2_⟩ := olet_some h2_
    refine RunC.regionW ?_
    refine zL (r := i64 x4) rfl rfl rfl (LOp.eqr (LOp.add rfl rfl rfl) (congrArg (ik .i64) hx5)) ?_
    refine zM (r := i64 x4) rfl rfl rfl rfl rfl ?_
    refine zN ?_
    cases Option.some.inj h2_
    exact ⟨_, rfl, ⟨aR, aR, aR, aR, trivial⟩, trivial⟩
  ·refine RunC.regionW ?_
   refine zL (r := b false) rfl rfl rfl (LOp.eqb (LOp.lss rfl rfl rfl) hc1) ?_
   refine zN ?_
   refine RunC.seq ?_
   refine RunC.cond_false rfl rfl ?_
   refine RunC.exit ?_
   cases Option.some.inj h2_
   have hx := ho2 _ rfl
   exact ⟨trivial, trivial, hx⟩
 ·rintro τ4 Γ4 ⟨hw4, hd4, rfl⟩
  refine RunC.wl hw4 hd4 ?_
  replace h : x_slices_IndexFunc_float32_float32_1Fi_areFinite_1_k1 = some q0 := h
  unfold x_slices_IndexFunc_float32_float32_1Fi_areFinite_1_k1 at h
  refine zQ ?_
  refine zA (r := i64 (-1)) rfl rfl rfl rfl rfl ?_
  refine zN ?_
  refine RunC.ret ?_
  have hq := Option.some.inj h
  subst q0
  exact bodyQ.pure (.inr rfl) rfl (Res.one rfl (RV.tmp rfl))
noncomputable def x_slices_ContainsFunc_float32_float32_1Fi_areFinite_1 (a0 : List F) : Option (Bool) :=
 obind (x_slices_IndexFunc_float32_float32_1Fi_areFinite_1 a0) fun (r1 : Int) =>
 some (decide (0 ≤ r1))
theorem x_slices_ContainsFunc_float32_float32_1Fi_areFinite_1_ok (a0 : List F) (q0 : Bool) (h : x_slices_ContainsFunc_float32_float32_1Fi_areFinite_1 a0 = some q0) : Ev Try.prog 56 [sl a0.length (a0.map f32), fn (.func 57) [] []] [] (b q0) [] := by
 refine Ev.start Try.func56 rfl rfl 0 (τ := [(0, sl a0.length (a0.map f32)), (1, fn (.func 57) [] [])]) rfl (Γ' := []) rfl (n := 19) rfl (g := 0) rfl (fun _ => rfl) ?_
 unfold x_slices_ContainsFunc_float32_float32_1Fi_areFinite_1 at h
 refine zQ ?_
 refine zA (r := b false) rfl rfl rfl rfl rfl ?_
 refine zN ?_
 refine RunC.seq ?_
 obtain ⟨r1, hf1, h⟩ := obind_some h
 refine RunC.regionW ?_
 refine zM (r := sl a0.length (a0.map f32)) rfl rfl rfl rfl rfl ?_
 refine zM (r := fn (.func 57) [] []) rfl rfl rfl rfl rfl ?_
 refine ROps.d (r := i64 r1) (fs := []) (Γ' := []) rfl rfl rfl (TOp.callB (CallAs.func ent65 rfl rfl) (Bors.cons (Bor.sl (fun _ => rfl)) (Bors.cons (Bor.fn Bors.nil Bors.nil) Bors.nil)) rfl rfl (x_slices_IndexFunc_float32_float32_1Fi_areFinite_1_ok a0 r1 hf1)) rfl ?_
 refine zL (r := b (decide (0 ≤ r1))) rfl rfl rfl (LOp.geq rfl rfl rfl) ?_
 refine zA (r := b (decide (0 ≤ r1))) rfl rfl rfl rfl rfl ?_
 refine zN ?_
 refine RunC.ret ?_
 have hq := Option.some.inj h
 subst q0
 exact bodyQ.pure (.inr rfl) rfl (Res.one rfl (RV.tmp rfl))
noncomputable def i_areFinite (a0 : List F) : Option (Bool) :=
 obind (x_slices_ContainsFunc_float32_float32_1Fi_areFinite_1 a0) fun (r1 : Bool) =>
 some (!r1)
theorem i_areFinite_ok (a0 : List F) (q0 : Bool) (h : i_areFinite a0 = some q0) : Ev Try.prog 44 [sl a0.length (a0.map f32)] [] (b q0) [] := by
 refine Ev.start Try.func44 rfl rfl 0 (τ := [(0, sl a0.length (a0.map f32))]) rfl (Γ' := []) rfl (n := 13) rfl (g := 0) rfl (fun _ => rfl) ?_
 unfold i_areFinite at h
 refine zQ ?_
 refine zA (r := b false) rfl rfl rfl rfl rfl ?_
 refine zN ?_
 refine RunC.seq ?_
 obtain ⟨r1, hf1, h⟩ := obind_some h
 refine RunC.regionW ?_
 refine zM (r := sl a0.length (a0.map f32)) rfl rfl rfl rfl rfl ?_
 refine ROps.d (r := b r1) (fs := []) (Γ' := []) rfl rfl rfl (TOp.callB (CallAs.func ent56 rfl rfl) (Bors.cons (Bor.sl (fun _ => rfl)) (Bors.cons (Bor.fn Bors.nil Bors.nil) Bors.nil)) rfl rfl (x_slices_ContainsFunc_float32_float32_1Fi_areFinite_1_ok a0 r1 hf1)) rfl ?_
 refine zL (r := b (!r1)) rfl rfl rfl (LOp.not rfl rfl) ?_
 refine zA (r := b (!r1)) rfl rfl rfl rfl rfl ?_
 refine zN ?_
 refine RunC.ret ?_
 have hq := Option.some.inj h
 subst q0
 exact bodyQ.pure (.inr rfl) rfl (Res.one rfl (RV.tmp rfl))
noncomputable def i_ValidMatrix (a0 : Int) (a1 : Int) (a2 : List F) : Option (Bool) :=
 obind (i_isSide a0) fun (r1 : Bool) =>
 bsel r1 (
  obind (i_isSide a1) fun (r2 : Bool) =>
  bsel r2 (
   obind (i_length_float32 a2) fun (r3 : Int) =>
   olet (IntKind.i64.wrap (a0 * a1)) fun (x4 : Int) =>
   bsel (decide (r3 = x4)) (
    obind (i_areFinite a2) fun (r5 : Bool) =>
    some r5) (
    some false)) (
   some false)) (
  some false)
theorem i_ValidMatrix_ok (a0 : Int) (a1 : Int) (a2 : List F) (q0 : Bool) (h : i_ValidMatrix a0 a1 a2 = some q0) : Ev Try.prog 61 [agg [i64 a0, i64 a1, sl a2.length (a2.map f32)]] [] (b q0) [] := by
 refine Ev.start Try.func61 rfl rfl 0 (τ := [(0, agg [i64 a0, i64 a1, sl a2.length (a2.map f32)])]) rfl (Γ' := []) rfl (n := 55) rfl (g := 0) rfl (fun _ => rfl) ?_
 unfold i_ValidMatrix at h
 refine zQ ?_
 refine ROps.d (r := ptr [i64 a0, i64 a1, sl a2.length (a2.map f32)]) (fs := []) (Γ' := []) rfl rfl rfl (TOp.box_s rfl rfl rfl) rfl ?_
 refine zA (r := b false) rfl rfl rfl rfl rfl ?_
 refine zN ?_
 refine RunC.seq ?_
 obtain ⟨r1, hf1, h⟩ := obind_some h
 rcases bsel_some h with ⟨hc2, h⟩ | ⟨hc2, h⟩
 ·obtain ⟨r2, hf3, h⟩ := obind_some h
  rcases bsel_some h with ⟨hc4, h⟩ | ⟨hc4, h⟩
  ·obtain ⟨r3, hf5, h⟩ := obind_some h
   obtain ⟨x4, hx6, h⟩ := olet_some h
   rcases bsel_some h with ⟨hc7, h⟩ | ⟨hc7, h⟩
   ·obtain ⟨r5, hf8, h⟩ := obind_some h
    refine RunC.region_draw (Γ' := []) 25 mixed 
     (TR.l (r := ptr [i64 a0, i64 a1, sl a2.length (a2.map f32)]) rfl rfl (LOp.fap und31 rfl siz2 rfl rfl rfl) <|
     (TR.l (r := i64 a0) rfl rfl (LOp.load1 agg2 rfl rfl) <|
     (TR.d (r := b true) (fs := []) rfl rfl (TOp.eqb (TOp.callB (CallAs.func ent63 rfl rfl) (Bors.cons (Bor.pure rfl) Bors.nil) rfl rfl (i_isSide_ok a0 r1 hf1)) hc2) <|
     (TR.l (r := b true) rfl rfl (LOp.move rfl rfl) <|
     (TR.l (r := ptr [i64 a1, sl a2.length (a2.map f32)]) rfl rfl (LOp.fap und31 rfl siz2 rfl rfl rfl) <|
     (TR.l (r := i64 a1) rfl rfl (LOp.load1 agg2 rfl rfl) <|
     (TR.d (r := b true) (fs := []) rfl rfl (TOp.eqb (TOp.callB (CallAs.func ent63 rfl rfl) (Bors.cons (Bor.pure rfl) Bors.nil) rfl rfl (i_isSide_ok a1 r2 hf3)) hc4) <|
     (TR.l (r := b true) rfl rfl (LOp.pick_true rfl rfl rfl) <|
     (TR.l (r := b true) rfl rfl (LOp.move rfl rfl) <|
     (TR.l (r := ptr [sl a2.length (a2.map f32)]) rfl rfl (LOp.fap und31 rfl siz22 rfl rfl rfl) <|
     (TR.l (r := sl a2.length (a2.map f32)) rfl rfl (LOp.load1 agg22 rfl rfl) <|
     (TR.d (r := i64 r3) (fs := []) rfl rfl (TOp.callB (CallAs.func ent42 rfl rfl) (Bors.cons (Bor.sl (fun _ => rfl)) Bors.nil) rfl rfl (i_length_float32_ok a2 r3 hf5)) <|
     (TR.l (r := ptr [i64 a0, i64 a1, sl a2.length (a2.map f32)]) rfl rfl (LOp.fap und31 rfl siz2 rfl rfl rfl) <|
     (TR.l (r := i64 a0) rfl rfl (LOp.load1 agg2 rfl rfl) <|
     (TR.l (r := ptr [i64 a1, sl a2.length (a2.map f32)]) rfl rfl (LOp.fap und31 rfl siz2 rfl rfl rfl) <|
     (TR.l (r := i64 a1) rfl rfl (LOp.load1 agg2 rfl rfl) <|
     (TR.l (r := i64 x4) rfl rfl (LOp.eqr (LOp.mul rfl rfl rfl) (congrArg (ik .i64) hx6)) <|
     (TR.l (r := b true) rfl rfl (LOp.eqb (LOp.eql rfl rfl rfl) hc7) <|
     (TR.l (r := b true) rfl rfl (LOp.pick_true rfl rfl rfl) <|
     (TR.l (r := b true) rfl rfl (LOp.move rfl rfl) <|
     (TR.l (r := ptr [sl a2.length (a2.map f32)]) rfl rfl (LOp.fap und31 rfl siz22 rfl rfl rfl) <|
     (TR.l (r := sl a2.length (a2.map f32)) rfl rfl (LOp.load1 agg22 rfl rfl) <|
     (TR.d (r := b r5) (fs := []) rfl rfl (TOp.callB (CallAs.func ent44 rfl rfl) (Bors.cons (Bor.sl (fun _ => rfl)) Bors.nil) rfl rfl (i_areFinite_ok a2 r5 hf8)) <|
     (TR.l (r := b r5) rfl rfl (LOp.pick_true rfl rfl rfl) <|
     (TR.l (r := b r5) rfl rfl (LOp.assign rfl rfl) <|
     TR.nil))))))))))))))))))))))))) rfl (by kernel_rfl) rfl fills_nil rfl ?_
    iterate 25 refine ROps.dropS ?_
    refine ROps.drop0 ?_
    refine zN ?_
    refine RunC.ret ?_
    have hq := Option.some.inj h
    subst q0
    exact bodyQ.pure (.inr rfl) rfl (Res.one rfl (RV.tmp rfl))
   ·refine RunC.region_draw (Γ' := []) 25 mixed 
     (TR.l (r := ptr [i64 a0, i64 a1, sl a2.length (a2.map f32)]) rfl rfl (LOp.fap und31 rfl siz2 rfl rfl rfl) <|
     (TR.l (r := i64 a0) rfl rfl (LOp.load1 agg2 rfl rfl) <|
     (TR.d (r := b true) (fs := []) rfl rfl (TOp.eqb (TOp.callB (CallAs.func ent63 rfl rfl) (Bors.cons (Bor.pure rfl) Bors.nil) rfl rfl (i_isSide_ok a0 r1 hf1)) hc2) <|
     (TR.l (r := b true) rfl rfl (LOp.move rfl rfl) <|
     (TR.l (r := ptr [i64 a1, sl a2.length (a2.map f32)]) rfl rfl (LOp.fap und31 rfl siz2 rfl rfl rfl) <|
     (TR.l (r := i64 a1) rfl rfl (LOp.load1 agg2 rfl rfl) <|
     (TR.d (r := b true) (fs := []) rfl rfl (TOp.eqb (TOp.callB (CallAs.func ent63 rfl rfl) (Bors.cons (Bor.pure rfl) Bors.nil) rfl rfl (i_isSide_ok a1 r2 hf3)) hc4) <|
     (TR.l (r := b true) rfl rfl (LOp.pick_true rfl rfl rfl) <|
     (TR.l (r := b true) rfl rfl (LOp.move rfl rfl) <|
     (TR.l (r := ptr [sl a2.length (a2.map f32)]) rfl rfl (LOp.fap und31 rfl siz22 rfl rfl rfl) <|
     (TR.l (r := sl a2.length (a2.map f32)) rfl rfl (LOp.load1 agg22 rfl rfl) <|
     (TR.d (r := i64 r3) (fs := []) rfl rfl (TOp.callB (CallAs.func ent42 rfl rfl) (Bors.cons (Bor.sl (fun _ => rfl)) Bors.nil) rfl rfl (i_length_float32_ok a2 r3 hf5)) <|
     (TR.l (r := ptr [i64 a0, i64 a1, sl a2.length (a2.map f32)]) rfl rfl (LOp.fap und31 rfl siz2 rfl rfl rfl) <|
     (TR.l (r := i64 a0) rfl rfl (LOp.load1 agg2 rfl rfl) <|
     (TR.l (r := ptr [i64 a1, sl a2.length (a2.map f32)]) rfl rfl (LOp.fap und31 rfl siz2 rfl rfl rfl) <|
     (TR.l (r := i64 a1) rfl rfl (LOp.load1 agg2 rfl rfl) <|
     (TR.l (r := i64 x4) rfl rfl (LOp.eqr (LOp.mul rfl rfl rfl) (congrArg (ik .i64) hx6)) <|
     (TR.l (r := b false) rfl rfl (LOp.eqb (LOp.eql rfl rfl rfl) hc7) <|
     (TR.l (r := b false) rfl rfl (LOp.pick_true rfl rfl rfl) <|
     (TR.l (r := b false) rfl rfl (LOp.move rfl rfl) <|
     (TR.s rfl rfl <|
     (TR.s rfl rfl <|
     (TR.s rfl rfl <|
     (TR.l (r := b false) rfl rfl (LOp.pick_false rfl rfl rfl) <|
     (TR.l (r := b false) rfl rfl (LOp.assign rfl rfl) <|
     TR.nil))))))))))))))))))))))))) rfl (by kernel_rfl) rfl fills_nil rfl ?_
    iterate 25 refine ROps.dropS ?_
    refine ROps.drop0 ?_
    refine zN ?_
    refine RunC.ret ?_
    have hq := Option.some.inj h
    subst q0
    exact bodyQ.pure (.inr rfl) rfl (Res.one rfl (RV.tmp rfl))
  ·refine RunC.region_draw (Γ' := []) 25 mixed 
    (TR.l (r := ptr [i64 a0, i64 a1, sl a2.length (a2.map f32)]) rfl rfl (LOp.fap und31 rfl siz2 rfl rfl rfl) <|
    (TR.l (r := i64 a0) rfl rfl (LOp.load1 agg2 rfl rfl) <|
    (TR.d (r := b true) (fs := []) rfl rfl (TOp.eqb (TOp.callB (CallAs.func ent63 rfl rfl) (Bors.cons (Bor.pure rfl) Bors.nil) rfl rfl (i_isSide_ok a0 r1 hf1)) hc2) <|
    (TR.l (r := b true) rfl rfl (LOp.move rfl rfl) <|
    (TR.l (r := ptr [i64 a1, sl a2.length (a2.map f32)]) rfl rfl (LOp.fap und31 rfl siz2 rfl rfl rfl) <|
    (TR.l (r := i64 a1) rfl rfl (LOp.load1 agg2 rfl rfl) <|
    (TR.d (r := b false) (fs := []) rfl rfl (TOp.eqb (TOp.callB (CallAs.func ent63 rfl rfl) (Bors.cons (Bor.pure rfl) Bors.nil) rfl rfl (i_isSide_ok a1 r2 hf3)) hc4) <|
    (TR.l (r := b false) rfl rfl (LOp.pick_true rfl rfl rfl) <|
    (TR.l (r := b false) rfl rfl (LOp.move rfl rfl) <|
    (TR.s rfl rfl <|
    (TR.s rfl rfl <|
    (TR.s rfl rfl <|
    (TR.s rfl rfl <|
    (TR.s rfl rfl <|
    (TR.s rfl rfl <|
    (TR.s rfl rfl <|
    (TR.s rfl rfl <|
    (TR.s rfl rfl <|
    (TR.l (r := b false) rfl rfl (LOp.pick_false rfl rfl rfl) <|
    (TR.l (r := b false) rfl rfl (LOp.move rfl rfl) <|
    (TR.s rfl rfl <|
    (TR.s rfl rfl <|
    (TR.s rfl rfl <|
    (TR.l (r := b false) rfl rfl (LOp.pick_false rfl rfl rfl) <|
    (TR.l (r := b false) rfl rfl (LOp.assign rfl rfl) <|
    TR.nil))))))))))))))))))))))))) rfl (by kernel_rfl) rfl fills_nil rfl ?_
   iterate 25 refine ROps.dropS ?_
   refine ROps.drop0 ?_
   refine zN ?_
   refine RunC.ret ?_
   have hq := Option.some.inj h
   subst q0
   exact bodyQ.pure (.inr rfl) rfl (Res.one rfl (RV.tmp rfl))
 ·refine RunC.region_draw (Γ' := []) 25 mixed 
   (TR.l (r := ptr [i64 a0, i64 a1, sl a2.length (a2.map f32)]) rfl rfl (LOp.fap und31 rfl siz2 rfl rfl rfl) <|
   (TR.l (r := i64 a0) rfl rfl (LOp.load1 agg2 rfl rfl) <|
   (TR.d (r := b false) (fs := []) rfl rfl (TOp.eqb (TOp.callB (CallAs.func ent63 rfl rfl) (Bors.cons (Bor.pure rfl) Bors.nil) rfl rfl (i_isSide_ok a0 r1 hf1)) hc2) <|
   (TR.l (r := b false) rfl rfl (LOp.move rfl rfl) <|
   (TR.s rfl rfl <|
   (TR.s rfl rfl <|
   (TR.s rfl rfl <|
   (TR.l (r := b false) rfl rfl (LOp.pick_false rfl rfl rfl) <|
   (TR.l (r := b false) rfl rfl (LOp.move rfl rfl) <|
   (TR.s rfl rfl <|
   (TR.s rfl rfl <|
   (TR.s rfl rfl <|
   (TR.s rfl rfl <|
   (TR.s rfl rfl <|
   (TR.s rfl rfl <|
   (TR.s rfl rfl <|
   (TR.s rfl rfl <|
   (TR.s rfl rfl <|
   (TR.l (r := b false) rfl rfl (LOp.pick_false rfl rfl rfl) <|
   (TR.l (r := b false) rfl rfl (LOp.move rfl rfl) <|
   (TR.s rfl rfl <|
   (TR.s rfl rfl <|
   (TR.s rfl rfl <|
   (TR.l (r := b false) rfl rfl (LOp.pick_false rfl rfl rfl) <|
   (TR.l (r := b false) rfl rfl (LOp.assign rfl rfl) <|
   TR.nil))))))))))))))))))))))))) rfl (by kernel_rfl) rfl fills_nil rfl ?_
  iterate 25 refine ROps.dropS ?_
  refine ROps.drop0 ?_
  refine zN ?_
  refine RunC.ret ?_
  have hq := Option.some.inj h
  subst q0
  exact bodyQ.pure (.inr rfl) rfl (Res.one rfl (RV.tmp rfl))
noncomputable def i_isSquare (a0 : Int) (a1 : Int) (a2 : List F) : Option (Bool) :=
 obind (i_ValidMatrix a0 a1 a2) fun (r1 : Bool) =>
 bsel r1 (
  some (decide (a0 = a1))) (
  some false)
theorem i_isSquare_ok (a0 : Int) (a1 : Int) (a2 : List F) (q0 : Bool) (h : i_isSquare a0 a1 a2 = some q0) : Ev Try.prog 50 [agg [i64 a0, i64 a1, sl a2.length (a2.map f32)]] [] (b q0) [] := by
 refine Ev.start Try.func50 rfl rfl 0 (τ := [(0, agg [i64 a0, i64 a1, sl a2.length (a2.map f32)])]) rfl (Γ' := []) rfl (n := 25) rfl (g := 0) rfl (fun _ => rfl) ?_
 unfold i_isSquare at h
 refine zQ ?_
 refine ROps.d (r := ptr [i64 a0, i64 a1, sl a2.length (a2.map f32)]) (fs := []) (Γ' := []) rfl rfl rfl (TOp.box_s rfl rfl rfl) rfl ?_
 refine zA (r := b false) rfl rfl rfl rfl rfl ?_
 refine zN ?_
 refine RunC.seq ?_
 obtain ⟨r1, hf1, h⟩ := obind_some h
 rcases bsel_some h with ⟨hc2, h⟩ | ⟨hc2, h⟩
 ·refine RunC.regionW ?_
  refine zL (r := agg [i64 a0, i64 a1, sl a2.length (a2.map f32)]) rfl rfl rfl (LOp.loadAgg agg31 siz31 rfl rfl rfl rfl) ?_
  refine ROps.d (r := b true) (fs := []) (Γ' := []) rfl rfl rfl (TOp.eqb (TOp.callB (CallAs.func ent61 rfl rfl) (Bors.cons (Bor.agg (Bors.cons (Bor.pure rfl) (Bors.cons (Bor.pure rfl) (Bors.cons (Bor.sl (fun _ => rfl)) Bors.nil)))) Bors.nil) rfl rfl (i_ValidMatrix_ok a0 a1 a2 r1 hf1)) hc2) rfl ?_
  refine zM (r := b true) rfl rfl rfl rfl rfl ?_
  refine zL (r := ptr [i64 a0, i64 a1, sl a2.length (a2.map f32)]) rfl rfl rfl (LOp.fap und31 rfl siz2 rfl rfl rfl) ?_
  refine zL (r := i64 a0) rfl rfl rfl (LOp.load1 agg2 rfl rfl) ?_
  refine zL (r := ptr [i64 a1, sl a2.length (a2.map f32)]) rfl rfl rfl (LOp.fap und31 rfl siz2 rfl rfl rfl) ?_
  refine zL (r := i64 a1) rfl rfl rfl (LOp.load1 agg2 rfl rfl) ?_
  refine zL (r := b (decide (a0 = a1))) rfl rfl rfl (LOp.eql rfl rfl rfl) ?_
  refine zL (r := b (decide (a0 = a1))) rfl rfl rfl (LOp.pick_true rfl rfl rfl) ?_
  refine zA (r := b (decide (a0 = a1))) rfl rfl rfl rfl rfl ?_
  refine zN ?_
  refine RunC.ret ?_
  have hq := Option.some.inj h
  subst q0
  exact bodyQ.pure (.inr rfl) rfl (Res.one rfl (RV.tmp rfl))
 ·refine RunC.regionW ?_
  refine zL (r := agg [i64 a0, i64 a1, sl a2.length (a2.map f32)]) rfl rfl rfl (LOp.loadAgg agg31 siz31 rfl rfl rfl rfl) ?_
  refine ROps.d (r := b false) (fs := []) (Γ' := []) rfl rfl rfl (TOp.eqb (TOp.callB (CallAs.func ent61 rfl rfl) (Bors.cons (Bor.agg (Bors.cons (Bor.pure rfl) (Bors.cons (Bor.pure rfl) (Bors.cons (Bor.sl (fun _ => rfl)) Bors.nil)))) Bors.nil) rfl rfl (i_ValidMatrix_ok a0 a1 a2 r1 hf1)) hc2) rfl ?_
  refine zM (r := b false) rfl rfl rfl rfl rfl ?_
  refine ROps.s rfl rfl rfl ?_
  refine ROps.s rfl rfl rfl ?_
  refine ROps.s rfl rfl rfl ?_
  refine ROps.s rfl rfl rfl ?_
  refine ROps.s rfl rfl rfl ?_
  refine zL (r := b false) rfl rfl rfl (LOp.pick_false rfl rfl rfl) ?_
  refine zA (r := b false) rfl rfl rfl rfl rfl ?_
  refine zN ?_
  refine RunC.ret ?_
  have hq := Option.some.inj h
  subst q0
  exact bodyQ.pure (.inr rfl) rfl (Res.one rfl (RV.tmp rfl))
noncomputable def i_Matrix_at (a0 : Int) (a1 : Int) (a2 : List F) (a3 : Int) (a4 : Int) : Option (F) :=
 olet (IntKind.i64.wrap (a3 * a1)) fun (x1 : Int) =>
 olet (IntKind.i64.wrap (x1 + a4)) fun (x2 : Int) =>
 obind (at? a2 x2) fun (e3 : F) =>
 some e3
theorem i_Matrix_at_ok (a0 : Int) (a1 : Int) (a2 : List F) (a3 : Int) (a4 : Int) (q0 : F) (h : i_Matrix_at a0 a1 a2 a3 a4 = some q0) : Ev Try.prog 27 [agg [i64 a0, i64 a1, sl a2.length (a2.map f32)], i64 a3, i64 a4] [] (f32 q0) [] := by
 refine Ev.start Try.func27 rfl rfl 0 (τ := [(0, agg [i64 a0, i64 a1, sl a2.length (a2.map f32)]), (1, i64 a3), (2, i64 a4)]) rfl (Γ' := []) rfl (n := 35) rfl (g := 0) rfl (fun _ => rfl) ?_
 unfold i_Matrix_at at h
 refine zQ ?_
 refine ROps.d (r := ptr [i64 a0, i64 a1, sl a2.length (a2.map f32)]) (fs := []) (Γ' := []) rfl rfl rfl (TOp.box_s rfl rfl rfl) rfl ?_
 refine zL (r := f32 (some 0)) rfl rfl rfl (LOp.le (LOp.assign rfl rfl) (ALe.fl (by kernel_rfl) (by kernel_rfl))) ?_
 refine zN ?_
 refine RunC.seq ?_
 obtain ⟨x1, hx1, h⟩ := olet_some h
 obtain ⟨x2, hx2, h⟩ := olet_some h
 obtain ⟨e3, he3, h⟩ := obind_some h
 refine RunC.regionW ?_
 refine zL (r := ptr [sl a2.length (a2.map f32)]) rfl rfl rfl (LOp.fap und31 rfl siz22 rfl rfl rfl) ?_
 refine zL (r := sl a2.length (a2.map f32)) rfl rfl rfl (LOp.load1 agg22 rfl rfl) ?_
 refine zM (r := i64 a3) rfl rfl rfl rfl rfl ?_
 refine zL (r := ptr [i64 a1, sl a2.length (a2.map f32)]) rfl rfl rfl (LOp.fap und31 rfl siz2 rfl rfl rfl) ?_
 refine zL (r := i64 a1) rfl rfl rfl (LOp.load1 agg2 rfl rfl) ?_
 refine zL (r := i64 x1) rfl rfl rfl (LOp.eqr (LOp.mul rfl rfl rfl) (congrArg (ik .i64) hx1)) ?_
 refine zM (r := i64 a4) rfl rfl rfl rfl rfl ?_
 refine zL (r := i64 x2) rfl rfl rfl (LOp.eqr (LOp.add rfl rfl rfl) (congrArg (ik .i64) hx2)) ?_
 refine zL (r := ptr [f32 e3]) rfl rfl rfl (LOp.le (LOp.ix (f := f32) und22 siz45 rfl rfl rfl rfl he3) ALe.ptr) ?_
 refine zL (r := f32 e3) rfl rfl rfl (LOp.load1 agg45 rfl rfl) ?_
 refine zA (r := f32 e3) rfl rfl rfl rfl rfl ?_
 refine zN ?_
 refine RunC.ret ?_
 have hq := Option.some.inj h
 subst q0
 exact bodyQ.pure (.inr rfl) rfl (Res.one rfl (RV.tmp rfl))
noncomputable def i_Matrix_middle_b1 (a0 : Int) (a1 : Int) (a2 : List F) (L3 : List F) (v4 : Int) : Option (LR ((List F) × Int) ((List F)) ((List F))) :=
 bsel (decide (v4 < (imin a0 a1))) (
  obind (i_Matrix_at a0 a1 a2 v4 v4) fun (r5 : F) =>
  need (apok 4 L3.length 1) <|
  olet (IntKind.i64.wrap (v4 + 1)) fun (x6 : Int) =>
  some (LR.next ((L3 ++ ([r5] : List F)), x6))) (
  some (LR.out L3))
noncomputable def i_Matrix_middle_s1 (a0 : Int) (a1 : Int) (a2 : List F) : ((List F) × Int) → Option (LR ((List F) × Int) ((List F)) ((List F))) := fun s => i_Matrix_middle_b1 a0 a1 a2 s.1 s.2
noncomputable def i_Matrix_middle_k1 (L9 : List F) : Option ((List F)) :=
 some L9
noncomputable def i_Matrix_middle (a0 : Int) (a1 : Int) (a2 : List F) : Option ((List F)) :=
 obind (loopM (i_Matrix_middle_s1 a0 a1 a2) (([] : List F), 0)) fun z => osum z (fun e => i_Matrix_middle_k1 e) (fun r => some r)
theorem i_Matrix_middle_ok (a0 : Int) (a1 : Int) (a2 : List F) (q0 : List F) (h : i_Matrix_middle a0 a1 a2 = some q0) : Ev Try.prog 52 [agg [i64 a0, i64 a1, sl a2.length (a2.map f32)]] [] (oref 0 0 0 q0.length) [⟨0, some (q0.map f32)⟩] := by
 refine Ev.start Try.func52 rfl rfl 2 (τ := [(0, agg [i64 a0, i64 a1, sl a2.length (a2.map f32)])]) rfl (Γ' := [⟨0, none⟩, ⟨0, none⟩]) rfl (n := 47) rfl (g := 0) rfl (fun _ => rfl) ?_
 unfold i_Matrix_middle at h
 refine zQ ?_
 refine ROps.d (r := ptr [i64 a0, i64 a1, sl a2.length (a2.map f32)]) (fs := []) (Γ' := [⟨0, none⟩, ⟨0, none⟩]) rfl rfl rfl (TOp.box_s rfl rfl rfl) rfl ?_
 refine zA (r := nilsl) rfl rfl rfl rfl rfl ?_
 refine zN ?_
 refine zQ ?_
 refine ROps.d (r := oref 0 1 0 0) (fs := [(0, (([] : List F).map f32))]) (Γ' := [⟨1, some (([] : List F).map f32)⟩, ⟨0, none⟩]) rfl rfl rfl (TOp.buildSlice_o (g := ⟨0, none⟩) (za := f32 (some 0)) (qs := []) 0 rfl und22 siz45 zer45 rfl zel45 rfl rfl trivial rfl) rfl ?_
 refine zA (r := oref 0 1 0 0) rfl rfl rfl rfl rfl ?_
 refine zN ?_
 refine RunC.seq ?_
 refine zQ ?_
 refine zL (r := ptr [i64 a0, i64 a1, sl a2.length (a2.map f32)]) rfl rfl rfl (LOp.fap und31 rfl siz2 rfl rfl rfl) ?_
 refine zL (r := i64 a0) rfl rfl rfl (LOp.load1 agg2 rfl rfl) ?_
 refine zL (r := ptr [i64 a1, sl a2.length (a2.map f32)]) rfl rfl rfl (LOp.fap und31 rfl siz2 rfl rfl rfl) ?_
 refine zL (r := i64 a1) rfl rfl rfl (LOp.load1 agg2 rfl rfl) ?_
 refine zL (r := i64 (imin a0 a1)) rfl rfl rfl (LOp.min2 rfl rfl rfl) ?_
 refine zM (r := i64 0) rfl rfl rfl rfl rfl ?_
 refine zN ?_
 obtain ⟨z2, hz_2, h⟩ := obind_some h
 refine RunC.cutN (fun τ Γ => ∃ (L9 : List F) (u7 : Nat) (u8 : Nat), WeakLe τ [(3, oref 0 u7 0 L9.length)] ∧ DeadLe Γ [⟨u7, some (L9.map f32)⟩, ⟨u8, none⟩] ∧ z2 = .inl L9) ?_ ?_
 ·refine RunC.block (RunC.loop (RunL.loopM (x := z2) (i_Matrix_middle_s1 a0 a1 a2) (fun (s : (List F) × Int) τ Γ => ∃ (u1 : Nat) (u2 : Nat), WeakLe τ [(1, ptr [i64 a0, i64 a1, sl a2.length (a2.map f32)]), (3, oref 0 u1 0 s.1.length), (10, i64 (imin a0 a1)), (11, i64 s.2)] ∧ DeadLe Γ [⟨u1, some (s.1.map f32)⟩, ⟨u2, none⟩]) ?_ _ _ _ hz_2 ⟨1, 0, ⟨aR, aR, aR, aR, trivial⟩, ⟨⟨rfl, .inr rfl⟩, ⟨rfl, .inl rfl⟩, trivial⟩⟩))
  rintro ⟨L3, v4⟩ τ2 Γ2 y2_ ⟨u1, u2, hw2, hd2⟩ h2_ ho2 hr2
  refine RunC.wl (τ' := [(1, ptr [i64 a0, i64 a1, sl a2.length (a2.map f32)]), (3, oref 0 u1 0 L3.length), (10, i64 (imin a0 a1)), (11, i64 v4)]) (Γ' := [⟨u1, some (L3.map f32)⟩, ⟨u2, none⟩]) hw2 hd2 ?_
  replace h2_ : i_Matrix_middle_b1 a0 a1 a2 L3 v4 = some y2_ := h2_
  unfold i_Matrix_middle_b1 at h2_
  refine RunC.seq ?_
  rcases bsel_some h2_ with ⟨hc1, h2_⟩ | ⟨hc1, h2_⟩
  ·refine RunC.regionW ?_
   refine zL (r := b true) rfl rfl rfl (LOp.eqb (LOp.lss rfl rfl rfl) hc1) ?_
   refine zN ?_
   refine RunC.seq ?_
   refine RunC.cond_true rfl rfl ?_
   refine RunC.skip ?_
   refine RunC.seq ?_
   refine RunC.block ?_
   refine zQ ?_
   refine zM (r := i64 v4) rfl rfl rfl rfl rfl ?_
   refine zA (r := i64 v4) rfl rfl rfl rfl rfl ?_
   refine zN ?_
   obtain ⟨r5, hf2, h2_⟩ := obind_some h2_
   obtain ⟨hm3, h2_⟩ := need_some h2_
   refine RunC.regionW ?_
   refine zM (r := oref 0 u1 0 L3.length) rfl rfl rfl rfl rfl ?_
   refine zL (r := agg [i64 a0, i64 a1, sl a2.length (a2.map f32)]) rfl rfl rfl (LOp.loadAgg agg31 siz31 rfl rfl rfl rfl) ?_
   refine zM (r := i64 v4) rfl rfl rfl rfl rfl ?_
   refine zM (r := i64 v4) rfl rfl rfl rfl rfl ?_
   refine ROps.d (r := f32 r5) (fs := []) (Γ' := [⟨u1, some (L3.map f32)⟩, ⟨u2, none⟩]) rfl rfl rfl (TOp.callB (CallAs.func ent27 rfl rfl) (Bors.cons (Bor.agg (Bors.cons (Bor.pure rfl) (Bors.cons (Bor.pure rfl) (Bors.cons (Bor.sl (fun _ => rfl)) Bors.nil)))) (Bors.cons (Bor.pure rfl) (Bors.cons (Bor.pure rfl) Bors.nil))) rfl rfl (i_Matrix_at_ok a0 a1 a2 v4 v4 r5 hf2)) rfl ?_
   refine ROps.d (r := oref 1 (u2 + 1) 0 1) (fs := [(1, (([r5] : List F).map f32))]) (Γ' := [⟨u1, some (L3.map f32)⟩, ⟨(u2 + 1), some (([r5] : List F).map f32)⟩]) rfl rfl rfl (TOp.buildSlice_o (g := ⟨u2, none⟩) (za := f32 (some 0)) (qs := [(0, [f32 r5])]) 1 rfl und22 siz45 zer45 rfl zel45 rfl rfl ⟨rfl, ⟨_, ALe.refl _, rfl⟩, trivial⟩ rfl) rfl ?_
   refine ROps.app (f := f32) (xs := L3) (ys := ([r5] : List F)) (Γ' := [⟨(u1 + 1), some ((L3 ++ ([r5] : List F)).map f32)⟩, ⟨(u2 + 1), some (([r5] : List F).map f32)⟩]) rfl pun22 inf45 rfl rfl rfl rfl rfl rfl rfl rfl rfl (by simp) (ReadAs.own rfl (by simp)) (ones_map (fun _ => rfl)) (ap_by hm3) (ap_mx hm3) rfl ?_
   refine zA (r := oref 0 (u1 + 1) 0 (L3.length + 1)) rfl rfl rfl rfl rfl ?_
   refine zN ?_
   refine RunC.wl (τ' := [(1, ptr [i64 a0, i64 a1, sl a2.length (a2.map f32)]), (3, oref 0 (u1 + 1) 0 (L3.length + 1)), (10, i64 (imin a0 a1)), (11, i64 v4)]) (Γ' := [⟨(u1 + 1), some ((L3 ++ ([r5] : List F)).map f32)⟩, ⟨(u2 + 1), none⟩]) ⟨aR, aR, aR, aR, trivial⟩ ⟨⟨rfl, .inr rfl⟩, ⟨rfl, .inl rfl⟩, trivial⟩ ?_
   obtain ⟨x6, hx4, h2_⟩ := olet_some h2_
   refine RunC.regionW ?_
   refine zL (r := i64 x6) rfl rfl rfl (LOp.eqr (LOp.add rfl rfl rfl) (congrArg (ik .i64) hx4)) ?_
   refine zM (r := i64 x6) rfl rfl rfl rfl rfl ?_
   refine zN ?_
   cases Option.some.inj h2_
   exact ⟨_, rfl, (u1 + 1), (u2 + 1), ⟨aR, (ALe.eq (by rw [(app_len rfl rfl)] <;> rfl)), aR, aR, trivial⟩, ⟨⟨rfl, .inr rfl⟩, ⟨rfl, .inl rfl⟩, trivial⟩⟩
  ·refine RunC.regionW ?_
   refine zL (r := b false) rfl rfl rfl (LOp.eqb (LOp.lss rfl rfl rfl) hc1) ?_
   refine zN ?_
   refine RunC.seq ?_
   refine RunC.cond_false rfl rfl ?_
   refine RunC.exit ?_
   cases Option.some.inj h2_
   have hx := ho2 _ rfl
   exact ⟨L3, u1, u2, ⟨aR, trivial⟩, ⟨⟨rfl, .inr rfl⟩, ⟨rfl, .inl rfl⟩, trivial⟩, hx⟩
 ·rintro τ3 Γ3 ⟨L9, u7, u8, hw3, hd3, rfl⟩
  refine RunC.wl hw3 hd3 ?_
  replace h : i_Matrix_middle_k1 L9 = some q0 := h
  unfold i_Matrix_middle_k1 at h
  refine zQ ?_
  refine zM (r := oref 0 u7 0 L9.length) rfl rfl rfl rfl rfl ?_
  refine zA (r := oref 0 u7 0 L9.length) rfl rfl rfl rfl rfl ?_
  refine zN ?_
  refine RunC.ret ?_
  have hq := Option.some.inj h
  subst q0
  exact bodyQ.mk (r' := oref 0 u7 0 L9.length) [(0, u7)] (.inr rfl) rfl (show List.Nodup [0] from by decide) (by simp [ren, rens, sigma]) rfl (Res.one rfl (RV.tmp rfl)) (SelL.arr0 (f := f32) (fun _ => rfl) rfl trivial)
noncomputable def x_slices_Index_float32_float32_b1 (a0 : List F) (a1 : F) (v1 : Int) : Option (LR (Int) (Unit) (Int)) :=
 bsel (decide (v1 < (a0.length : Int))) (
  obind (at? a0 v1) fun (e2 : F) =>
  bsel (feq .f32 a1 e2) (
   some (LR.ret v1)) (
   olet (IntKind.i64.wrap (v1 + 1)) fun (x3 : Int) =>
   some (LR.next x3))) (
  some (LR.out ()))
noncomputable def x_slices_Index_float32_float32_s1 (a0 : List F) (a1 : F) : (Int) → Option (LR (Int) (Unit) (Int)) := fun s => x_slices_Index_float32_float32_b1 a0 a1 s
noncomputable def x_slices_Index_float32_float32_k1  : Option (Int) :=
 some (-1)
noncomputable def x_slices_Index_float32_float32 (a0 : List F) (a1 : F) : Option (Int) :=
 obind (loopM (x_slices_Index_float32_float32_s1 a0 a1) 0) fun z => osum z (fun _ => x_slices_Index_float32_float32_k1) (fun r => some r)
theorem x_slices_Index_float32_float32_ok (a0 : List F) (a1 : F) (q0 : Int) (h : x_slices_Index_float32_float32 a0 a1 = some q0) : Ev Try.prog 62 [sl a0.length (a0.map f32), f32 a1] [] (i64 q0) [] := by
 refine Ev.start Try.func62 rfl rfl 0 (τ := [(0, sl a0.length (a0.map f32)), (1, f32 a1)]) rfl (Γ' := []) rfl (n := 39) rfl (g := 0) rfl (fun _ => rfl) ?_
 unfold x_slices_Index_float32_float32 at h
 refine zQ ?_
 refine zA (r := i64 0) rfl rfl rfl rfl rfl ?_
 refine zN ?_
 refine RunC.seq ?_
 refine zQ ?_
 refine zM (r := sl a0.length (a0.map f32)) rfl rfl rfl rfl rfl ?_
 refine zL (r := i64 (a0.length : Int)) rfl rfl rfl (LOp.len_sl und22 rfl rfl) ?_
 refine zM (r := i64 0) rfl rfl rfl rfl rfl ?_
 refine zN ?_
 obtain ⟨z2, hz_2, h⟩ := obind_some h
 refine RunC.cutN (fun τ Γ => WeakLe τ [] ∧ DeadLe Γ [] ∧ z2 = .inl ()) ?_ ?_
 ·refine RunC.block (RunC.loop (RunL.loopM (x := z2) (x_slices_Index_float32_float32_s1 a0 a1) (fun (s : Int) τ Γ => WeakLe τ [(0, sl a0.length (a0.map f32)), (1, f32 a1), (7, i64 (a0.length : Int)), (8, i64 s)] ∧ DeadLe Γ []) ?_ _ _ _ hz_2 ⟨⟨aR, aR, aR, aR, trivial⟩, trivial⟩))
  rintro v1 τ2 Γ2 y2_ ⟨hw2, hd2⟩ h2_ ho2 hr2
  refine RunC.wl (τ' := [(0, sl a0.length (a0.map f32)), (1, f32 a1), (7, i64 (a0.length : Int)), (8, i64 v1)]) (Γ' := []) hw2 hd2 ?_
  replace h2_ : x_slices_Index_float32_float32_b1 a0 a1 v1 = some y2_ := h2_
  unfold x_slices_Index_float32_float32_b1 at h2_
  refine RunC.seq ?_
  rcases bsel_some h2_ with ⟨hc1, h2_⟩ | ⟨hc1, h2_⟩
  ·refine RunC.regionW ?_
   refine zL (r := b true) rfl rfl rfl (LOp.eqb (LOp.lss rfl rfl rfl) hc1) ?_
   refine zN ?_
   refine RunC.seq ?_
   refine RunC.cond_true rfl rfl ?_
   refine RunC.skip ?_
   refine RunC.seq ?_
   refine RunC.block ?_
   refine zQ ?_
   refine zM (r := i64 v1) rfl rfl rfl rfl rfl ?_
   refine zA (r := i64 v1) rfl rfl rfl rfl rfl ?_
   refine zN ?_
   refine RunC.seq ?_
   obtain ⟨e2, he2, h2_⟩ := obind_some h2_
   rcases bsel_some h2_ with ⟨hc3, h2_⟩ | ⟨hc3, h2_⟩
   ·refine RunC.regionW ?_
    refine zM (r := f32 a1) rfl rfl rfl rfl rfl ?_
    refine zM (r := sl a0.length (a0.map f32)) rfl rfl rfl rfl rfl ?_
    refine zM (r := i64 v1) rfl rfl rfl rfl rfl ?_
    refine zL (r := ptr [f32 e2]) rfl rfl rfl (LOp.le (LOp.ix (f := f32) und22 siz45 rfl rfl rfl rfl he2) ALe.ptr) ?_
    refine zL (r := f32 e2) rfl rfl rfl (LOp.load1 agg45 rfl rfl) ?_
    refine zL (r := b true) rfl rfl rfl (LOp.eqb (LOp.feq rfl (OpF.tmp rfl) (OpF.tmp rfl)) hc3) ?_
    refine zN ?_
    refine RunC.cond_true rfl rfl ?_
    refine zQ ?_
    refine zM (r := i64 v1) rfl rfl rfl rfl rfl ?_
    refine zA (r := i64 v1) rfl rfl rfl rfl rfl ?_
    refine zN ?_
    refine RunC.ret ?_
    cases Option.some.inj h2_
    have hx3_ := hr2 _ rfl
    subst hx3_
    have hq := Option.some.inj h
    subst q0
    exact bodyQ.pure (.inr rfl) rfl (Res.one rfl (RV.tmp rfl))
   ·refine RunC.regionW ?_
    refine zM (r := f32 a1) rfl rfl rfl rfl rfl ?_
    refine zM (r := sl a0.length (a0.map f32)) rfl rfl rfl rfl rfl ?_
    refine zM (r := i64 v1) rfl rfl rfl rfl rfl ?_
    refine zL (r := ptr [f32 e2]) rfl rfl rfl (LOp.le (LOp.ix (f := f32) und22 siz45 rfl rfl rfl rfl he2) ALe.ptr) ?_
    refine zL (r := f32 e2) rfl rfl rfl (LOp.load1 agg45 rfl rfl) ?_
    refine zL (r := b false) rfl rfl rfl (LOp.eqb (LOp.feq rfl (OpF.tmp rfl) (OpF.tmp rfl)) hc3) ?_
    refine zN ?_
    refine RunC.cond_false rfl rfl ?_
    refine RunC.skip ?_
    obtain ⟨x3, hx4, h2_⟩ := olet_some h2_
    refine RunC.regionW ?_
    refine zL (r := i64 x3) rfl rfl rfl (LOp.eqr (LOp.add rfl rfl rfl) (congrArg (ik .i64) hx4)) ?_
    refine zM (r := i64 x3) rfl rfl rfl rfl rfl ?_
    refine zN ?_
    cases Option.some.inj h2_
    exact ⟨_, rfl, ⟨aR, aR, aR, aR, trivial⟩, trivial⟩
  ·refine RunC.regionW ?_
   refine zL (r := b false) rfl rfl rfl (LOp.eqb (LOp.lss rfl rfl rfl) hc1) ?_
   refine zN ?_
   refine RunC.seq ?_
   refine RunC.cond_false rfl rfl ?_
   refine RunC.exit ?_
   cases Option.some.inj h2_
   have hx := ho2 _ rfl
   exact ⟨trivial, trivial, hx⟩
 ·rintro τ4 Γ4 ⟨hw4, hd4, rfl⟩
  refine RunC.wl hw4 hd4 ?_
  replace h : x_slices_Index_float32_float32_k1 = some q0 := h
  unfold x_slices_Index_float32_float32_k1 at h
  refine zQ ?_
  refine zA (r := i64 (-1)) rfl rfl rfl rfl rfl ?_
  refine zN ?_
  refine RunC.ret ?_
  have hq := Option.some.inj h
  subst q0
  exact bodyQ.pure (.inr rfl) rfl (Res.one rfl (RV.tmp rfl))
noncomputable def x_slices_Contains_float32_float32 (a0 : List F) (a1 : F) : Option (Bool) :=
 obind (x_slices_Index_float32_float32 a0 a1) fun (r1 : Int) =>
 some (decide (0 ≤ r1))
theorem x_slices_Contains_float32_float32_ok (a0 : List F) (a1 : F) (q0 : Bool) (h : x_slices_Contains_float32_float32 a0 a1 = some q0) : Ev Try.prog 51 [sl a0.length (a0.map f32), f32 a1] [] (b q0) [] := by
 refine Ev.start Try.func51 rfl rfl 0 (τ := [(0, sl a0.length (a0.map f32)), (1, f32 a1)]) rfl (Γ' := []) rfl (n := 19) rfl (g := 0) rfl (fun _ => rfl) ?_
 unfold x_slices_Contains_float32_float32 at h
 refine zQ ?_
 refine zA (r := b false) rfl rfl rfl rfl rfl ?_
 refine zN ?_
 refine RunC.seq ?_
 obtain ⟨r1, hf1, h⟩ := obind_some h
 refine RunC.regionW ?_
 refine zM (r := sl a0.length (a0.map f32)) rfl rfl rfl rfl rfl ?_
 refine zM (r := f32 a1) rfl rfl rfl rfl rfl ?_
 refine ROps.d (r := i64 r1) (fs := []) (Γ' := []) rfl rfl rfl (TOp.callB (CallAs.func ent62 rfl rfl) (Bors.cons (Bor.sl (fun _ => rfl)) (Bors.cons (Bor.pure rfl) Bors.nil)) rfl rfl (x_slices_Index_float32_float32_ok a0 a1 r1 hf1)) rfl ?_
 refine zL (r := b (decide (0 ≤ r1))) rfl rfl rfl (LOp.geq rfl rfl rfl) ?_
 refine zA (r := b (decide (0 ≤ r1))) rfl rfl rfl rfl rfl ?_
 refine zN ?_
 refine RunC.ret ?_
 have hq := Option.some.inj h
 subst q0
 exact bodyQ.pure (.inr rfl) rfl (Res.one rfl (RV.tmp rfl))
noncomputable def i_length_int64 (a0 : List Int) : Option (Int) :=
 some (a0.length : Int)
theorem i_length_int64_ok (a0 : List Int) (q0 : Int) (h : i_length_int64 a0 = some q0) : Ev Try.prog 54 [sl a0.length (a0.map i64)] [] (i64 q0) [] := by
 refine Ev.start Try.func54 rfl rfl 0 (τ := [(0, sl a0.length (a0.map i64))]) rfl (Γ' := []) rfl (n := 11) rfl (g := 0) rfl (fun _ => rfl) ?_
 unfold i_length_int64 at h
 refine zQ ?_
 refine zA (r := i64 0) rfl rfl rfl rfl rfl ?_
 refine zN ?_
 refine zQ ?_
 refine zM (r := sl a0.length (a0.map i64)) rfl rfl rfl rfl rfl ?_
 refine zL (r := i64 (a0.length : Int)) rfl rfl rfl (LOp.len_sl und25 rfl rfl) ?_
 refine zA (r := i64 (a0.length : Int)) rfl rfl rfl rfl rfl ?_
 refine zN ?_
 refine RunC.ret ?_
 have hq := Option.some.inj h
 subst q0
 exact bodyQ.pure (.inr rfl) rfl (Res.one rfl (RV.tmp rfl))
noncomputable def x_slices_Values_int64_int64 (a0 : List Int) : Option ((List Int)) :=
 some a0
theorem x_slices_Values_int64_int64_ok (a0 : List Int) (q0 : List Int) (h : x_slices_Values_int64_int64 a0 = some q0) : Ev Try.prog 69 [sl a0.length (a0.map i64)] [] (fn (.func 74) [] [ptr [sl q0.length (q0.map i64)]]) [] := by
 refine Ev.start Try.func69 rfl rfl 0 (τ := [(0, sl a0.length (a0.map i64))]) rfl (Γ' := []) rfl (n := 9) rfl (g := 0) rfl (fun _ => rfl) ?_
 unfold x_slices_Values_int64_int64 at h
 refine zQ ?_
 refine ROps.d (r := ptr [sl a0.length (a0.map i64)]) (fs := []) (Γ' := []) rfl rfl rfl (TOp.box_s rfl rfl rfl) rfl ?_
 refine zA (r := x .nilFunc) rfl rfl rfl rfl rfl ?_
 refine zN ?_
 refine zQ ?_
 refine zL (r := fn (.func 74) [] [ptr [sl a0.length (a0.map i64)]]) rfl rfl rfl (LOp.makeFunc rfl rfl) ?_
 refine zA (r := fn (.func 74) [] [ptr [sl a0.length (a0.map i64)]]) rfl rfl rfl rfl rfl ?_
 refine zN ?_
 refine RunC.ret ?_
 have hq := Option.some.inj h
 subst q0
 exact bodyQ.pure (.inr rfl) (lt_fn lts_nil (lts_cons (lt_ptr (lts_cons (lt_sl (fun _ => rfl)) lts_nil)) lts_nil)) (Res.one rfl (RV.tmp rfl))
noncomputable def x_slices_AppendSeq (a0 : List Int) : Option (List Int) :=
 need (decide ((a0.length : Int) * 8 ≤ 140737488351232)) <|
 some a0
section
open Go.RowKit Go.Shelf
attribute [local go_sem] Oper.semAt_some
set_option maxRecDepth 100000 in
set_option maxHeartbeats 2000000 in
theorem values1_in (F : Fence) (n : Nat) (h7 : F.fn 74) (hro : F.round = none) (hn : 1 ≤ n) (l Bs Bo n₀ b off len cap : Nat) (zs : List Int) (hreach : len * 8 ≤ 140737488351232) (hb : b < n₀) (J Jx : List Int → World → Prop)
  (hY : ∀ pre x W, J pre W → pre.length < len → YieldAt F (n - 1) Try.prog l #[.int .i64 x] W fun e W' =>
   (e = .returned (.bool true) ∧ J (pre ++ [x]) W' ∧ Below n₀ W W') ∨ (e = .returned (.bool false) ∧ Jx (pre ++ [x]) W'))
  (W : World) (hBs : W.cell? ⟨Bs, Bo, none⟩ = some (.slice (some ⟨b, off, none⟩) len cap)) (hc : ∀ j, j < len → W.cell? ⟨b, off + j, none⟩ = some (.int .i64 (zs[j]?.getD 0))) (h0 : J [] W) :
  CallsIn F n Try.prog 74 #[.func (.yield l) #[] #[], .pointer (some ⟨Bs, Bo, none⟩)] W fun e W' => (∃ v, e = .returned v) ∧
   ((∃ ys, ys = uptoF (fun j => zs[j]?.getD 0) len ∧ J ys W') ∨ (∃ pre, (∃ k, k ≤ len ∧ pre = uptoF (fun j => zs[j]?.getD 0) k) ∧ Jx pre W')) := by
 refine callsIn_of_wp Try.func74 rfl h7 ?_ hro
 simp only [Try.ntmps74, List.size_toArray, List.length_cons, List.length_nil, Nat.reduceAdd, Nat.reduceSub, Array.replicate_succ, Array.replicate_zero, List.push_toArray, List.append_toArray, List.nil_append, List.cons_append]
 gi_wp2
 gi_loopw [7] (fun i wr => ∃ k : Nat, k ≤ len ∧ i = .int .i64 k ∧ J (uptoF (fun j => zs[j]?.getD 0) k) wr ∧ Below n₀ W wr)
  (fun i _ => len - (intOf i).toNat)
 case atStart => exact ⟨0, Nat.zero_le _, rfl, h0, Below.refl _ _⟩
 case round =>
  obtain ⟨k, hk, rfl, hJs, hnx⟩ := hrel
  have hcx : k < len → wr.cell? ⟨b, off + k, none⟩ = some (.int .i64 (zs[k]?.getD 0)) := fun h => (hnx.cell (p := ⟨b, off + k, none⟩) hb).trans (hc k h)
  by_cases hlt : k < len
  ·obtain ⟨fn, tmps, assign, body, hy, hR⟩ := hY _ (zs[k]?.getD 0) wr hJs (by rw [uptoF_length]; exact hlt)
   have hcx' := hcx hlt
   gi_wp2
   refine hR.mono ?_
   rintro e W3 (⟨rfl, hJ3, hk3⟩ | ⟨rfl, hJx3⟩)
   ·gi_wp2
    go_roundw
    case rel => exact ⟨k + 1, by omega, by simp, by rw [uptoF_succ]; exact hJ3, hnx.trans hk3⟩
    case measure => simp [intOf]; omega
   ·gi_wp2
    refine bodyPost_ret (results_none rfl _ _ _) rfl ?_
    exact ⟨⟨_, rfl⟩, .inr ⟨_, ⟨k + 1, by omega, (uptoF_succ _ _).symm⟩, hJx3⟩⟩
  ·obtain rfl : k = len := by omega
   gi_wp2
   go_end0
   exact ⟨⟨_, rfl⟩, .inl ⟨_, rfl, hJs⟩⟩
set_option maxRecDepth 100000 in
set_option maxHeartbeats 1000000 in
theorem values1_nil_in (F : Fence) (n : Nat) (h7 : F.fn 74) (hro : F.round = none) (l Bs Bo : Nat) (a : Option Addr) (cap : Nat) (J : List Int → World → Prop) (W : World) (hBs : W.cell? ⟨Bs, Bo, none⟩ = some (.slice a 0 cap)) (h0 : J [] W) :
  CallsIn F n Try.prog 74 #[.func (.yield l) #[] #[], .pointer (some ⟨Bs, Bo, none⟩)] W fun e W' => (∃ v, e = .returned v) ∧ J [] W' := by
 refine callsIn_of_wp Try.func74 rfl h7 ?_ hro
 simp only [Try.ntmps74, List.size_toArray, List.length_cons, List.length_nil, Nat.reduceAdd, Nat.reduceSub, Array.replicate_succ, Array.replicate_zero, List.push_toArray, List.append_toArray, List.nil_append, List.cons_append]
 gi_wp2
 gi_loopw [7] (fun i wr => i = .int .i64 0 ∧ J [] wr) (fun _ _ => 0)
 case atStart => exact ⟨rfl, h0⟩
 case round =>
  obtain ⟨rfl, hJs⟩ := hrel
  gi_wp2
  go_end0
  exact ⟨⟨_, rfl⟩, hJs⟩
theorem values_stops (F : Fence) (n : Nat) (h7 : F.fn 74) (hro : F.round = none) (hn : 1 ≤ n) (Bs Bo n₀ : Nat) (sv : Value) (zs : List Int) (hreach : zs.length * 8 ≤ 140737488351232) (w : World) (hBs : Bs < w.heap.size) (hn₀ : n₀ ≤ w.heap.size)
  (hc : w.cell? ⟨Bs, Bo, none⟩ = some sv) (hI : IntsAt n₀ w sv zs) :
  SeqStopsK F n Try.prog 74 #[.pointer (some ⟨Bs, Bo, none⟩)] (fun x : Int => #[Value.int .i64 x]) (Below n₀) (fun ys => ys = zs) (fun pre => pre <+: zs) zs.length w := fun l J Jx W hW _ _ hY h0 => by
 have hc' := (hW.cell (p := ⟨Bs, Bo, none⟩) hBs).trans hc
 rcases hI.below (hW.mono hn₀) with ⟨a, cap, rfl, rfl⟩ | ⟨b, off, cap, rfl, hb, hcs⟩
 ·exact (values1_nil_in F n h7 hro l Bs Bo a cap J W hc' h0).mono fun e W' ⟨he, hj⟩ => ⟨he, .inl ⟨_, rfl, hj⟩⟩
 ·refine (values1_in F n h7 hro hn l Bs Bo n₀ b off zs.length cap zs hreach hb J Jx hY W hc' hcs h0).mono ?_
  rintro e W' ⟨he, ⟨ys, rfl, hj⟩ | ⟨pre, ⟨k, hk, rfl⟩, hj⟩⟩
  ·exact ⟨he, .inl ⟨_, uptoF_all zs, hj⟩⟩
  ·exact ⟨he, .inr ⟨_, by rw [uptoF_take zs hk]; exact List.take_prefix _ _, hj⟩⟩
/-- Between two rounds: the box holds a slice that owns what has come. -/
def SeqAt (w : World) (B : Nat) (pre : List Int) (W : World) : Prop :=
 (∃ v, Boxed W B 25 v ∧ W.ownsRow w.heap.size 2 1 v pre.length (pre.map (Value.int .i64)) ∧ True) ∧ Below w.heap.size w W
theorem seqAt_own (w : World) (B D : Nat) (hD : w.heap.size ≤ D) : OwnFrom D (SeqAt w B) :=
 OwnFrom.and (Own.from (holdsRow_own w.heap.size B 25 2 1 (fun s : List Int => s.length) (fun s => s.map (Value.int .i64)) (fun _ _ => True)) _) (ownFrom_below (Nat.le_refl _) hD)
theorem ty25 : Try.prog.underlying 25 = some (.slice 2) := by kernel_rfl
theorem info2 : (Try.prog.info? 2).map (fun i => (i.zero, i.size, i.bytes)) = some (some (.int .i64 0), 1, 8) := by kernel_rfl
set_option maxRecDepth 100000 in
set_option maxHeartbeats 2000000 in
theorem appendSeq_in (F : Fence) (n : Nat) (h3 : F.fn 76) (h7 : F.fn 74) (hro : F.round = none) (hn : 3 ≤ n) (w : World) (Bs Bo : Nat) (sv : Value) (zs : List Int) (hreach : zs.length * 8 ≤ 140737488351232) (hBs : Bs < w.heap.size)
  (hc : w.cell? ⟨Bs, Bo, none⟩ = some sv) (hI : IntsAt w.heap.size w sv zs) :
  CallsIn F n Try.prog 76 #[.slice none 0 0, .func (.func 74) #[] #[.pointer (some ⟨Bs, Bo, none⟩)]] w fun e W' => (∃ v, e = .returned v ∧ W'.ownsRow w.heap.size 2 1 v zs.length (zs.map (Value.int .i64))) ∧ Below w.heap.size w W' := by
 have h1 : 1 ≤ n := by omega
 obtain ⟨i0, hi, hz0, hz1, hz2⟩ := info_parts info2
 refine callsIn_of_wp_marks Try.func76 rfl h3 ?_ hro
 simp only [Try.ntmps76, List.size_toArray, List.length_cons, List.length_nil, Nat.reduceAdd, Nat.reduceSub, Array.replicate_succ, Array.replicate_zero, List.push_toArray, List.append_toArray, List.nil_append, List.cons_append]
 gi_wp2
 have bS := Boxed.new w 25 (.slice none 0 0)
 have hB0 : Below w.heap.size w (w.alloc (.cells #[.slice none 0 0] 25)) := (Below.refl _ w).alloc (Nat.le_refl _) _
 refine wpIn_rangeFunc_ownG hro h1 (gf := 74) (lb := #[.pointer (some ⟨Bs, Bo, none⟩)]) rfl h7 (enters_of Try.func74 (by kernel_rfl) rfl)
  (values_stops F (n - 1) h7 hro (by omega) Bs Bo w.heap.size sv zs hreach w hBs (Nat.le_refl _) hc hI) belowK_t (belowK_b (by simp)) hB0 (fun _ => rfl)
  (SeqAt w w.heap.size)
  (fun _ _ _ => False)
  (seqAt_own w _ _ (by simp))
  (fun _ _ _ _ _ hs _ _ => hs)
  ⟨⟨.slice none 0 0, bS, ⟨rfl, .inl ⟨rfl, rfl⟩⟩, trivial⟩, hB0⟩
  (fun x => { tmps := #[.slice none 0 0, .func (.func 74) #[] #[.pointer (some ⟨Bs, Bo, none⟩)], .pointer (some ⟨w.heap.size, 0, none⟩), undef, .slice none 0 0, .int .i64 x, .func (.func 74) #[] #[.pointer (some ⟨Bs, Bo, none⟩)], .int .i64 x, undef, undef, undef, undef, undef], defers := [] }) ?assign ?body ?done ?stop
 case assign =>
  intro l x W K hK
  gi_wp2
  exact hK
 case body =>
  rintro l pre x W ⟨⟨v, hv, hrow, _⟩, hB⟩ hlen
  have hc2 := hv.cell
  have hf2 := hv.frozen
  gi_wp2_with (first
   | (gi_at_builtin; refine wpListIn_append_own _ rfl _ _ 25 rfl w.heap.size 2 i0 (.int .i64 0) 1 8 ty25 hi hz0 hz1 hz2 rfl (by decide) _ _ _ rfl (hrow.alloc _) ⟨W.heap.size, 0, none⟩ 1 1 [.int .i64 x] rfl rfl ?c1 ?c2 ?c3 ?c4 ?c5 ?_)
   | gi_in)
  case c1 =>
   intro j u hj
   match j, hj with
   | 0, hj => simp at hj; subst hj; simp [Addr.add]
  case c2 => intro u hu; simp at hu; subst hu; rfl
  case c3 => unfold maxLen; omega
  case c4 => omega
  case c5 => have := hB.size; simp; omega
  ·intro v' w1 hown' hgrow _
   obtain ⟨g, cap, rfl⟩ := ownsRow_succ hown'
   obtain ⟨b1, b2, b3, b4, b5⟩ := hv.appended (by decide : (25 : Nat) ≠ 2) hrow hB.size (Nat.le_refl _) hown' hgrow
   have hc1 := b1.cell
   have hf1 := b1.frozen
   clear hgrow hown'
   gi_wp2
   exact ⟨b4.from _, b5, ⟨⟨_, b2, by simpa using b3, trivial⟩, hB.trans b5⟩⟩
 case done =>
  rintro D ys W hD rfl ⟨⟨v, hv, hrow, _⟩, hB⟩ hK
  have hc2 := hv.cell
  have hf2 := hv.frozen
  gi_wp2
  refine ⟨by simp, .inl ⟨_, _, rfl, run_takeDeferred hK, ?_⟩⟩
  exact ⟨_, results_tmp rfl _ _ _, ⟨v, rfl, ownsRow_putObj hrow _ hK rfl⟩, hB.trans (belowK_b (w := w) (Nat.le_refl _) W D _ _ (by simp at hD; omega) hK rfl rfl)⟩
 case stop =>
  rintro D c pre W _ _ h _
  exact h.elim
end
theorem x_slices_AppendSeq_ok (a0 : List Int) (q0 : List Int) (h : x_slices_AppendSeq a0 = some q0) : Ev Try.prog 76 [nilsl, fn (.func 74) [] [ptr [sl a0.length (a0.map i64)]]] [] (oref 0 0 0 q0.length) [⟨0, some (q0.map i64)⟩] := by
 unfold x_slices_AppendSeq at h
 cases hd : decide ((a0.length : Int) * 8 ≤ 140737488351232) with
 | false => rw [hd] at h; cases h
 | true =>
  rw [hd] at h
  cases h
  have hb := of_decide_eq_true hd
  refine Ev.ownsRow (t := 2) fun S w vs hw ha => ?_
  obtain ⟨b, off, sv, rfl, h1, h2, h3⟩ := seq_args hw ha
  exact callsIn_wide.1 (appendSeq_in Fence.wide 3 trivial trivial rfl (Nat.le_refl _) w b off sv a0 (by omega) h1 h2 h3)
noncomputable def x_slices_Collect_int64_0Fx_slices_Values_int64_int64_1 (a0 : List Int) : Option ((List Int)) :=
 obind (x_slices_AppendSeq a0) fun (r1 : List Int) =>
 some r1
theorem x_slices_Collect_int64_0Fx_slices_Values_int64_int64_1_ok (a0 : List Int) (q0 : List Int) (h : x_slices_Collect_int64_0Fx_slices_Values_int64_int64_1 a0 = some q0) : Ev Try.prog 72 [fn (.func 74) [] [ptr [sl a0.length (a0.map i64)]]] [] (oref 0 0 0 q0.length) [⟨0, some (q0.map i64)⟩] := by
 refine Ev.start Try.func72 rfl rfl 1 (τ := [(0, fn (.func 74) [] [ptr [sl a0.length (a0.map i64)]])]) rfl (Γ' := [⟨0, none⟩]) rfl (n := 11) rfl (g := 0) rfl (fun _ => rfl) ?_
 unfold x_slices_Collect_int64_0Fx_slices_Values_int64_int64_1 at h
 refine zQ ?_
 refine zA (r := nilsl) rfl rfl rfl rfl rfl ?_
 refine zN ?_
 refine RunC.seq ?_
 obtain ⟨r1, hf1, h⟩ := obind_some h
 refine RunC.regionW ?_
 refine zM (r := fn (.func 74) [] [ptr [sl a0.length (a0.map i64)]]) rfl rfl rfl rfl rfl ?_
 refine ROps.d (r := oref 0 1 0 r1.length) (fs := [(0, (r1.map i64))]) (Γ' := [⟨1, some (r1.map i64)⟩]) rfl rfl rfl (TOp.callBN (ls := [(r1.map i64)]) [0] (CallAs.func ent76 rfl rfl) (Bors.cons (Bor.pure rfl) (Bors.cons (Bor.fn Bors.nil (Bors.cons (Bor.ptr (Bors.cons (Bor.sl (fun _ => rfl)) Bors.nil)) Bors.nil)) Bors.nil)) rfl (x_slices_AppendSeq_ok a0 r1 hf1) (and_all (lts0_map (f := i64) (fun _ => rfl) _) rfl) (and_all (noss_map (f := i64) (fun _ => rfl) _) rfl) rfl (by decide) (ns_of ⟨⟨_, rfl⟩, trivial⟩)) rfl ?_
 refine zA (r := oref 0 1 0 r1.length) rfl rfl rfl rfl rfl ?_
 refine zN ?_
 refine RunC.ret ?_
 have hq := Option.some.inj h
 subst q0
 exact bodyQ.mk (r' := oref 0 1 0 r1.length) [(0, 1)] (.inr rfl) rfl (show List.Nodup [0] from by decide) rfl rfl (Res.one rfl (RV.tmp rfl)) (SelL.arr0 (f := i64) (fun _ => rfl) rfl trivial)
noncomputable def x_math_bits_Len64 (a0 : Int) : Option (Int) :=
 bsel (decide (4294967296 ≤ a0)) (
  none) (
  bsel (decide (65536 ≤ a0)) (
   none) (
   bsel (decide (256 ≤ a0)) (
    none) (
    olet (IntKind.u8.wrap a0) fun (x1 : Int) =>
    obind (sat? lit_77d67bd0 x1) fun (e2 : Int) =>
    olet (IntKind.i64.wrap e2) fun (x3 : Int) =>
    olet (IntKind.i64.wrap (0 + x3)) fun (x4 : Int) =>
    some x4)))
theorem x_math_bits_Len64_ok (a0 : Int) (q0 : Int) (h : x_math_bits_Len64 a0 = some q0) : Ev Try.prog 91 [ik .u64 a0] [] (i64 q0) [] := by
 refine Ev.start Try.func91 rfl rfl 0 (τ := [(0, ik .u64 a0)]) rfl (Γ' := []) rfl (n := 51) rfl (g := 0) rfl (fun _ => rfl) ?_
 unfold x_math_bits_Len64 at h
 refine zQ ?_
 refine zA (r := i64 0) rfl rfl rfl rfl rfl ?_
 refine zN ?_
 refine RunC.seq ?_
 refine RunC.seq ?_
 rcases bsel_some h with ⟨hc1, h⟩ | ⟨hc1, h⟩
 ·refine RunC.regionW ?_
  refine zM (r := ik .u64 a0) rfl rfl rfl rfl rfl ?_
  refine zL (r := b true) rfl rfl rfl (LOp.eqb (LOp.geq rfl rfl rfl) hc1) ?_
  refine zN ?_
  refine RunC.cond_true rfl rfl ?_
  refine RunC.seq ?_
  cases h
 ·refine RunC.regionW ?_
  refine zM (r := ik .u64 a0) rfl rfl rfl rfl rfl ?_
  refine zL (r := b false) rfl rfl rfl (LOp.eqb (LOp.geq rfl rfl rfl) hc1) ?_
  refine zN ?_
  refine RunC.cond_false rfl rfl ?_
  refine RunC.skip ?_
  refine RunC.seq ?_
  refine RunC.seq ?_
  rcases bsel_some h with ⟨hc2, h⟩ | ⟨hc2, h⟩
  ·refine RunC.regionW ?_
   refine zM (r := ik .u64 a0) rfl rfl rfl rfl rfl ?_
   refine zL (r := b true) rfl rfl rfl (LOp.eqb (LOp.geq rfl rfl rfl) hc2) ?_
   refine zN ?_
   refine RunC.cond_true rfl rfl ?_
   refine RunC.seq ?_
   cases h
  ·refine RunC.regionW ?_
   refine zM (r := ik .u64 a0) rfl rfl rfl rfl rfl ?_
   refine zL (r := b false) rfl rfl rfl (LOp.eqb (LOp.geq rfl rfl rfl) hc2) ?_
   refine zN ?_
   refine RunC.cond_false rfl rfl ?_
   refine RunC.skip ?_
   refine RunC.seq ?_
   refine RunC.seq ?_
   rcases bsel_some h with ⟨hc3, h⟩ | ⟨hc3, h⟩
   ·refine RunC.regionW ?_
    refine zM (r := ik .u64 a0) rfl rfl rfl rfl rfl ?_
    refine zL (r := b true) rfl rfl rfl (LOp.eqb (LOp.geq rfl rfl rfl) hc3) ?_
    refine zN ?_
    refine RunC.cond_true rfl rfl ?_
    refine RunC.seq ?_
    cases h
   ·refine RunC.regionW ?_
    refine zM (r := ik .u64 a0) rfl rfl rfl rfl rfl ?_
    refine zL (r := b false) rfl rfl rfl (LOp.eqb (LOp.geq rfl rfl rfl) hc3) ?_
    refine zN ?_
    refine RunC.cond_false rfl rfl ?_
    refine RunC.skip ?_
    refine RunC.seq ?_
    obtain ⟨x1, hx4, h⟩ := olet_some h
    obtain ⟨e2, he5, h⟩ := obind_some h
    obtain ⟨x3, hx6, h⟩ := olet_some h
    obtain ⟨x4, hx7, h⟩ := olet_some h
    refine RunC.regionW ?_
    refine zM (r := i64 0) rfl rfl rfl rfl rfl ?_
    refine zM (r := ik .u64 a0) rfl rfl rfl rfl rfl ?_
    refine zL (r := ik .u8 x1) rfl rfl rfl (LOp.eqr (LOp.i2i (src := 92) (dst := 5) ⟨_, pun92⟩ pun5 rfl rfl) (congrArg (ik .u8) hx4)) ?_
    refine zL (r := ik .u8 e2) rfl rfl rfl (LOp.index_str und9 rfl rfl rfl he5) ?_
    refine zL (r := i64 x3) rfl rfl rfl (LOp.eqr (LOp.i2i (src := 5) (dst := 3) ⟨_, pun5⟩ pun3 rfl rfl) (congrArg (ik .i64) hx6)) ?_
    refine zL (r := i64 x4) rfl rfl rfl (LOp.eqr (LOp.add rfl rfl rfl) (congrArg (ik .i64) hx7)) ?_
    refine zA (r := i64 x4) rfl rfl rfl rfl rfl ?_
    refine zN ?_
    refine RunC.ret ?_
    have hq := Option.some.inj h
    subst q0
    exact bodyQ.pure (.inr rfl) rfl (Res.one rfl (RV.tmp rfl))
noncomputable def x_math_bits_Len (a0 : Int) : Option (Int) :=
 obind (x_math_bits_Len64 a0) fun (r1 : Int) =>
 some r1
theorem x_math_bits_Len_ok (a0 : Int) (q0 : Int) (h : x_math_bits_Len a0 = some q0) : Ev Try.prog 78 [ik .u64 a0] [] (i64 q0) [] := by
 refine Ev.start Try.func78 rfl rfl 0 (τ := [(0, ik .u64 a0)]) rfl (Γ' := []) rfl (n := 17) rfl (g := 0) rfl (fun _ => rfl) ?_
 unfold x_math_bits_Len at h
 refine zQ ?_
 refine zA (r := i64 0) rfl rfl rfl rfl rfl ?_
 refine zN ?_
 refine RunC.seq ?_
 refine RunC.cond_false rfl rfl ?_
 refine RunC.skip ?_
 refine RunC.seq ?_
 obtain ⟨r1, hf1, h⟩ := obind_some h
 refine RunC.regionW ?_
 refine zM (r := ik .u64 a0) rfl rfl rfl rfl rfl ?_
 refine ROps.d (r := i64 r1) (fs := []) (Γ' := []) rfl rfl rfl (TOp.callB (CallAs.func ent91 rfl rfl) (Bors.cons (Bor.pure rfl) Bors.nil) rfl rfl (x_math_bits_Len64_ok a0 r1 hf1)) rfl ?_
 refine zA (r := i64 r1) rfl rfl rfl rfl rfl ?_
 refine zN ?_
 refine RunC.ret ?_
 have hq := Option.some.inj h
 subst q0
 exact bodyQ.pure (.inr rfl) rfl (Res.one rfl (RV.tmp rfl))
noncomputable def x_cmp_isNaN_int64 (a0 : Int) : Option (Bool) :=
 some (!decide (a0 = a0))
theorem x_cmp_isNaN_int64_ok (a0 : Int) (q0 : Bool) (h : x_cmp_isNaN_int64 a0 = some q0) : Ev Try.prog 97 [i64 a0] [] (b q0) [] := by
 refine Ev.start Try.func97 rfl rfl 0 (τ := [(0, i64 a0)]) rfl (Γ' := []) rfl (n := 13) rfl (g := 0) rfl (fun _ => rfl) ?_
 unfold x_cmp_isNaN_int64 at h
 refine zQ ?_
 refine zA (r := b false) rfl rfl rfl rfl rfl ?_
 refine zN ?_
 refine zQ ?_
 refine zM (r := i64 a0) rfl rfl rfl rfl rfl ?_
 refine zM (r := i64 a0) rfl rfl rfl rfl rfl ?_
 refine zL (r := b (!decide (a0 = a0))) rfl rfl rfl (LOp.neq rfl rfl rfl) ?_
 refine zA (r := b (!decide (a0 = a0))) rfl rfl rfl rfl rfl ?_
 refine zN ?_
 refine RunC.ret ?_
 have hq := Option.some.inj h
 subst q0
 exact bodyQ.pure (.inr rfl) rfl (Res.one rfl (RV.tmp rfl))
noncomputable def x_cmp_Less_int64 (a0 : Int) (a1 : Int) : Option (Bool) :=
 obind (x_cmp_isNaN_int64 a0) fun (r1 : Bool) =>
 bsel r1 (
  obind (x_cmp_isNaN_int64 a1) fun (r2 : Bool) =>
  bsel r2 (
   some (decide (a0 < a1))) (
   some true)) (
  some (decide (a0 < a1)))
theorem x_cmp_Less_int64_ok (a0 : Int) (a1 : Int) (q0 : Bool) (h : x_cmp_Less_int64 a0 a1 = some q0) : Ev Try.prog 87 [i64 a0, i64 a1] [] (b q0) [] := by
 refine Ev.start Try.func87 rfl rfl 0 (τ := [(0, i64 a0), (1, i64 a1)]) rfl (Γ' := []) rfl (n := 35) rfl (g := 0) rfl (fun _ => rfl) ?_
 unfold x_cmp_Less_int64 at h
 refine zQ ?_
 refine zA (r := b false) rfl rfl rfl rfl rfl ?_
 refine zN ?_
 refine RunC.seq ?_
 obtain ⟨r1, hf1, h⟩ := obind_some h
 rcases bsel_some h with ⟨hc2, h⟩ | ⟨hc2, h⟩
 ·obtain ⟨r2, hf3, h⟩ := obind_some h
  rcases bsel_some h with ⟨hc4, h⟩ | ⟨hc4, h⟩
  ·refine RunC.regionW ?_
   refine zM (r := i64 a0) rfl rfl rfl rfl rfl ?_
   refine ROps.d (r := b true) (fs := []) (Γ' := []) rfl rfl rfl (TOp.eqb (TOp.callB (CallAs.func ent97 rfl rfl) (Bors.cons (Bor.pure rfl) Bors.nil) rfl rfl (x_cmp_isNaN_int64_ok a0 r1 hf1)) hc2) rfl ?_
   refine zM (r := b true) rfl rfl rfl rfl rfl ?_
   refine zM (r := i64 a1) rfl rfl rfl rfl rfl ?_
   refine ROps.d (r := b true) (fs := []) (Γ' := []) rfl rfl rfl (TOp.eqb (TOp.callB (CallAs.func ent97 rfl rfl) (Bors.cons (Bor.pure rfl) Bors.nil) rfl rfl (x_cmp_isNaN_int64_ok a1 r2 hf3)) hc4) rfl ?_
   refine zL (r := b false) rfl rfl rfl (LOp.eqb (LOp.not rfl rfl) rfl) ?_
   refine zL (r := b false) rfl rfl rfl (LOp.pick_true rfl rfl rfl) ?_
   refine zM (r := b false) rfl rfl rfl rfl rfl ?_
   refine zM (r := i64 a0) rfl rfl rfl rfl rfl ?_
   refine zM (r := i64 a1) rfl rfl rfl rfl rfl ?_
   refine zL (r := b (decide (a0 < a1))) rfl rfl rfl (LOp.lss rfl rfl rfl) ?_
   refine zL (r := b (decide (a0 < a1))) rfl rfl rfl (LOp.pick_false rfl rfl rfl) ?_
   refine zA (r := b (decide (a0 < a1))) rfl rfl rfl rfl rfl ?_
   refine zN ?_
   refine RunC.ret ?_
   have hq := Option.some.inj h
   subst q0
   exact bodyQ.pure (.inr rfl) rfl (Res.one rfl (RV.tmp rfl))
  ·refine RunC.regionW ?_
   refine zM (r := i64 a0) rfl rfl rfl rfl rfl ?_
   refine ROps.d (r := b true) (fs := []) (Γ' := []) rfl rfl rfl (TOp.eqb (TOp.callB (CallAs.func ent97 rfl rfl) (Bors.cons (Bor.pure rfl) Bors.nil) rfl rfl (x_cmp_isNaN_int64_ok a0 r1 hf1)) hc2) rfl ?_
   refine zM (r := b true) rfl rfl rfl rfl rfl ?_
   refine zM (r := i64 a1) rfl rfl rfl rfl rfl ?_
   refine ROps.d (r := b false) (fs := []) (Γ' := []) rfl rfl rfl (TOp.eqb (TOp.callB (CallAs.func ent97 rfl rfl) (Bors.cons (Bor.pure rfl) Bors.nil) rfl rfl (x_cmp_isNaN_int64_ok a1 r2 hf3)) hc4) rfl ?_
   refine zL (r := b true) rfl rfl rfl (LOp.eqb (LOp.not rfl rfl) rfl) ?_
   refine zL (r := b true) rfl rfl rfl (LOp.pick_true rfl rfl rfl) ?_
   refine zM (r := b true) rfl rfl rfl rfl rfl ?_
   refine ROps.s rfl rfl rfl ?_
   refine ROps.s rfl rfl rfl ?_
   refine ROps.s rfl rfl rfl ?_
   refine zL (r := b true) rfl rfl rfl (LOp.pick_true rfl rfl rfl) ?_
   refine zA (r := b true) rfl rfl rfl rfl rfl ?_
   refine zN ?_
   refine RunC.ret ?_
   have hq := Option.some.inj h
   subst q0
   exact bodyQ.pure (.inr rfl) rfl (Res.one rfl (RV.tmp rfl))
 ·refine RunC.regionW ?_
  refine zM (r := i64 a0) rfl rfl rfl rfl rfl ?_
  refine ROps.d (r := b false) (fs := []) (Γ' := []) rfl rfl rfl (TOp.eqb (TOp.callB (CallAs.func ent97 rfl rfl) (Bors.cons (Bor.pure rfl) Bors.nil) rfl rfl (x_cmp_isNaN_int64_ok a0 r1 hf1)) hc2) rfl ?_
  refine zM (r := b false) rfl rfl rfl rfl rfl ?_
  refine ROps.s rfl rfl rfl ?_
  refine ROps.s rfl rfl rfl ?_
  refine ROps.s rfl rfl rfl ?_
  refine zL (r := b false) rfl rfl rfl (LOp.pick_false rfl rfl rfl) ?_
  refine zM (r := b false) rfl rfl rfl rfl rfl ?_
  refine zM (r := i64 a0) rfl rfl rfl rfl rfl ?_
  refine zM (r := i64 a1) rfl rfl rfl rfl rfl ?_
  refine zL (r := b (decide (a0 < a1))) rfl rfl rfl (LOp.lss rfl rfl rfl) ?_
  refine zL (r := b (decide (a0 < a1))) rfl rfl rfl (LOp.pick_false rfl rfl rfl) ?_
  refine zA (r := b (decide (a0 < a1))) rfl rfl rfl rfl rfl ?_
  refine zN ?_
  refine RunC.ret ?_
  have hq := Option.some.inj h
  subst q0
  exact bodyQ.pure (.inr rfl) rfl (Res.one rfl (RV.tmp rfl))
noncomputable def x_slices_insertionSortOrdered_int64_0o_b2 (a0 : Int) (L5 : List Int) (v7 : Int) : Option (LR ((List Int) × Int) ((List Int)) ((List Int))) :=
 bsel (decide (a0 < v7)) (
  obind (at? L5 v7) fun (e8 : Int) =>
  olet (IntKind.i64.wrap (v7 - 1)) fun (x9 : Int) =>
  obind (at? L5 x9) fun (e10 : Int) =>
  obind (x_cmp_Less_int64 e8 e10) fun (r11 : Bool) =>
  bsel r11 (
   olet (IntKind.i64.wrap (v7 - 1)) fun (x12 : Int) =>
   olet (IntKind.i64.wrap (v7 - 1)) fun (x13 : Int) =>
   obind (at? L5 x13) fun (e14 : Int) =>
   obind (at? L5 v7) fun (e15 : Int) =>
   obind (setAt? L5 v7 e14) fun (L16 : List Int) =>
   obind (setAt? L16 x12 e15) fun (L17 : List Int) =>
   olet (IntKind.i64.wrap (v7 - 1)) fun (x18 : Int) =>
   some (LR.next (L17, x18))) (
   some (LR.out L5))) (
  some (LR.out L5))
noncomputable def x_slices_insertionSortOrdered_int64_0o_s2 (a0 : Int) : ((List Int) × Int) → Option (LR ((List Int) × Int) ((List Int)) ((List Int))) := fun s => x_slices_insertionSortOrdered_int64_0o_b2 a0 s.1 s.2
noncomputable def x_slices_insertionSortOrdered_int64_0o_k2 (v4 : Int) (L19 : List Int) : Option (LR ((List Int) × Int) ((List Int)) ((List Int))) :=
 olet (IntKind.i64.wrap (v4 + 1)) fun (x21 : Int) =>
 some (LR.next (L19, x21))
noncomputable def x_slices_insertionSortOrdered_int64_0o_b3 (a0 : Int) (a1 : Int) (L2 : List Int) (v4 : Int) : Option (LR ((List Int) × Int) ((List Int)) ((List Int))) :=
 bsel (decide (v4 < a1)) (
  obind (loopM (x_slices_insertionSortOrdered_int64_0o_s2 a0) (L2, v4)) fun z => osum z (fun e => x_slices_insertionSortOrdered_int64_0o_k2 v4 e) (fun r => some (LR.ret r))) (
  some (LR.out L2))
noncomputable def x_slices_insertionSortOrdered_int64_0o_s3 (a0 : Int) (a1 : Int) : ((List Int) × Int) → Option (LR ((List Int) × Int) ((List Int)) ((List Int))) := fun s => x_slices_insertionSortOrdered_int64_0o_b3 a0 a1 s.1 s.2
noncomputable def x_slices_insertionSortOrdered_int64_0o_k3 (L22 : List Int) : Option ((List Int)) :=
 some L22
noncomputable def x_slices_insertionSortOrdered_int64_0o (a0 : Int) (a1 : Int) (a2 : List Int) : Option ((List Int)) :=
 olet (IntKind.i64.wrap (a0 + 1)) fun (x1 : Int) =>
 obind (loopM (x_slices_insertionSortOrdered_int64_0o_s3 a0 a1) (a2, x1)) fun z => osum z (fun e => x_slices_insertionSortOrdered_int64_0o_k3 e) (fun r => some r)
theorem x_slices_insertionSortOrdered_int64_0o_ok (a0 : Int) (a1 : Int) (a2 : List Int) (q0 : List Int) (h : x_slices_insertionSortOrdered_int64_0o a0 a1 a2 = some q0) : Ev Try.prog 81 [oref 0 0 0 a2.length, i64 a0, i64 a1] [⟨0, some (a2.map i64)⟩] (tup []) [⟨0, some (q0.map i64)⟩] := by
 refine Ev.start Try.func81 rfl rfl 0 (τ := [(0, oref 0 0 0 a2.length), (1, i64 a0), (2, i64 a1)]) rfl (Γ' := [⟨0, some (a2.map i64)⟩]) rfl (n := 98) rfl (g := 1) rfl (by decide) ?_
 unfold x_slices_insertionSortOrdered_int64_0o at h
 refine RunC.seq ?_
 obtain ⟨x1, hx1, h⟩ := olet_some h
 refine RunC.regionW ?_
 refine zM (r := i64 a0) rfl rfl rfl rfl rfl ?_
 refine zL (r := i64 x1) rfl rfl rfl (LOp.eqr (LOp.add rfl rfl rfl) (congrArg (ik .i64) hx1)) ?_
 refine zA (r := i64 x1) rfl rfl rfl rfl rfl ?_
 refine zN ?_
 obtain ⟨z4, hz_4, h⟩ := obind_some h
 refine RunC.cutN (fun τ Γ => ∃ (L22 : List Int), L22.length = a2.length ∧ WeakLe τ [] ∧ DeadLe Γ [⟨0, some (L22.map i64)⟩] ∧ z4 = .inl L22) ?_ ?_
 ·refine RunC.block (RunC.loop (RunL.loopM (x := z4) (x_slices_insertionSortOrdered_int64_0o_s3 a0 a1) (fun (s : (List Int) × Int) τ Γ => s.1.length = a2.length ∧ WeakLe τ [(0, oref 0 0 0 a2.length), (1, i64 a0), (2, i64 a1), (6, i64 s.2)] ∧ DeadLe Γ [⟨0, some (s.1.map i64)⟩]) ?_ _ _ _ hz_4 ⟨rfl, ⟨aR, aR, aR, aR, trivial⟩, ⟨⟨rfl, .inr rfl⟩, trivial⟩⟩))
  rintro ⟨L2, v4⟩ τ4 Γ4 y4_ ⟨hl3, hw4, hd4⟩ h4_ ho4 hr4
  refine RunC.wl (τ' := [(0, oref 0 0 0 a2.length), (1, i64 a0), (2, i64 a1), (6, i64 v4)]) (Γ' := [⟨0, some (L2.map i64)⟩]) hw4 hd4 ?_
  replace hl3 : L2.length = a2.length := hl3
  replace h4_ : x_slices_insertionSortOrdered_int64_0o_b3 a0 a1 L2 v4 = some y4_ := h4_
  unfold x_slices_insertionSortOrdered_int64_0o_b3 at h4_
  refine RunC.seq ?_
  refine RunC.seq ?_
  rcases bsel_some h4_ with ⟨hc2, h4_⟩ | ⟨hc2, h4_⟩
  ·refine RunC.regionW ?_
   refine zM (r := i64 v4) rfl rfl rfl rfl rfl ?_
   refine zM (r := i64 a1) rfl rfl rfl rfl rfl ?_
   refine zL (r := b true) rfl rfl rfl (LOp.eqb (LOp.lss rfl rfl rfl) hc2) ?_
   refine zN ?_
   refine RunC.cond_true rfl rfl ?_
   refine RunC.skip ?_
   refine RunC.seq ?_
   refine RunC.block ?_
   refine zQ ?_
   refine zM (r := i64 v4) rfl rfl rfl rfl rfl ?_
   refine zA (r := i64 v4) rfl rfl rfl rfl rfl ?_
   refine zN ?_
   obtain ⟨z5, hz_5, h4_⟩ := obind_some h4_
   refine RunC.cutN (fun τ Γ => ∃ (L19 : List Int), L19.length = a2.length ∧ WeakLe τ [(0, oref 0 0 0 a2.length), (1, i64 a0), (2, i64 a1), (6, i64 v4)] ∧ DeadLe Γ [⟨0, some (L19.map i64)⟩] ∧ z5 = .inl L19) ?_ ?_
   ·refine RunC.block (RunC.loop (RunL.loopM (x := z5) (x_slices_insertionSortOrdered_int64_0o_s2 a0) (fun (s : (List Int) × Int) τ Γ => s.1.length = a2.length ∧ WeakLe τ [(0, oref 0 0 0 a2.length), (1, i64 a0), (2, i64 a1), (6, i64 v4), (7, i64 s.2)] ∧ DeadLe Γ [⟨0, some (s.1.map i64)⟩]) ?_ _ _ _ hz_5 ⟨hl3, ⟨aR, aR, aR, aR, aR, trivial⟩, ⟨⟨rfl, .inr rfl⟩, trivial⟩⟩))
    rintro ⟨L5, v7⟩ τ5 Γ5 y5_ ⟨hl6, hw5, hd5⟩ h5_ ho5 hr5
    refine RunC.wl (τ' := [(0, oref 0 0 0 a2.length), (1, i64 a0), (2, i64 a1), (6, i64 v4), (7, i64 v7)]) (Γ' := [⟨0, some (L5.map i64)⟩]) hw5 hd5 ?_
    replace hl6 : L5.length = a2.length := hl6
    replace h5_ : x_slices_insertionSortOrdered_int64_0o_b2 a0 L5 v7 = some y5_ := h5_
    unfold x_slices_insertionSortOrdered_int64_0o_b2 at h5_
    refine RunC.seq ?_
    refine RunC.seq ?_
    rcases bsel_some h5_ with ⟨hc3, h5_⟩ | ⟨hc3, h5_⟩
    ·obtain ⟨e8, he4, h5_⟩ := obind_some h5_
     obtain ⟨x9, hx5, h5_⟩ := olet_some h5_
     obtain ⟨e10, he6, h5_⟩ := obind_some h5_
     obtain ⟨r11, hf7, h5_⟩ := obind_some h5_
     rcases bsel_some h5_ with ⟨hc8, h5_⟩ | ⟨hc8, h5_⟩
     ·refine RunC.region_draw (Γ' := [⟨0, some (L5.map i64)⟩]) 15 mixed 
       (TR.l (r := i64 v7) rfl rfl (LOp.move rfl rfl) <|
       (TR.l (r := i64 a0) rfl rfl (LOp.move rfl rfl) <|
       (TR.l (r := b true) rfl rfl (LOp.eqb (LOp.gtr rfl rfl rfl) hc3) <|
       (TR.l (r := b true) rfl rfl (LOp.move rfl rfl) <|
       (TR.l (r := oref 0 0 0 a2.length) rfl rfl (LOp.move rfl rfl) <|
       (TR.l (r := i64 v7) rfl rfl (LOp.move rfl rfl) <|
       (TR.d (r := optr 0 0 v7.toNat) (fs := []) rfl rfl (TOp.ixo und25 siz2 rfl rfl rfl (at_in he4 hl6) rfl) <|
       (TR.d (r := i64 e8) (fs := []) rfl rfl (TOp.load1_o rfl (at_cell he4) agg2 rfl rfl) <|
       (TR.l (r := oref 0 0 0 a2.length) rfl rfl (LOp.move rfl rfl) <|
       (TR.l (r := i64 v7) rfl rfl (LOp.move rfl rfl) <|
       (TR.l (r := i64 x9) rfl rfl (LOp.eqr (LOp.sub rfl rfl rfl) (congrArg (ik .i64) hx5)) <|
       (TR.d (r := optr 0 0 x9.toNat) (fs := []) rfl rfl (TOp.ixo und25 siz2 rfl rfl rfl (at_in he6 hl6) rfl) <|
       (TR.d (r := i64 e10) (fs := []) rfl rfl (TOp.load1_o rfl (at_cell he6) agg2 rfl rfl) <|
       (TR.d (r := b true) (fs := []) rfl rfl (TOp.eqb (TOp.callB (CallAs.func ent87 rfl rfl) (Bors.cons (Bor.pure rfl) (Bors.cons (Bor.pure rfl) Bors.nil)) rfl rfl (x_cmp_Less_int64_ok e8 e10 r11 hf7)) hc8) <|
       (TR.l (r := b true) rfl rfl (LOp.pick_true rfl rfl rfl) <|
       TR.nil))))))))))))))) rfl (by kernel_rfl) rfl fills_nil rfl ?_
      iterate 15 refine ROps.dropS ?_
      refine ROps.drop0 ?_
      refine zN ?_
      refine RunC.cond_true rfl rfl ?_
      refine RunC.skip ?_
      refine RunC.seq ?_
      refine RunC.block ?_
      obtain ⟨x12, hx9, h5_⟩ := olet_some h5_
      obtain ⟨x13, hx10, h5_⟩ := olet_some h5_
      obtain ⟨e14, he11, h5_⟩ := obind_some h5_
      obtain ⟨e15, he12, h5_⟩ := obind_some h5_
      obtain ⟨L16, he13, h5_⟩ := obind_some h5_
      obtain ⟨L17, he14, h5_⟩ := obind_some h5_
      refine RunC.region_draw (Γ' := [⟨0, some (L5.map i64)⟩]) 15 mixed 
       (TR.l (r := oref 0 0 0 a2.length) rfl rfl (LOp.move rfl rfl) <|
       (TR.l (r := i64 v7) rfl rfl (LOp.move rfl rfl) <|
       (TR.loose (r := oref 0 0 0 a2.length) rfl rfl (LOp.move rfl rfl) <|
       (TR.loose (r := i64 v7) rfl rfl (LOp.move rfl rfl) <|
       (TR.loose (r := i64 x12) rfl rfl (LOp.eqr (LOp.sub rfl rfl rfl) (congrArg (ik .i64) hx9)) <|
       (TR.l (r := oref 0 0 0 a2.length) rfl rfl (LOp.move rfl rfl) <|
       (TR.l (r := i64 v7) rfl rfl (LOp.move rfl rfl) <|
       (TR.l (r := i64 x13) rfl rfl (LOp.eqr (LOp.sub rfl rfl rfl) (congrArg (ik .i64) hx10)) <|
       (TR.d (r := optr 0 0 x13.toNat) (fs := []) rfl rfl (TOp.ixo und25 siz2 rfl rfl rfl (at_in he11 hl6) rfl) <|
       (TR.d (r := i64 e14) (fs := []) rfl rfl (TOp.load1_o rfl (at_cell he11) agg2 rfl rfl) <|
       (TR.l (r := oref 0 0 0 a2.length) rfl rfl (LOp.move rfl rfl) <|
       (TR.l (r := i64 v7) rfl rfl (LOp.move rfl rfl) <|
       (TR.d (r := optr 0 0 v7.toNat) (fs := []) rfl rfl (TOp.ixo und25 siz2 rfl rfl rfl (at_in he12 hl6) rfl) <|
       (TR.d (r := i64 e15) (fs := []) rfl rfl (TOp.load1_o rfl (at_cell he12) agg2 rfl rfl) <|
       (TR.d (r := optr 0 0 v7.toNat) (fs := []) rfl rfl (TOp.ixo und25 siz2 rfl rfl rfl (set_in he13 hl6) rfl) <|
       TR.nil))))))))))))))) rfl (by kernel_rfl) rfl fills_nil rfl ?_
      iterate 15 refine ROps.dropS ?_
      refine ROps.drop0 ?_
      refine ROps.st (f := i64) (i := v7) (Γ' := [⟨0, some (L16.map i64)⟩]) rfl siz2 rfl rfl rfl aR rfl rfl rfl he13 rfl ?_
      refine ROps.d (r := optr 0 0 x12.toNat) (fs := []) (Γ' := [⟨0, some (L16.map i64)⟩]) rfl rfl rfl (TOp.ixo und25 siz2 rfl rfl rfl (set_in he14 ((setAt?_len he13).trans hl6)) rfl) rfl ?_
      refine ROps.st (f := i64) (i := x12) (Γ' := [⟨0, some (L17.map i64)⟩]) rfl siz2 rfl rfl rfl aR rfl rfl rfl he14 rfl ?_
      refine zN ?_
      refine RunC.wl (τ' := [(0, oref 0 0 0 a2.length), (1, i64 a0), (2, i64 a1), (6, i64 v4), (7, i64 v7), (20, oref 0 0 0 a2.length), (21, i64 v7), (22, optr 0 0 v7.toNat), (23, i64 e8), (24, oref 0 0 0 a2.length), (25, i64 v7), (26, i64 x9), (27, optr 0 0 x9.toNat), (28, i64 e10), (29, b true)]) (Γ' := [⟨0, some (L17.map i64)⟩]) ⟨aR, aR, aR, aR, aR, aR, aR, aR, aR, aR, aR, aR, aR, aR, aR, trivial⟩ ⟨⟨rfl, .inr rfl⟩, trivial⟩ ?_
      obtain ⟨x18, hx15, h5_⟩ := olet_some h5_
      refine RunC.regionW ?_
      refine zM (r := i64 v7) rfl rfl rfl rfl rfl ?_
      refine zL (r := i64 x18) rfl rfl rfl (LOp.eqr (LOp.sub rfl rfl rfl) (congrArg (ik .i64) hx15)) ?_
      refine zA (r := i64 x18) rfl rfl rfl rfl rfl ?_
      refine zN ?_
      cases Option.some.inj h5_
      exact ⟨_, rfl, ((setAt?_len he14).trans ((setAt?_len he13).trans hl6)), ⟨aR, aR, aR, aR, aR, trivial⟩, ⟨⟨rfl, .inr rfl⟩, trivial⟩⟩
     ·refine RunC.region_draw (Γ' := [⟨0, some (L5.map i64)⟩]) 15 mixed 
       (TR.l (r := i64 v7) rfl rfl (LOp.move rfl rfl) <|
       (TR.l (r := i64 a0) rfl rfl (LOp.move rfl rfl) <|
       (TR.l (r := b true) rfl rfl (LOp.eqb (LOp.gtr rfl rfl rfl) hc3) <|
       (TR.l (r := b true) rfl rfl (LOp.move rfl rfl) <|
       (TR.l (r := oref 0 0 0 a2.length) rfl rfl (LOp.move rfl rfl) <|
       (TR.l (r := i64 v7) rfl rfl (LOp.move rfl rfl) <|
       (TR.d (r := optr 0 0 v7.toNat) (fs := []) rfl rfl (TOp.ixo und25 siz2 rfl rfl rfl (at_in he4 hl6) rfl) <|
       (TR.d (r := i64 e8) (fs := []) rfl rfl (TOp.load1_o rfl (at_cell he4) agg2 rfl rfl) <|
       (TR.l (r := oref 0 0 0 a2.length) rfl rfl (LOp.move rfl rfl) <|
       (TR.l (r := i64 v7) rfl rfl (LOp.move rfl rfl) <|
       (TR.l (r := i64 x9) rfl rfl (LOp.eqr (LOp.sub rfl rfl rfl) (congrArg (ik .i64) hx5)) <|
       (TR.d (r := optr 0 0 x9.toNat) (fs := []) rfl rfl (TOp.ixo und25 siz2 rfl rfl rfl (at_in he6 hl6) rfl) <|
       (TR.d (r := i64 e10) (fs := []) rfl rfl (TOp.load1_o rfl (at_cell he6) agg2 rfl rfl) <|
       (TR.d (r := b false) (fs := []) rfl rfl (TOp.eqb (TOp.callB (CallAs.func ent87 rfl rfl) (Bors.cons (Bor.pure rfl) (Bors.cons (Bor.pure rfl) Bors.nil)) rfl rfl (x_cmp_Less_int64_ok e8 e10 r11 hf7)) hc8) <|
       (TR.l (r := b false) rfl rfl (LOp.pick_true rfl rfl rfl) <|
       TR.nil))))))))))))))) rfl (by kernel_rfl) rfl fills_nil rfl ?_
      iterate 15 refine ROps.dropS ?_
      refine ROps.drop0 ?_
      refine zN ?_
      refine RunC.cond_false rfl rfl ?_
      refine RunC.exit ?_
      cases Option.some.inj h5_
      have hx := ho5 _ rfl
      exact ⟨L5, hl6, ⟨aR, aR, aR, aR, trivial⟩, ⟨⟨rfl, .inr rfl⟩, trivial⟩, hx⟩
    ·refine RunC.region_draw (Γ' := [⟨0, some (L5.map i64)⟩]) 15 mixed 
      (TR.l (r := i64 v7) rfl rfl (LOp.move rfl rfl) <|
      (TR.l (r := i64 a0) rfl rfl (LOp.move rfl rfl) <|
      (TR.l (r := b false) rfl rfl (LOp.eqb (LOp.gtr rfl rfl rfl) hc3) <|
      (TR.l (r := b false) rfl rfl (LOp.move rfl rfl) <|
      (TR.s rfl rfl <|
      (TR.s rfl rfl <|
      (TR.s rfl rfl <|
      (TR.s rfl rfl <|
      (TR.s rfl rfl <|
      (TR.s rfl rfl <|
      (TR.s rfl rfl <|
      (TR.s rfl rfl <|
      (TR.s rfl rfl <|
      (TR.s rfl rfl <|
      (TR.l (r := b false) rfl rfl (LOp.pick_false rfl rfl rfl) <|
      TR.nil))))))))))))))) rfl (by kernel_rfl) rfl fills_nil rfl ?_
     iterate 15 refine ROps.dropS ?_
     refine ROps.drop0 ?_
     refine zN ?_
     refine RunC.cond_false rfl rfl ?_
     refine RunC.exit ?_
     cases Option.some.inj h5_
     have hx := ho5 _ rfl
     exact ⟨L5, hl6, ⟨aR, aR, aR, aR, trivial⟩, ⟨⟨rfl, .inr rfl⟩, trivial⟩, hx⟩
   ·rintro τ6 Γ6 ⟨L19, hl20, hw6, hd6, rfl⟩
    refine RunC.wl hw6 hd6 ?_
    replace h4_ : x_slices_insertionSortOrdered_int64_0o_k2 v4 L19 = some y4_ := h4_
    unfold x_slices_insertionSortOrdered_int64_0o_k2 at h4_
    obtain ⟨x21, hx16, h4_⟩ := olet_some h4_
    refine RunC.regionW ?_
    refine zM (r := i64 v4) rfl rfl rfl rfl rfl ?_
    refine zL (r := i64 x21) rfl rfl rfl (LOp.eqr (LOp.add rfl rfl rfl) (congrArg (ik .i64) hx16)) ?_
    refine zA (r := i64 x21) rfl rfl rfl rfl rfl ?_
    refine zN ?_
    cases Option.some.inj h4_
    exact ⟨_, rfl, hl20, ⟨aR, aR, aR, aR, trivial⟩, ⟨⟨rfl, .inr rfl⟩, trivial⟩⟩
  ·refine RunC.regionW ?_
   refine zM (r := i64 v4) rfl rfl rfl rfl rfl ?_
   refine zM (r := i64 a1) rfl rfl rfl rfl rfl ?_
   refine zL (r := b false) rfl rfl rfl (LOp.eqb (LOp.lss rfl rfl rfl) hc2) ?_
   refine zN ?_
   refine RunC.cond_false rfl rfl ?_
   refine RunC.exit ?_
   cases Option.some.inj h4_
   have hx := ho4 _ rfl
   exact ⟨L2, hl3, trivial, ⟨⟨rfl, .inr rfl⟩, trivial⟩, hx⟩
 ·rintro τ7 Γ7 ⟨L22, hl23, hw7, hd7, rfl⟩
  replace h : x_slices_insertionSortOrdered_int64_0o_k3 L22 = some q0 := h
  unfold x_slices_insertionSortOrdered_int64_0o_k3 at h
  refine bodyQ.wl hw7 hd7 ?_
  have hq := Option.some.inj h
  subst q0
  exact bodyQ.mk (r' := tup []) [(0, 0)] (.inl rfl) rfl (show List.Nodup [0] from by decide) rfl rfl (Res.zero rfl) (SelL.arr (f := i64) (fun _ => rfl) rfl trivial)
noncomputable def x_slices_pdqsortOrdered_int64_0o_b1 (a0 : Int) (a1 : Int) (a2 : Int) (a3 : List Int) : Option (LR (Unit) (Unit) ((List Int))) :=
 olet (IntKind.i64.wrap (a1 - a0)) fun (x1 : Int) =>
 bsel (decide (x1 ≤ 12)) (
  obind (x_slices_insertionSortOrdered_int64_0o a0 a1 a3) fun (r2 : List Int) =>
  need (decide (r2.length = a3.length)) <|
  some (LR.ret r2)) (
  bsel (decide (a2 = 0)) (
   none) (
   none))
noncomputable def x_slices_pdqsortOrdered_int64_0o_s1 (a0 : Int) (a1 : Int) (a2 : Int) (a3 : List Int) : (Unit) → Option (LR (Unit) (Unit) ((List Int))) := fun s => x_slices_pdqsortOrdered_int64_0o_b1 a0 a1 a2 a3
noncomputable def x_slices_pdqsortOrdered_int64_0o (a0 : Int) (a1 : Int) (a2 : Int) (a3 : List Int) : Option ((List Int)) :=
 obind (loopM (x_slices_pdqsortOrdered_int64_0o_s1 a0 a1 a2 a3) ()) fun z => osum z (fun _ => none) (fun r => some r)
theorem x_slices_pdqsortOrdered_int64_0o_ok (a0 : Int) (a1 : Int) (a2 : Int) (a3 : List Int) (q0 : List Int) (h : x_slices_pdqsortOrdered_int64_0o a0 a1 a2 a3 = some q0) : Ev Try.prog 77 [oref 0 0 0 a3.length, i64 a0, i64 a1, i64 a2] [⟨0, some (a3.map i64)⟩] (tup []) [⟨0, some (q0.map i64)⟩] := by
 refine Ev.start Try.func77 rfl rfl 0 (τ := [(0, oref 0 0 0 a3.length), (1, i64 a0), (2, i64 a1), (3, i64 a2)]) rfl (Γ' := [⟨0, some (a3.map i64)⟩]) rfl (n := 268) rfl (g := 1) rfl (by decide) ?_
 unfold x_slices_pdqsortOrdered_int64_0o at h
 refine zQ ?_
 refine zA (r := b true) rfl rfl rfl rfl rfl ?_
 refine zN ?_
 refine zQ ?_
 refine zA (r := b true) rfl rfl rfl rfl rfl ?_
 refine zN ?_
 obtain ⟨z2, hz_2, h⟩ := obind_some h
 refine RunC.block (RunC.loop (RunL.loopM (x := z2) (x_slices_pdqsortOrdered_int64_0o_s1 a0 a1 a2 a3) (fun (s : Unit) τ Γ => WeakLe τ [(0, oref 0 0 0 a3.length), (1, i64 a0), (2, i64 a1), (3, i64 a2), (8, b true), (9, b true)] ∧ DeadLe Γ [⟨0, some (a3.map i64)⟩]) ?_ _ _ _ hz_2 ⟨⟨aR, aR, aR, aR, aR, aR, trivial⟩, ⟨⟨rfl, .inr rfl⟩, trivial⟩⟩))
 rintro ⟨⟩ τ2 Γ2 y2_ ⟨hw2, hd2⟩ h2_ ho2 hr2
 refine RunC.wl (τ' := [(0, oref 0 0 0 a3.length), (1, i64 a0), (2, i64 a1), (3, i64 a2), (8, b true), (9, b true)]) (Γ' := [⟨0, some (a3.map i64)⟩]) hw2 hd2 ?_
 replace h2_ : x_slices_pdqsortOrdered_int64_0o_b1 a0 a1 a2 a3 = some y2_ := h2_
 unfold x_slices_pdqsortOrdered_int64_0o_b1 at h2_
 refine RunC.block ?_
 refine RunC.seq ?_
 obtain ⟨x1, hx1, h2_⟩ := olet_some h2_
 refine RunC.regionW ?_
 refine zM (r := i64 a1) rfl rfl rfl rfl rfl ?_
 refine zM (r := i64 a0) rfl rfl rfl rfl rfl ?_
 refine zL (r := i64 x1) rfl rfl rfl (LOp.eqr (LOp.sub rfl rfl rfl) (congrArg (ik .i64) hx1)) ?_
 refine zA (r := i64 x1) rfl rfl rfl rfl rfl ?_
 refine zN ?_
 refine RunC.seq ?_
 refine RunC.seq ?_
 rcases bsel_some h2_ with ⟨hc2, h2_⟩ | ⟨hc2, h2_⟩
 ·refine RunC.regionW ?_
  refine zM (r := i64 x1) rfl rfl rfl rfl rfl ?_
  refine zL (r := b true) rfl rfl rfl (LOp.eqb (LOp.leq rfl rfl rfl) hc2) ?_
  refine zN ?_
  refine RunC.cond_true rfl rfl ?_
  refine RunC.seq ?_
  obtain ⟨r2, hf3, h2_⟩ := obind_some h2_
  obtain ⟨hn4, h2_⟩ := need_some h2_
  refine RunC.regionW ?_
  refine zM (r := oref 0 0 0 a3.length) rfl rfl rfl rfl rfl ?_
  refine zM (r := i64 a0) rfl rfl rfl rfl rfl ?_
  refine zM (r := i64 a1) rfl rfl rfl rfl rfl ?_
  refine ROps.callO (A := [oref 0 0 0 a3.length, i64 a0, i64 a1]) (args := [oref 0 0 0 a3.length, i64 a0, i64 a1]) (Γc := [⟨0, some (a3.map i64)⟩]) (Γc' := [⟨0, some (r2.map i64)⟩]) (r' := tup []) (Γ' := [⟨0, some (r2.map i64)⟩]) [(0, 0)] [] rfl (CallAs.func ent81 rfl rfl) rfl rfl (SelOk.of (show List.Nodup [0] from by decide) (SelL.arr0 (f := i64) (fun _ => rfl) rfl trivial)) (live_of ⟨⟨_, _, rfl⟩, trivial⟩) (by simp [ren, rens, sigma, rens_f32, rens_f64, rens_i64, rens_ik, rens_str, rens_cp]) rfl (x_slices_insertionSortOrdered_int64_0o_ok a0 a1 a3 r2 hf3) rfl (news_of trivial) (show List.Nodup [0] from by decide) (by simp [ren, rens, sigma, of_decide_eq_true hn4]) (by simp [backOb, sigma, ren, rens, rens_f32, rens_f64, rens_i64, rens_ik, rens_str, rens_cp]) ?_
  refine zN ?_
  refine RunC.ret ?_
  cases Option.some.inj h2_
  have hx3_ := hr2 _ rfl
  subst hx3_
  have hq := Option.some.inj h
  subst q0
  exact bodyQ.mk (r' := tup []) [(0, 0)] (.inr rfl) rfl (show List.Nodup [0] from by decide) rfl rfl (Res.zero rfl) (SelL.arr (f := i64) (fun _ => rfl) rfl trivial)
 ·refine RunC.regionW ?_
  refine zM (r := i64 x1) rfl rfl rfl rfl rfl ?_
  refine zL (r := b false) rfl rfl rfl (LOp.eqb (LOp.leq rfl rfl rfl) hc2) ?_
  refine zN ?_
  refine RunC.cond_false rfl rfl ?_
  refine RunC.skip ?_
  refine RunC.seq ?_
  refine RunC.seq ?_
  rcases bsel_some h2_ with ⟨hc5, h2_⟩ | ⟨hc5, h2_⟩
  ·refine RunC.regionW ?_
   refine zM (r := i64 a2) rfl rfl rfl rfl rfl ?_
   refine zL (r := b true) rfl rfl rfl (LOp.eqb (LOp.eql rfl rfl rfl) hc5) ?_
   refine zN ?_
   refine RunC.cond_true rfl rfl ?_
   refine RunC.seq ?_
   cases h2_
  ·refine RunC.regionW ?_
   refine zM (r := i64 a2) rfl rfl rfl rfl rfl ?_
   refine zL (r := b false) rfl rfl rfl (LOp.eqb (LOp.eql rfl rfl rfl) hc5) ?_
   refine zN ?_
   refine RunC.cond_false rfl rfl ?_
   refine RunC.skip ?_
   refine RunC.seq ?_
   refine zQ ?_
   refine zM (r := b true) rfl rfl rfl rfl rfl ?_
   refine zL (r := b false) rfl rfl rfl (LOp.eqb (LOp.not rfl rfl) rfl) ?_
   refine zN ?_
   refine RunC.cond_false rfl rfl ?_
   refine RunC.skip ?_
   refine RunC.seq ?_
   cases h2_
noncomputable def x_slices_Sort_int64_int64_0o (a0 : List Int) : Option ((List Int)) :=
 olet (IntKind.u64.wrap ((a0.length : Nat) : Int)) fun (x1 : Int) =>
 obind (x_math_bits_Len x1) fun (r2 : Int) =>
 obind (x_slices_pdqsortOrdered_int64_0o 0 ((a0.length : Nat) : Int) r2 a0) fun (r3 : List Int) =>
 need (decide (r3.length = a0.length)) <|
 some r3
theorem x_slices_Sort_int64_int64_0o_ok (a0 : List Int) (q0 : List Int) (h : x_slices_Sort_int64_int64_0o a0 = some q0) : Ev Try.prog 73 [oref 0 0 0 a0.length] [⟨0, some (a0.map i64)⟩] (tup []) [⟨0, some (q0.map i64)⟩] := by
 refine Ev.start Try.func73 rfl rfl 0 (τ := [(0, oref 0 0 0 a0.length)]) rfl (Γ' := [⟨0, some (a0.map i64)⟩]) rfl (n := 22) rfl (g := 1) rfl (by decide) ?_
 unfold x_slices_Sort_int64_int64_0o at h
 refine zQ ?_
 refine zM (r := oref 0 0 0 a0.length) rfl rfl rfl rfl rfl ?_
 refine zL (r := i64 ((a0.length : Nat) : Int)) rfl rfl rfl (LOp.len_oref und25 rfl rfl) ?_
 refine zA (r := i64 ((a0.length : Nat) : Int)) rfl rfl rfl rfl rfl ?_
 refine zN ?_
 obtain ⟨x1, hx1, h⟩ := olet_some h
 obtain ⟨r2, hf2, h⟩ := obind_some h
 obtain ⟨r3, hf3, h⟩ := obind_some h
 obtain ⟨hn4, h⟩ := need_some h
 refine RunC.regionW ?_
 refine zM (r := oref 0 0 0 a0.length) rfl rfl rfl rfl rfl ?_
 refine zM (r := i64 ((a0.length : Nat) : Int)) rfl rfl rfl rfl rfl ?_
 refine zM (r := i64 ((a0.length : Nat) : Int)) rfl rfl rfl rfl rfl ?_
 refine zL (r := ik .u64 x1) rfl rfl rfl (LOp.eqr (LOp.i2i (src := 3) (dst := 90) ⟨_, pun3⟩ pun90 rfl rfl) (congrArg (ik .u64) hx1)) ?_
 refine ROps.d (r := i64 r2) (fs := []) (Γ' := [⟨0, some (a0.map i64)⟩]) rfl rfl rfl (TOp.callB (CallAs.func ent78 rfl rfl) (Bors.cons (Bor.pure rfl) Bors.nil) rfl rfl (x_math_bits_Len_ok x1 r2 hf2)) rfl ?_
 refine ROps.callO (A := [oref 0 0 0 a0.length, i64 0, i64 ((a0.length : Nat) : Int), i64 r2]) (args := [oref 0 0 0 a0.length, i64 0, i64 ((a0.length : Nat) : Int), i64 r2]) (Γc := [⟨0, some (a0.map i64)⟩]) (Γc' := [⟨0, some (r3.map i64)⟩]) (r' := tup []) (Γ' := [⟨0, some (r3.map i64)⟩]) [(0, 0)] [] rfl (CallAs.func ent77 rfl rfl) rfl rfl (SelOk.of (show List.Nodup [0] from by decide) (SelL.arr0 (f := i64) (fun _ => rfl) rfl trivial)) (live_of ⟨⟨_, _, rfl⟩, trivial⟩) (by simp [ren, rens, sigma, rens_f32, rens_f64, rens_i64, rens_ik, rens_str, rens_cp]) rfl (x_slices_pdqsortOrdered_int64_0o_ok 0 ((a0.length : Nat) : Int) r2 a0 r3 hf3) rfl (news_of trivial) (show List.Nodup [0] from by decide) (by simp [ren, rens, sigma, of_decide_eq_true hn4]) (by simp [backOb, sigma, ren, rens, rens_f32, rens_f64, rens_i64, rens_ik, rens_str, rens_cp]) ?_
 refine zN ?_
 have hq := Option.some.inj h
 subst q0
 exact bodyQ.mk (r' := tup []) [(0, 0)] (.inl rfl) rfl (show List.Nodup [0] from by decide) rfl rfl (Res.zero rfl) (SelL.arr (f := i64) (fun _ => rfl) rfl trivial)
noncomputable def x_slices_Sorted_int64_0Fx_slices_Values_int64_int64_1 (a0 : List Int) : Option ((List Int)) :=
 obind (x_slices_Collect_int64_0Fx_slices_Values_int64_int64_1 a0) fun (r1 : List Int) =>
 obind (x_slices_Sort_int64_int64_0o r1) fun (r2 : List Int) =>
 need (decide (r2.length = r1.length)) <|
 some r2
theorem x_slices_Sorted_int64_0Fx_slices_Values_int64_int64_1_ok (a0 : List Int) (q0 : List Int) (h : x_slices_Sorted_int64_0Fx_slices_Values_int64_int64_1 a0 = some q0) : Ev Try.prog 68 [fn (.func 74) [] [ptr [sl a0.length (a0.map i64)]]] [] (oref 0 0 0 q0.length) [⟨0, some (q0.map i64)⟩] := by
 refine Ev.start Try.func68 rfl rfl 1 (τ := [(0, fn (.func 74) [] [ptr [sl a0.length (a0.map i64)]])]) rfl (Γ' := [⟨0, none⟩]) rfl (n := 19) rfl (g := 0) rfl (fun _ => rfl) ?_
 unfold x_slices_Sorted_int64_0Fx_slices_Values_int64_int64_1 at h
 refine zQ ?_
 refine zA (r := nilsl) rfl rfl rfl rfl rfl ?_
 refine zN ?_
 refine RunC.seq ?_
 obtain ⟨r1, hf1, h⟩ := obind_some h
 refine RunC.regionW ?_
 refine zM (r := fn (.func 74) [] [ptr [sl a0.length (a0.map i64)]]) rfl rfl rfl rfl rfl ?_
 refine ROps.d (r := oref 0 1 0 r1.length) (fs := [(0, (r1.map i64))]) (Γ' := [⟨1, some (r1.map i64)⟩]) rfl rfl rfl (TOp.callBN (ls := [(r1.map i64)]) [0] (CallAs.func ent72 rfl rfl) (Bors.cons (Bor.fn Bors.nil (Bors.cons (Bor.ptr (Bors.cons (Bor.sl (fun _ => rfl)) Bors.nil)) Bors.nil)) Bors.nil) rfl (x_slices_Collect_int64_0Fx_slices_Values_int64_int64_1_ok a0 r1 hf1) (and_all (lts0_map (f := i64) (fun _ => rfl) _) rfl) (and_all (noss_map (f := i64) (fun _ => rfl) _) rfl) rfl (by decide) (ns_of ⟨⟨_, rfl⟩, trivial⟩)) rfl ?_
 refine zA (r := oref 0 1 0 r1.length) rfl rfl rfl rfl rfl ?_
 refine zN ?_
 refine RunC.seq ?_
 obtain ⟨r2, hf2, h⟩ := obind_some h
 obtain ⟨hn3, h⟩ := need_some h
 refine RunC.regionW ?_
 refine zM (r := oref 0 1 0 r1.length) rfl rfl rfl rfl rfl ?_
 refine ROps.callO (A := [oref 0 1 0 r1.length]) (args := [oref 0 0 0 r1.length]) (Γc := [⟨0, some (r1.map i64)⟩]) (Γc' := [⟨0, some (r2.map i64)⟩]) (r' := tup []) (Γ' := [⟨1, some (r2.map i64)⟩]) [(0, 1)] [] rfl (CallAs.func ent73 rfl rfl) rfl rfl (SelOk.of (show List.Nodup [0] from by decide) (SelL.arr0 (f := i64) (fun _ => rfl) rfl trivial)) (live_of ⟨⟨_, _, rfl⟩, trivial⟩) (by simp [ren, rens, sigma, rens_f32, rens_f64, rens_i64, rens_ik, rens_str, rens_cp]) rfl (x_slices_Sort_int64_int64_0o_ok r1 r2 hf2) rfl (news_of trivial) (show List.Nodup [0] from by decide) (by simp [ren, rens, sigma, of_decide_eq_true hn3]) (by simp [backOb, sigma, ren, rens, rens_f32, rens_f64, rens_i64, rens_ik, rens_str, rens_cp]) ?_
 refine zN ?_
 refine zQ ?_
 refine zM (r := oref 0 1 0 r1.length) rfl rfl rfl rfl rfl ?_
 refine zA (r := oref 0 1 0 r1.length) rfl rfl rfl rfl rfl ?_
 refine zN ?_
 refine RunC.ret ?_
 have hq := Option.some.inj h
 subst q0
 exact bodyQ.mk (r' := oref 0 1 0 r2.length) [(0, 1)] (.inr rfl) rfl (show List.Nodup [0] from by decide) rfl rfl (Res.eq (Res.one rfl (RV.tmp rfl)) (by rw [(show r2.length = r1.length from (of_decide_eq_true hn3))] <;> rfl)) (SelL.arr0 (f := i64) (fun _ => rfl) rfl trivial)
end Go.Proofs.Ytjdonddobkpghaa
