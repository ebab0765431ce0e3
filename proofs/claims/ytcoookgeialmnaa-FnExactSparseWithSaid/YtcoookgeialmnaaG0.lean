/- Generated. -/
import Derived.Test.YtcoookgeialmnaaTys
namespace Go.Proofs.Ytcoookgeialmnaa
open Go Go.AM Go.AM.AV
set_option maxRecDepth 20000
set_option maxHeartbeats 4000000
set_option linter.unusedVariables false
set_option linter.unusedSimpArgs false
noncomputable def w_szInt64S (a0 : List Int) (a1 : Int) : Option (Int) :=
 olet (IntKind.i64.wrap (a1 - (a0.length : Int))) fun (x1 : Int) =>
 bsel (decide (x1 < 0)) (
  some (-1)) (
  some x1)
theorem w_szInt64S_ok (a0 : List Int) (a1 : Int) (q0 : Int) (h : w_szInt64S a0 a1 = some q0) : Ev Try.prog 28 [sl a0.length (a0.map i64), i64 a1] [] (i64 q0) [] := by
 refine Ev.start Try.func28 rfl rfl 0 (τ := [(0, sl a0.length (a0.map i64)), (1, i64 a1)]) rfl (Γ' := []) rfl (n := 25) rfl (g := 0) rfl (fun _ => rfl) ?_
 unfold w_szInt64S at h
 refine zQ ?_
 refine zA (r := i64 0) rfl rfl rfl rfl rfl ?_
 refine zN ?_
 refine RunC.seq ?_
 obtain ⟨x1, hx1, h⟩ := olet_some h
 refine RunC.regionW ?_
 refine zM (r := i64 a1) rfl rfl rfl rfl rfl ?_
 refine zM (r := sl a0.length (a0.map i64)) rfl rfl rfl rfl rfl ?_
 refine zL (r := i64 (a0.length : Int)) rfl rfl rfl (LOp.len_sl und22 rfl rfl) ?_
 refine zL (r := i64 x1) rfl rfl rfl (LOp.eqr (LOp.sub rfl rfl rfl) (congrArg (ik .i64) hx1)) ?_
 refine zA (r := i64 x1) rfl rfl rfl rfl rfl ?_
 refine zN ?_
 refine RunC.seq ?_
 refine RunC.seq ?_
 rcases bsel_some h with ⟨hc2, h⟩ | ⟨hc2, h⟩
 ·refine RunC.regionW ?_
  refine zM (r := i64 x1) rfl rfl rfl rfl rfl ?_
  refine zL (r := b true) rfl rfl rfl (LOp.eqb (LOp.lss rfl rfl rfl) hc2) ?_
  refine zN ?_
  refine RunC.cond_true rfl rfl ?_
  refine zQ ?_
  refine zA (r := i64 (-1)) rfl rfl rfl rfl rfl ?_
  refine zN ?_
  refine RunC.ret ?_
  have hq := Option.some.inj h
  subst q0
  exact bodyQ.pure (.inr rfl) rfl (Res.one rfl (RV.tmp rfl))
 ·refine RunC.regionW ?_
  refine zM (r := i64 x1) rfl rfl rfl rfl rfl ?_
  refine zL (r := b false) rfl rfl rfl (LOp.eqb (LOp.lss rfl rfl rfl) hc2) ?_
  refine zN ?_
  refine RunC.cond_false rfl rfl ?_
  refine RunC.skip ?_
  refine zQ ?_
  refine zM (r := i64 x1) rfl rfl rfl rfl rfl ?_
  refine zA (r := i64 x1) rfl rfl rfl rfl rfl ?_
  refine zN ?_
  refine RunC.ret ?_
  have hq := Option.some.inj h
  subst q0
  exact bodyQ.pure (.inr rfl) rfl (Res.one rfl (RV.tmp rfl))
noncomputable def w_szFloat32S (a0 : List F) (a1 : Int) : Option (Int) :=
 olet (IntKind.i64.wrap (a1 - (a0.length : Int))) fun (x1 : Int) =>
 bsel (decide (x1 < 0)) (
  some (-1)) (
  some x1)
theorem w_szFloat32S_ok (a0 : List F) (a1 : Int) (q0 : Int) (h : w_szFloat32S a0 a1 = some q0) : Ev Try.prog 29 [sl a0.length (a0.map f32), i64 a1] [] (i64 q0) [] := by
 refine Ev.start Try.func29 rfl rfl 0 (τ := [(0, sl a0.length (a0.map f32)), (1, i64 a1)]) rfl (Γ' := []) rfl (n := 25) rfl (g := 0) rfl (fun _ => rfl) ?_
 unfold w_szFloat32S at h
 refine zQ ?_
 refine zA (r := i64 0) rfl rfl rfl rfl rfl ?_
 refine zN ?_
 refine RunC.seq ?_
 obtain ⟨x1, hx1, h⟩ := olet_some h
 refine RunC.regionW ?_
 refine zM (r := i64 a1) rfl rfl rfl rfl rfl ?_
 refine zM (r := sl a0.length (a0.map f32)) rfl rfl rfl rfl rfl ?_
 refine zL (r := i64 (a0.length : Int)) rfl rfl rfl (LOp.len_sl und23 rfl rfl) ?_
 refine zL (r := i64 x1) rfl rfl rfl (LOp.eqr (LOp.sub rfl rfl rfl) (congrArg (ik .i64) hx1)) ?_
 refine zA (r := i64 x1) rfl rfl rfl rfl rfl ?_
 refine zN ?_
 refine RunC.seq ?_
 refine RunC.seq ?_
 rcases bsel_some h with ⟨hc2, h⟩ | ⟨hc2, h⟩
 ·refine RunC.regionW ?_
  refine zM (r := i64 x1) rfl rfl rfl rfl rfl ?_
  refine zL (r := b true) rfl rfl rfl (LOp.eqb (LOp.lss rfl rfl rfl) hc2) ?_
  refine zN ?_
  refine RunC.cond_true rfl rfl ?_
  refine zQ ?_
  refine zA (r := i64 (-1)) rfl rfl rfl rfl rfl ?_
  refine zN ?_
  refine RunC.ret ?_
  have hq := Option.some.inj h
  subst q0
  exact bodyQ.pure (.inr rfl) rfl (Res.one rfl (RV.tmp rfl))
 ·refine RunC.regionW ?_
  refine zM (r := i64 x1) rfl rfl rfl rfl rfl ?_
  refine zL (r := b false) rfl rfl rfl (LOp.eqb (LOp.lss rfl rfl rfl) hc2) ?_
  refine zN ?_
  refine RunC.cond_false rfl rfl ?_
  refine RunC.skip ?_
  refine zQ ?_
  refine zM (r := i64 x1) rfl rfl rfl rfl rfl ?_
  refine zA (r := i64 x1) rfl rfl rfl rfl rfl ?_
  refine zN ?_
  refine RunC.ret ?_
  have hq := Option.some.inj h
  subst q0
  exact bodyQ.pure (.inr rfl) rfl (Res.one rfl (RV.tmp rfl))
noncomputable def w_szSparse (a0 : Int) (a1 : List Int) (a2 : List Int) (a3 : List F) (a4 : Int) : Option (Int) :=
 obind (w_szInt64S a1 a4) fun (r1 : Int) =>
 bsel (decide (r1 < 0)) (
  some (-1)) (
  obind (w_szInt64S a2 r1) fun (r2 : Int) =>
  bsel (decide (r2 < 0)) (
   some (-1)) (
   obind (w_szFloat32S a3 r2) fun (r3 : Int) =>
   bsel (decide (r3 < 0)) (
    some (-1)) (
    some r3)))
theorem w_szSparse_ok (a0 : Int) (a1 : List Int) (a2 : List Int) (a3 : List F) (a4 : Int) (q0 : Int) (h : w_szSparse a0 a1 a2 a3 a4 = some q0) : Ev Try.prog 7 [agg [i64 a0, sl a1.length (a1.map i64), sl a2.length (a2.map i64), sl a3.length (a3.map f32)], i64 a4] [] (i64 q0) [] := by
 refine Ev.start Try.func7 rfl rfl 0 (τ := [(0, agg [i64 a0, sl a1.length (a1.map i64), sl a2.length (a2.map i64), sl a3.length (a3.map f32)]), (1, i64 a4)]) rfl (Γ' := []) rfl (n := 49) rfl (g := 0) rfl (fun _ => rfl) ?_
 unfold w_szSparse at h
 refine zQ ?_
 refine ROps.d (r := ptr [i64 a0, sl a1.length (a1.map i64), sl a2.length (a2.map i64), sl a3.length (a3.map f32)]) (fs := []) (Γ' := []) rfl rfl rfl (TOp.box_s rfl rfl rfl) rfl ?_
 refine zA (r := i64 0) rfl rfl rfl rfl rfl ?_
 refine zN ?_
 refine RunC.seq ?_
 obtain ⟨r1, hf1, h⟩ := obind_some h
 refine RunC.regionW ?_
 refine zL (r := ptr [sl a1.length (a1.map i64), sl a2.length (a2.map i64), sl a3.length (a3.map f32)]) rfl rfl rfl (LOp.fap und25 rfl siz22 rfl rfl rfl) ?_
 refine zL (r := sl a1.length (a1.map i64)) rfl rfl rfl (LOp.load1 agg22 rfl rfl) ?_
 refine zM (r := i64 a4) rfl rfl rfl rfl rfl ?_
 refine ROps.d (r := i64 r1) (fs := []) (Γ' := []) rfl rfl rfl (TOp.callB (CallAs.func ent28 rfl rfl) (Bors.cons (Bor.sl (fun _ => rfl)) (Bors.cons (Bor.pure rfl) Bors.nil)) rfl rfl (w_szInt64S_ok a1 a4 r1 hf1)) rfl ?_
 refine zA (r := i64 r1) rfl rfl rfl rfl rfl ?_
 refine zN ?_
 refine RunC.seq ?_
 refine RunC.seq ?_
 rcases bsel_some h with ⟨hc2, h⟩ | ⟨hc2, h⟩
 ·refine RunC.regionW ?_
  refine zM (r := i64 r1) rfl rfl rfl rfl rfl ?_
  refine zL (r := b true) rfl rfl rfl (LOp.eqb (LOp.lss rfl rfl rfl) hc2) ?_
  refine zN ?_
  refine RunC.cond_true rfl rfl ?_
  refine zQ ?_
  refine zA (r := i64 (-1)) rfl rfl rfl rfl rfl ?_
  refine zN ?_
  refine RunC.ret ?_
  have hq := Option.some.inj h
  subst q0
  exact bodyQ.pure (.inr rfl) rfl (Res.one rfl (RV.tmp rfl))
 ·refine RunC.regionW ?_
  refine zM (r := i64 r1) rfl rfl rfl rfl rfl ?_
  refine zL (r := b false) rfl rfl rfl (LOp.eqb (LOp.lss rfl rfl rfl) hc2) ?_
  refine zN ?_
  refine RunC.cond_false rfl rfl ?_
  refine RunC.skip ?_
  refine RunC.seq ?_
  obtain ⟨r2, hf3, h⟩ := obind_some h
  refine RunC.regionW ?_
  refine zL (r := ptr [sl a2.length (a2.map i64), sl a3.length (a3.map f32)]) rfl rfl rfl (LOp.fap und25 rfl siz22 rfl rfl rfl) ?_
  refine zL (r := sl a2.length (a2.map i64)) rfl rfl rfl (LOp.load1 agg22 rfl rfl) ?_
  refine zM (r := i64 r1) rfl rfl rfl rfl rfl ?_
  refine ROps.d (r := i64 r2) (fs := []) (Γ' := []) rfl rfl rfl (TOp.callB (CallAs.func ent28 rfl rfl) (Bors.cons (Bor.sl (fun _ => rfl)) (Bors.cons (Bor.pure rfl) Bors.nil)) rfl rfl (w_szInt64S_ok a2 r1 r2 hf3)) rfl ?_
  refine zA (r := i64 r2) rfl rfl rfl rfl rfl ?_
  refine zN ?_
  refine RunC.seq ?_
  refine RunC.seq ?_
  rcases bsel_some h with ⟨hc4, h⟩ | ⟨hc4, h⟩
  ·refine RunC.regionW ?_
   refine zM (r := i64 r2) rfl rfl rfl rfl rfl ?_
   refine zL (r := b true) rfl rfl rfl (LOp.eqb (LOp.lss rfl rfl rfl) hc4) ?_
   refine zN ?_
   refine RunC.wl (τ' := [(1, i64 r2), (2, ptr [i64 a0, sl a1.length (a1.map i64), sl a2.length (a2.map i64), sl a3.length (a3.map f32)]), (16, b true)]) (Γ' := []) ⟨aR, aR, aR, trivial⟩ trivial ?_
   refine RunC.cond_true rfl rfl ?_
   refine zQ ?_
   refine zA (r := i64 (-1)) rfl rfl rfl rfl rfl ?_
   refine zN ?_
   refine RunC.ret ?_
   have hq := Option.some.inj h
   subst q0
   exact bodyQ.pure (.inr rfl) rfl (Res.one rfl (RV.tmp rfl))
  ·refine RunC.regionW ?_
   refine zM (r := i64 r2) rfl rfl rfl rfl rfl ?_
   refine zL (r := b false) rfl rfl rfl (LOp.eqb (LOp.lss rfl rfl rfl) hc4) ?_
   refine zN ?_
   refine RunC.wl (τ' := [(1, i64 r2), (2, ptr [i64 a0, sl a1.length (a1.map i64), sl a2.length (a2.map i64), sl a3.length (a3.map f32)]), (16, b false)]) (Γ' := []) ⟨aR, aR, aR, trivial⟩ trivial ?_
   refine RunC.cond_false rfl rfl ?_
   refine RunC.skip ?_
   refine RunC.seq ?_
   obtain ⟨r3, hf5, h⟩ := obind_some h
   refine RunC.regionW ?_
   refine zL (r := ptr [sl a3.length (a3.map f32)]) rfl rfl rfl (LOp.fap und25 rfl siz23 rfl rfl rfl) ?_
   refine zL (r := sl a3.length (a3.map f32)) rfl rfl rfl (LOp.load1 agg23 rfl rfl) ?_
   refine zM (r := i64 r2) rfl rfl rfl rfl rfl ?_
   refine ROps.d (r := i64 r3) (fs := []) (Γ' := []) rfl rfl rfl (TOp.callB (CallAs.func ent29 rfl rfl) (Bors.cons (Bor.sl (fun _ => rfl)) (Bors.cons (Bor.pure rfl) Bors.nil)) rfl rfl (w_szFloat32S_ok a3 r2 r3 hf5)) rfl ?_
   refine zA (r := i64 r3) rfl rfl rfl rfl rfl ?_
   refine zN ?_
   refine RunC.seq ?_
   refine RunC.seq ?_
   rcases bsel_some h with ⟨hc6, h⟩ | ⟨hc6, h⟩
   ·refine RunC.regionW ?_
    refine zM (r := i64 r3) rfl rfl rfl rfl rfl ?_
    refine zL (r := b true) rfl rfl rfl (LOp.eqb (LOp.lss rfl rfl rfl) hc6) ?_
    refine zN ?_
    refine RunC.cond_true rfl rfl ?_
    refine zQ ?_
    refine zA (r := i64 (-1)) rfl rfl rfl rfl rfl ?_
    refine zN ?_
    refine RunC.ret ?_
    have hq := Option.some.inj h
    subst q0
    exact bodyQ.pure (.inr rfl) rfl (Res.one rfl (RV.tmp rfl))
   ·refine RunC.regionW ?_
    refine zM (r := i64 r3) rfl rfl rfl rfl rfl ?_
    refine zL (r := b false) rfl rfl rfl (LOp.eqb (LOp.lss rfl rfl rfl) hc6) ?_
    refine zN ?_
    refine RunC.cond_false rfl rfl ?_
    refine RunC.skip ?_
    refine zQ ?_
    refine zM (r := i64 r3) rfl rfl rfl rfl rfl ?_
    refine zA (r := i64 r3) rfl rfl rfl rfl rfl ?_
    refine zN ?_
    refine RunC.ret ?_
    have hq := Option.some.inj h
    subst q0
    exact bodyQ.pure (.inr rfl) rfl (Res.one rfl (RV.tmp rfl))
noncomputable def w_toInt64S_b1 (a0 : List Int) (L1 : List Int) (v3 : Int) : Option (LR ((List Int) × Int) ((List Int)) ((List Int))) :=
 bsel (decide (v3 < (a0.length : Int))) (
  obind (at? a0 v3) fun (e4 : Int) =>
  obind (setAt? L1 v3 e4) fun (L5 : List Int) =>
  olet (IntKind.i64.wrap (v3 + 1)) fun (x6 : Int) =>
  some (LR.next (L5, x6))) (
  some (LR.out L1))
noncomputable def w_toInt64S_s1 (a0 : List Int) : ((List Int) × Int) → Option (LR ((List Int) × Int) ((List Int)) ((List Int))) := fun s => w_toInt64S_b1 a0 s.1 s.2
noncomputable def w_toInt64S_k1 (L7 : List Int) : Option ((List Int)) :=
 some L7
noncomputable def w_toInt64S (a0 : List Int) : Option ((List Int)) :=
 need (mkok 8 (a0.length : Int)) <|
 obind (loopM (w_toInt64S_s1 a0) ((List.replicate (a0.length : Int).toNat 0), 0)) fun z => osum z (fun e => w_toInt64S_k1 e) (fun r => some r)
theorem w_toInt64S_ok (a0 : List Int) (q0 : List Int) (h : w_toInt64S a0 = some q0) : Ev Try.prog 34 [sl a0.length (a0.map i64)] [] (oref 0 0 0 q0.length) [⟨0, some (q0.map i64)⟩] := by
 refine Ev.start Try.func34 rfl rfl 1 (τ := [(0, sl a0.length (a0.map i64))]) rfl (Γ' := [⟨0, none⟩]) rfl (n := 45) rfl (g := 0) rfl (fun _ => rfl) ?_
 unfold w_toInt64S at h
 refine zQ ?_
 refine zA (r := nilsl) rfl rfl rfl rfl rfl ?_
 refine zN ?_
 refine RunC.seq ?_
 obtain ⟨hm1, h⟩ := need_some h
 refine RunC.regionW ?_
 refine zM (r := sl a0.length (a0.map i64)) rfl rfl rfl rfl rfl ?_
 refine zL (r := i64 (a0.length : Int)) rfl rfl rfl (LOp.len_sl und22 rfl rfl) ?_
 refine ROps.d (r := oref 0 1 0 ((a0.length : Int).toNat)) (fs := [(0, ((List.replicate (a0.length : Int).toNat 0).map i64))]) (Γ' := [⟨1, some ((List.replicate (a0.length : Int).toNat 0).map i64)⟩]) rfl rfl rfl (TOp.mkS (g := ⟨0, none⟩) (t := 22) (e := 2) (by_ := 8) (f := i64) (zv := 0) 0 rfl und22 tin2 rfl siz2 zer2 rfl zel2 rfl rfl rfl hm1) rfl ?_
 refine zA (r := oref 0 1 0 ((a0.length : Int).toNat)) rfl rfl rfl rfl rfl ?_
 refine zN ?_
 refine RunC.seq ?_
 refine zQ ?_
 refine zA (r := i64 0) rfl rfl rfl rfl rfl ?_
 refine zN ?_
 obtain ⟨z2, hz_2, h⟩ := obind_some h
 refine RunC.cutN (fun τ Γ => ∃ (L7 : List Int), L7.length = (a0.length : Int).toNat ∧ WeakLe τ [(3, oref 0 1 0 ((a0.length : Int).toNat))] ∧ DeadLe Γ [⟨1, some (L7.map i64)⟩] ∧ z2 = .inl L7) ?_ ?_
 ·refine RunC.block (RunC.loop (RunL.loopM (x := z2) (w_toInt64S_s1 a0) (fun (s : (List Int) × Int) τ Γ => s.1.length = (a0.length : Int).toNat ∧ WeakLe τ [(0, sl a0.length (a0.map i64)), (3, oref 0 1 0 ((a0.length : Int).toNat)), (4, i64 s.2)] ∧ DeadLe Γ [⟨1, some (s.1.map i64)⟩]) ?_ _ _ _ hz_2 ⟨List.length_replicate, ⟨aR, aR, aR, trivial⟩, ⟨⟨rfl, .inr rfl⟩, trivial⟩⟩))
  rintro ⟨L1, v3⟩ τ2 Γ2 y2_ ⟨hl2, hw2, hd2⟩ h2_ ho2 hr2
  refine RunC.wl (τ' := [(0, sl a0.length (a0.map i64)), (3, oref 0 1 0 ((a0.length : Int).toNat)), (4, i64 v3)]) (Γ' := [⟨1, some (L1.map i64)⟩]) hw2 hd2 ?_
  replace hl2 : L1.length = (a0.length : Int).toNat := hl2
  replace h2_ : w_toInt64S_b1 a0 L1 v3 = some y2_ := h2_
  unfold w_toInt64S_b1 at h2_
  refine RunC.seq ?_
  refine RunC.seq ?_
  rcases bsel_some h2_ with ⟨hc2, h2_⟩ | ⟨hc2, h2_⟩
  ·refine RunC.regionW ?_
   refine zM (r := i64 v3) rfl rfl rfl rfl rfl ?_
   refine zM (r := sl a0.length (a0.map i64)) rfl rfl rfl rfl rfl ?_
   refine zL (r := i64 (a0.length : Int)) rfl rfl rfl (LOp.len_sl und22 rfl rfl) ?_
   refine zL (r := b true) rfl rfl rfl (LOp.eqb (LOp.lss rfl rfl rfl) hc2) ?_
   refine zN ?_
   refine RunC.cond_true rfl rfl ?_
   refine RunC.skip ?_
   refine RunC.seq ?_
   refine RunC.block ?_
   obtain ⟨e4, he3, h2_⟩ := obind_some h2_
   obtain ⟨L5, he4, h2_⟩ := obind_some h2_
   refine RunC.regionW ?_
   refine zM (r := oref 0 1 0 ((a0.length : Int).toNat)) rfl rfl rfl rfl rfl ?_
   refine zM (r := i64 v3) rfl rfl rfl rfl rfl ?_
   refine zM (r := sl a0.length (a0.map i64)) rfl rfl rfl rfl rfl ?_
   refine zM (r := i64 v3) rfl rfl rfl rfl rfl ?_
   refine zL (r := ptr [i64 e4]) rfl rfl rfl (LOp.le (LOp.ix (f := i64) und22 siz2 rfl rfl rfl rfl he3) ALe.ptr) ?_
   refine zL (r := i64 e4) rfl rfl rfl (LOp.load1 agg2 rfl rfl) ?_
   refine ROps.d (r := optr 0 1 v3.toNat) (fs := []) (Γ' := [⟨1, some (L1.map i64)⟩]) rfl rfl rfl (TOp.ixo und22 siz2 rfl rfl rfl (set_in he4 hl2) rfl) rfl ?_
   refine ROps.st (f := i64) (i := v3) (Γ' := [⟨1, some (L5.map i64)⟩]) rfl siz2 rfl rfl rfl aR rfl rfl rfl he4 rfl ?_
   refine zN ?_
   obtain ⟨x6, hx5, h2_⟩ := olet_some h2_
   refine RunC.regionW ?_
   refine zM (r := i64 v3) rfl rfl rfl rfl rfl ?_
   refine zL (r := i64 x6) rfl rfl rfl (LOp.eqr (LOp.add rfl rfl rfl) (congrArg (ik .i64) hx5)) ?_
   refine zA (r := i64 x6) rfl rfl rfl rfl rfl ?_
   refine zN ?_
   cases Option.some.inj h2_
   exact ⟨_, rfl, ((setAt?_len he4).trans hl2), ⟨aR, aR, aR, trivial⟩, ⟨⟨rfl, .inr rfl⟩, trivial⟩⟩
  ·refine RunC.regionW ?_
   refine zM (r := i64 v3) rfl rfl rfl rfl rfl ?_
   refine zM (r := sl a0.length (a0.map i64)) rfl rfl rfl rfl rfl ?_
   refine zL (r := i64 (a0.length : Int)) rfl rfl rfl (LOp.len_sl und22 rfl rfl) ?_
   refine zL (r := b false) rfl rfl rfl (LOp.eqb (LOp.lss rfl rfl rfl) hc2) ?_
   refine zN ?_
   refine RunC.cond_false rfl rfl ?_
   refine RunC.exit ?_
   cases Option.some.inj h2_
   have hx := ho2 _ rfl
   exact ⟨L1, hl2, ⟨aR, trivial⟩, ⟨⟨rfl, .inr rfl⟩, trivial⟩, hx⟩
 ·rintro τ3 Γ3 ⟨L7, hl8, hw3, hd3, rfl⟩
  refine RunC.wl hw3 hd3 ?_
  replace h : w_toInt64S_k1 L7 = some q0 := h
  unfold w_toInt64S_k1 at h
  refine zQ ?_
  refine zM (r := oref 0 1 0 ((a0.length : Int).toNat)) rfl rfl rfl rfl rfl ?_
  refine zA (r := oref 0 1 0 ((a0.length : Int).toNat)) rfl rfl rfl rfl rfl ?_
  refine zN ?_
  refine RunC.ret ?_
  have hq := Option.some.inj h
  subst q0
  exact bodyQ.mk (r' := oref 0 1 0 L7.length) [(0, 1)] (.inr rfl) rfl (show List.Nodup [0] from by decide) rfl rfl (Res.eq (Res.one rfl (RV.tmp rfl)) (by rw [(show L7.length = (a0.length : Int).toNat from hl8)] <;> rfl)) (SelL.arr0 (f := i64) (fun _ => rfl) rfl trivial)
noncomputable def w_toFloat32S_b1 (a0 : List F) (L1 : List F) (v3 : Int) : Option (LR ((List F) × Int) ((List F)) ((List F))) :=
 bsel (decide (v3 < (a0.length : Int))) (
  obind (at? a0 v3) fun (e4 : F) =>
  obind (setAt? L1 v3 e4) fun (L5 : List F) =>
  olet (IntKind.i64.wrap (v3 + 1)) fun (x6 : Int) =>
  some (LR.next (L5, x6))) (
  some (LR.out L1))
noncomputable def w_toFloat32S_s1 (a0 : List F) : ((List F) × Int) → Option (LR ((List F) × Int) ((List F)) ((List F))) := fun s => w_toFloat32S_b1 a0 s.1 s.2
noncomputable def w_toFloat32S_k1 (L7 : List F) : Option ((List F)) :=
 some L7
noncomputable def w_toFloat32S (a0 : List F) : Option ((List F)) :=
 need (mkok 4 (a0.length : Int)) <|
 obind (loopM (w_toFloat32S_s1 a0) ((List.replicate (a0.length : Int).toNat (some 0)), 0)) fun z => osum z (fun e => w_toFloat32S_k1 e) (fun r => some r)
theorem w_toFloat32S_ok (a0 : List F) (q0 : List F) (h : w_toFloat32S a0 = some q0) : Ev Try.prog 10 [sl a0.length (a0.map f32)] [] (oref 0 0 0 q0.length) [⟨0, some (q0.map f32)⟩] := by
 refine Ev.start Try.func10 rfl rfl 1 (τ := [(0, sl a0.length (a0.map f32))]) rfl (Γ' := [⟨0, none⟩]) rfl (n := 45) rfl (g := 0) rfl (fun _ => rfl) ?_
 unfold w_toFloat32S at h
 refine zQ ?_
 refine zA (r := nilsl) rfl rfl rfl rfl rfl ?_
 refine zN ?_
 refine RunC.seq ?_
 obtain ⟨hm1, h⟩ := need_some h
 refine RunC.regionW ?_
 refine zM (r := sl a0.length (a0.map f32)) rfl rfl rfl rfl rfl ?_
 refine zL (r := i64 (a0.length : Int)) rfl rfl rfl (LOp.len_sl und23 rfl rfl) ?_
 refine ROps.d (r := oref 0 1 0 ((a0.length : Int).toNat)) (fs := [(0, ((List.replicate (a0.length : Int).toNat (some 0)).map f32))]) (Γ' := [⟨1, some ((List.replicate (a0.length : Int).toNat (some 0)).map f32)⟩]) rfl rfl rfl (TOp.mkS (g := ⟨0, none⟩) (t := 23) (e := 26) (by_ := 4) (f := f32) (zv := some 0) 0 rfl und23 tin26 rfl siz26 zer26 rfl zel26 rfl rfl rfl hm1) rfl ?_
 refine zA (r := oref 0 1 0 ((a0.length : Int).toNat)) rfl rfl rfl rfl rfl ?_
 refine zN ?_
 refine RunC.seq ?_
 refine zQ ?_
 refine zA (r := i64 0) rfl rfl rfl rfl rfl ?_
 refine zN ?_
 obtain ⟨z2, hz_2, h⟩ := obind_some h
 refine RunC.cutN (fun τ Γ => ∃ (L7 : List F), L7.length = (a0.length : Int).toNat ∧ WeakLe τ [(3, oref 0 1 0 ((a0.length : Int).toNat))] ∧ DeadLe Γ [⟨1, some (L7.map f32)⟩] ∧ z2 = .inl L7) ?_ ?_
 ·refine RunC.block (RunC.loop (RunL.loopM (x := z2) (w_toFloat32S_s1 a0) (fun (s : (List F) × Int) τ Γ => s.1.length = (a0.length : Int).toNat ∧ WeakLe τ [(0, sl a0.length (a0.map f32)), (3, oref 0 1 0 ((a0.length : Int).toNat)), (4, i64 s.2)] ∧ DeadLe Γ [⟨1, some (s.1.map f32)⟩]) ?_ _ _ _ hz_2 ⟨List.length_replicate, ⟨aR, aR, aR, trivial⟩, ⟨⟨rfl, .inr rfl⟩, trivial⟩⟩))
  rintro ⟨L1, v3⟩ τ2 Γ2 y2_ ⟨hl2, hw2, hd2⟩ h2_ ho2 hr2
  refine RunC.wl (τ' := [(0, sl a0.length (a0.map f32)), (3, oref 0 1 0 ((a0.length : Int).toNat)), (4, i64 v3)]) (Γ' := [⟨1, some (L1.map f32)⟩]) hw2 hd2 ?_
  replace hl2 : L1.length = (a0.length : Int).toNat := hl2
  replace h2_ : w_toFloat32S_b1 a0 L1 v3 = some y2_ := h2_
  unfold w_toFloat32S_b1 at h2_
  refine RunC.seq ?_
  refine RunC.seq ?_
  rcases bsel_some h2_ with ⟨hc2, h2_⟩ | ⟨hc2, h2_⟩
  ·refine RunC.regionW ?_
   refine zM (r := i64 v3) rfl rfl rfl rfl rfl ?_
   refine zM (r := sl a0.length (a0.map f32)) rfl rfl rfl rfl rfl ?_
   refine zL (r := i64 (a0.length : Int)) rfl rfl rfl (LOp.len_sl und23 rfl rfl) ?_
   refine zL (r := b true) rfl rfl rfl (LOp.eqb (LOp.lss rfl rfl rfl) hc2) ?_
   refine zN ?_
   refine RunC.cond_true rfl rfl ?_
   refine RunC.skip ?_
   refine RunC.seq ?_
   refine RunC.block ?_
   obtain ⟨e4, he3, h2_⟩ := obind_some h2_
   obtain ⟨L5, he4, h2_⟩ := obind_some h2_
   refine RunC.regionW ?_
   refine zM (r := oref 0 1 0 ((a0.length : Int).toNat)) rfl rfl rfl rfl rfl ?_
   refine zM (r := i64 v3) rfl rfl rfl rfl rfl ?_
   refine zM (r := sl a0.length (a0.map f32)) rfl rfl rfl rfl rfl ?_
   refine zM (r := i64 v3) rfl rfl rfl rfl rfl ?_
   refine zL (r := ptr [f32 e4]) rfl rfl rfl (LOp.le (LOp.ix (f := f32) und23 siz26 rfl rfl rfl rfl he3) ALe.ptr) ?_
   refine zL (r := f32 e4) rfl rfl rfl (LOp.load1 agg26 rfl rfl) ?_
   refine ROps.d (r := optr 0 1 v3.toNat) (fs := []) (Γ' := [⟨1, some (L1.map f32)⟩]) rfl rfl rfl (TOp.ixo und23 siz26 rfl rfl rfl (set_in he4 hl2) rfl) rfl ?_
   refine ROps.st (f := f32) (i := v3) (Γ' := [⟨1, some (L5.map f32)⟩]) rfl siz26 rfl rfl rfl aR rfl rfl rfl he4 rfl ?_
   refine zN ?_
   obtain ⟨x6, hx5, h2_⟩ := olet_some h2_
   refine RunC.regionW ?_
   refine zM (r := i64 v3) rfl rfl rfl rfl rfl ?_
   refine zL (r := i64 x6) rfl rfl rfl (LOp.eqr (LOp.add rfl rfl rfl) (congrArg (ik .i64) hx5)) ?_
   refine zA (r := i64 x6) rfl rfl rfl rfl rfl ?_
   refine zN ?_
   cases Option.some.inj h2_
   exact ⟨_, rfl, ((setAt?_len he4).trans hl2), ⟨aR, aR, aR, trivial⟩, ⟨⟨rfl, .inr rfl⟩, trivial⟩⟩
  ·refine RunC.regionW ?_
   refine zM (r := i64 v3) rfl rfl rfl rfl rfl ?_
   refine zM (r := sl a0.length (a0.map f32)) rfl rfl rfl rfl rfl ?_
   refine zL (r := i64 (a0.length : Int)) rfl rfl rfl (LOp.len_sl und23 rfl rfl) ?_
   refine zL (r := b false) rfl rfl rfl (LOp.eqb (LOp.lss rfl rfl rfl) hc2) ?_
   refine zN ?_
   refine RunC.cond_false rfl rfl ?_
   refine RunC.exit ?_
   cases Option.some.inj h2_
   have hx := ho2 _ rfl
   exact ⟨L1, hl2, ⟨aR, trivial⟩, ⟨⟨rfl, .inr rfl⟩, trivial⟩, hx⟩
 ·rintro τ3 Γ3 ⟨L7, hl8, hw3, hd3, rfl⟩
  refine RunC.wl hw3 hd3 ?_
  replace h : w_toFloat32S_k1 L7 = some q0 := h
  unfold w_toFloat32S_k1 at h
  refine zQ ?_
  refine zM (r := oref 0 1 0 ((a0.length : Int).toNat)) rfl rfl rfl rfl rfl ?_
  refine zA (r := oref 0 1 0 ((a0.length : Int).toNat)) rfl rfl rfl rfl rfl ?_
  refine zN ?_
  refine RunC.ret ?_
  have hq := Option.some.inj h
  subst q0
  exact bodyQ.mk (r' := oref 0 1 0 L7.length) [(0, 1)] (.inr rfl) rfl (show List.Nodup [0] from by decide) rfl rfl (Res.eq (Res.one rfl (RV.tmp rfl)) (by rw [(show L7.length = (a0.length : Int).toNat from hl8)] <;> rfl)) (SelL.arr0 (f := f32) (fun _ => rfl) rfl trivial)
noncomputable def w_toSparse (a0 : Int) (a1 : List Int) (a2 : List Int) (a3 : List F) : Option (Int × (List Int) × (List Int) × (List F)) :=
 obind (w_toInt64S a1) fun (r1 : List Int) =>
 obind (w_toInt64S a2) fun (r2 : List Int) =>
 obind (w_toFloat32S a3) fun (r3 : List F) =>
 some (a0, r1, r2, r3)
theorem w_toSparse_ok (a0 : Int) (a1 : List Int) (a2 : List Int) (a3 : List F) (q0 : Int) (q1 : List Int) (q2 : List Int) (q3 : List F) (h : w_toSparse a0 a1 a2 a3 = some (q0, q1, q2, q3)) : Ev Try.prog 9 [agg [i64 a0, sl a1.length (a1.map i64), sl a2.length (a2.map i64), sl a3.length (a3.map f32)]] [] (agg [i64 q0, oref 0 0 0 q1.length, oref 1 0 0 q2.length, oref 2 0 0 q3.length]) [⟨0, some (q1.map i64)⟩, ⟨0, some (q2.map i64)⟩, ⟨0, some (q3.map f32)⟩] := by
 refine Ev.start Try.func9 rfl rfl 5 (τ := [(0, agg [i64 a0, sl a1.length (a1.map i64), sl a2.length (a2.map i64), sl a3.length (a3.map f32)])]) rfl (Γ' := [⟨0, none⟩, ⟨0, none⟩, ⟨0, none⟩, ⟨0, none⟩, ⟨0, none⟩]) rfl (n := 41) rfl (g := 0) rfl (fun _ => rfl) ?_
 unfold w_toSparse at h
 refine zQ ?_
 refine ROps.d (r := ptr [i64 a0, sl a1.length (a1.map i64), sl a2.length (a2.map i64), sl a3.length (a3.map f32)]) (fs := []) (Γ' := [⟨0, none⟩, ⟨0, none⟩, ⟨0, none⟩, ⟨0, none⟩, ⟨0, none⟩]) rfl rfl rfl (TOp.box_s rfl rfl rfl) rfl ?_
 refine ROps.d (r := optr 0 1 0) (fs := [(0, [i64 0, nilsl, nilsl, nilsl])]) (Γ' := [⟨1, some [i64 0, nilsl, nilsl, nilsl]⟩, ⟨0, none⟩, ⟨0, none⟩, ⟨0, none⟩, ⟨0, none⟩]) rfl rfl rfl (TOp.alloc_o (g := ⟨0, none⟩) 0 rfl zer30 zok30 rfl) rfl ?_
 refine zN ?_
 refine zQ ?_
 refine ROps.d (r := optr 1 1 0) (fs := [(1, [i64 0, nilsl, nilsl, nilsl])]) (Γ' := [⟨1, some [i64 0, nilsl, nilsl, nilsl]⟩, ⟨1, some [i64 0, nilsl, nilsl, nilsl]⟩, ⟨0, none⟩, ⟨0, none⟩, ⟨0, none⟩]) rfl rfl rfl (TOp.alloc_o (g := ⟨0, none⟩) 1 rfl zer30 zok30 rfl) rfl ?_
 refine zN ?_
 refine zQ ?_
 refine zL (r := ptr [i64 a0, sl a1.length (a1.map i64), sl a2.length (a2.map i64), sl a3.length (a3.map f32)]) rfl rfl rfl (LOp.fap und25 rfl siz2 rfl rfl rfl) ?_
 refine zL (r := i64 a0) rfl rfl rfl (LOp.load1 agg2 rfl rfl) ?_
 refine zL (r := optr 1 1 0) rfl rfl rfl (LOp.fao und30 rfl siz2 rfl rfl rfl) ?_
 refine ROps.store_le (r := i64 a0) (l' := [i64 a0, nilsl, nilsl, nilsl]) (Γ' := [⟨1, some [i64 0, nilsl, nilsl, nilsl]⟩, ⟨1, some [i64 a0, nilsl, nilsl, nilsl]⟩, ⟨0, none⟩, ⟨0, none⟩, ⟨0, none⟩]) rfl siz2 rfl rfl rfl aR rfl rfl rfl rfl (Nat.le_of_ble_eq_true rfl) rfl rfl ?_
 refine zN ?_
 refine RunC.seq ?_
 obtain ⟨r1, hf1, h⟩ := obind_some h
 refine RunC.regionW ?_
 refine zL (r := ptr [sl a1.length (a1.map i64), sl a2.length (a2.map i64), sl a3.length (a3.map f32)]) rfl rfl rfl (LOp.fap und25 rfl siz22 rfl rfl rfl) ?_
 refine zL (r := sl a1.length (a1.map i64)) rfl rfl rfl (LOp.load1 agg22 rfl rfl) ?_
 refine ROps.d (r := oref 2 1 0 r1.length) (fs := [(2, (r1.map i64))]) (Γ' := [⟨1, some [i64 0, nilsl, nilsl, nilsl]⟩, ⟨1, some [i64 a0, nilsl, nilsl, nilsl]⟩, ⟨1, some (r1.map i64)⟩, ⟨0, none⟩, ⟨0, none⟩]) rfl rfl rfl (TOp.callBN (ls := [(r1.map i64)]) [2] (CallAs.func ent34 rfl rfl) (Bors.cons (Bor.sl (fun _ => rfl)) Bors.nil) rfl (w_toInt64S_ok a1 r1 hf1) (and_all (lts0_map (f := i64) (fun _ => rfl) _) rfl) (and_all (noss_map (f := i64) (fun _ => rfl) _) rfl) rfl (by decide) (ns_of ⟨⟨_, rfl⟩, trivial⟩)) rfl ?_
 refine zL (r := optr 1 1 1) rfl rfl rfl (LOp.fao und30 rfl siz22 rfl rfl rfl) ?_
 refine ROps.store_le (r := oref 2 1 0 r1.length) (l' := [i64 a0, oref 2 1 0 r1.length, nilsl, nilsl]) (Γ' := [⟨1, some [i64 0, nilsl, nilsl, nilsl]⟩, ⟨1, some [i64 a0, oref 2 1 0 r1.length, nilsl, nilsl]⟩, ⟨1, some (r1.map i64)⟩, ⟨0, none⟩, ⟨0, none⟩]) rfl siz22 rfl rfl rfl aR rfl rfl rfl rfl (Nat.le_of_ble_eq_true rfl) rfl rfl ?_
 refine zN ?_
 refine RunC.seq ?_
 obtain ⟨r2, hf2, h⟩ := obind_some h
 refine RunC.regionW ?_
 refine zL (r := ptr [sl a2.length (a2.map i64), sl a3.length (a3.map f32)]) rfl rfl rfl (LOp.fap und25 rfl siz22 rfl rfl rfl) ?_
 refine zL (r := sl a2.length (a2.map i64)) rfl rfl rfl (LOp.load1 agg22 rfl rfl) ?_
 refine ROps.d (r := oref 3 1 0 r2.length) (fs := [(3, (r2.map i64))]) (Γ' := [⟨1, some [i64 0, nilsl, nilsl, nilsl]⟩, ⟨1, some [i64 a0, oref 2 1 0 r1.length, nilsl, nilsl]⟩, ⟨1, some (r1.map i64)⟩, ⟨1, some (r2.map i64)⟩, ⟨0, none⟩]) rfl rfl rfl (TOp.callBN (ls := [(r2.map i64)]) [3] (CallAs.func ent34 rfl rfl) (Bors.cons (Bor.sl (fun _ => rfl)) Bors.nil) rfl (w_toInt64S_ok a2 r2 hf2) (and_all (lts0_map (f := i64) (fun _ => rfl) _) rfl) (and_all (noss_map (f := i64) (fun _ => rfl) _) rfl) rfl (by decide) (ns_of ⟨⟨_, rfl⟩, trivial⟩)) rfl ?_
 refine zL (r := optr 1 1 2) rfl rfl rfl (LOp.fao und30 rfl siz22 rfl rfl rfl) ?_
 refine ROps.store_le (r := oref 3 1 0 r2.length) (l' := [i64 a0, oref 2 1 0 r1.length, oref 3 1 0 r2.length, nilsl]) (Γ' := [⟨1, some [i64 0, nilsl, nilsl, nilsl]⟩, ⟨1, some [i64 a0, oref 2 1 0 r1.length, oref 3 1 0 r2.length, nilsl]⟩, ⟨1, some (r1.map i64)⟩, ⟨1, some (r2.map i64)⟩, ⟨0, none⟩]) rfl siz22 rfl rfl rfl aR rfl rfl rfl rfl (Nat.le_of_ble_eq_true rfl) rfl rfl ?_
 refine zN ?_
 refine RunC.seq ?_
 obtain ⟨r3, hf3, h⟩ := obind_some h
 refine RunC.regionW ?_
 refine zL (r := ptr [sl a3.length (a3.map f32)]) rfl rfl rfl (LOp.fap und25 rfl siz23 rfl rfl rfl) ?_
 refine zL (r := sl a3.length (a3.map f32)) rfl rfl rfl (LOp.load1 agg23 rfl rfl) ?_
 refine ROps.d (r := oref 4 1 0 r3.length) (fs := [(4, (r3.map f32))]) (Γ' := [⟨1, some [i64 0, nilsl, nilsl, nilsl]⟩, ⟨1, some [i64 a0, oref 2 1 0 r1.length, oref 3 1 0 r2.length, nilsl]⟩, ⟨1, some (r1.map i64)⟩, ⟨1, some (r2.map i64)⟩, ⟨1, some (r3.map f32)⟩]) rfl rfl rfl (TOp.callBN (ls := [(r3.map f32)]) [4] (CallAs.func ent10 rfl rfl) (Bors.cons (Bor.sl (fun _ => rfl)) Bors.nil) rfl (w_toFloat32S_ok a3 r3 hf3) (and_all (lts0_map (f := f32) (fun _ => rfl) _) rfl) (and_all (noss_map (f := f32) (fun _ => rfl) _) rfl) rfl (by decide) (ns_of ⟨⟨_, rfl⟩, trivial⟩)) rfl ?_
 refine zL (r := optr 1 1 3) rfl rfl rfl (LOp.fao und30 rfl siz23 rfl rfl rfl) ?_
 refine ROps.store_le (r := oref 4 1 0 r3.length) (l' := [i64 a0, oref 2 1 0 r1.length, oref 3 1 0 r2.length, oref 4 1 0 r3.length]) (Γ' := [⟨1, some [i64 0, nilsl, nilsl, nilsl]⟩, ⟨1, some [i64 a0, oref 2 1 0 r1.length, oref 3 1 0 r2.length, oref 4 1 0 r3.length]⟩, ⟨1, some (r1.map i64)⟩, ⟨1, some (r2.map i64)⟩, ⟨1, some (r3.map f32)⟩]) rfl siz23 rfl rfl rfl aR rfl rfl rfl rfl (Nat.le_of_ble_eq_true rfl) rfl rfl ?_
 refine zN ?_
 refine RunC.wl (τ' := [(2, optr 0 1 0), (3, optr 1 1 0)]) (Γ' := [⟨1, some [i64 0, nilsl, nilsl, nilsl]⟩, ⟨1, some [i64 a0, oref 2 1 0 r1.length, oref 3 1 0 r2.length, oref 4 1 0 r3.length]⟩, ⟨1, some (r1.map i64)⟩, ⟨1, some (r2.map i64)⟩, ⟨1, some (r3.map f32)⟩]) ⟨aR, aR, trivial⟩ ⟨⟨rfl, .inr rfl⟩, ⟨rfl, .inr rfl⟩, ⟨rfl, .inr rfl⟩, ⟨rfl, .inr rfl⟩, ⟨rfl, .inr rfl⟩, trivial⟩ ?_
 refine zQ ?_
 refine ROps.d (r := agg [i64 a0, oref 2 1 0 r1.length, oref 3 1 0 r2.length, oref 4 1 0 r3.length]) (fs := []) (Γ' := [⟨1, some [i64 0, nilsl, nilsl, nilsl]⟩, ⟨1, some [i64 a0, oref 2 1 0 r1.length, oref 3 1 0 r2.length, oref 4 1 0 r3.length]⟩, ⟨1, some (r1.map i64)⟩, ⟨1, some (r2.map i64)⟩, ⟨1, some (r3.map f32)⟩]) rfl rfl rfl (TOp.loadAgg_o rfl agg30 siz30 rfl rfl rfl rfl) rfl ?_
 refine ROps.store_le (r := agg [i64 a0, oref 2 1 0 r1.length, oref 3 1 0 r2.length, oref 4 1 0 r3.length]) (l' := [i64 a0, oref 2 1 0 r1.length, oref 3 1 0 r2.length, oref 4 1 0 r3.length]) (Γ' := [⟨1, some [i64 a0, oref 2 1 0 r1.length, oref 3 1 0 r2.length, oref 4 1 0 r3.length]⟩, ⟨1, some [i64 a0, oref 2 1 0 r1.length, oref 3 1 0 r2.length, oref 4 1 0 r3.length]⟩, ⟨1, some (r1.map i64)⟩, ⟨1, some (r2.map i64)⟩, ⟨1, some (r3.map f32)⟩]) rfl siz30 rfl rfl rfl aR rfl rfl rfl rfl (Nat.le_of_ble_eq_true rfl) rfl rfl ?_
 refine zN ?_
 refine RunC.ret ?_
 have hq := Option.some.inj h
 obtain ⟨hq0, hq⟩ := Prod.mk.inj hq
 obtain ⟨hq1, hq⟩ := Prod.mk.inj hq
 obtain ⟨hq2, hq⟩ := Prod.mk.inj hq
 subst q0
 subst q1
 subst q2
 subst q3
 exact bodyQ.mk (r' := agg [i64 a0, oref 2 1 0 r1.length, oref 3 1 0 r2.length, oref 4 1 0 r3.length]) [(2, 1), (3, 1), (4, 1)] (.inr rfl) rfl (show List.Nodup [2, 3, 4] from by decide) rfl rfl (Res.one rfl (RV.cell agg30 siz30 rfl rfl rfl rfl)) (SelL.arr0 (f := i64) (fun _ => rfl) rfl (SelL.arr0 (f := i64) (fun _ => rfl) rfl (SelL.arr0 (f := f32) (fun _ => rfl) rfl trivial)))
noncomputable def s_l00In (a0 : Int) (a1 : Int) (a2 : Int) : Option (Bool) :=
 bsel (decide (a1 ≤ a0)) (
  some (decide (a0 ≤ a2))) (
  some false)
theorem s_l00In_ok (a0 : Int) (a1 : Int) (a2 : Int) (q0 : Bool) (h : s_l00In a0 a1 a2 = some q0) : Ev Try.prog 32 [i64 a0, i64 a1, i64 a2] [] (b q0) [] := by
 refine Ev.start Try.func32 rfl rfl 0 (τ := [(0, i64 a0), (1, i64 a1), (2, i64 a2)]) rfl (Γ' := []) rfl (n := 31) rfl (g := 0) rfl (fun _ => rfl) ?_
 unfold s_l00In at h
 refine zQ ?_
 refine zA (r := b false) rfl rfl rfl rfl rfl ?_
 refine zN ?_
 refine RunC.seq ?_
 rcases bsel_some h with ⟨hc1, h⟩ | ⟨hc1, h⟩
 ·refine RunC.regionW ?_
  refine zM (r := i64 a0) rfl rfl rfl rfl rfl ?_
  refine zM (r := i64 a1) rfl rfl rfl rfl rfl ?_
  refine zL (r := b true) rfl rfl rfl (LOp.eqb (LOp.geq rfl rfl rfl) hc1) ?_
  refine zM (r := b true) rfl rfl rfl rfl rfl ?_
  refine zM (r := i64 a0) rfl rfl rfl rfl rfl ?_
  refine zM (r := i64 a2) rfl rfl rfl rfl rfl ?_
  refine zL (r := b (decide (a0 ≤ a2))) rfl rfl rfl (LOp.leq rfl rfl rfl) ?_
  refine zL (r := b (decide (a0 ≤ a2))) rfl rfl rfl (LOp.pick_true rfl rfl rfl) ?_
  refine zA (r := b (decide (a0 ≤ a2))) rfl rfl rfl rfl rfl ?_
  refine zN ?_
  refine RunC.ret ?_
  have hq := Option.some.inj h
  subst q0
  exact bodyQ.pure (.inr rfl) rfl (Res.one rfl (RV.tmp rfl))
 ·refine RunC.regionW ?_
  refine zM (r := i64 a0) rfl rfl rfl rfl rfl ?_
  refine zM (r := i64 a1) rfl rfl rfl rfl rfl ?_
  refine zL (r := b false) rfl rfl rfl (LOp.eqb (LOp.geq rfl rfl rfl) hc1) ?_
  refine zM (r := b false) rfl rfl rfl rfl rfl ?_
  refine ROps.s rfl rfl rfl ?_
  refine ROps.s rfl rfl rfl ?_
  refine ROps.s rfl rfl rfl ?_
  refine zL (r := b false) rfl rfl rfl (LOp.pick_false rfl rfl rfl) ?_
  refine zA (r := b false) rfl rfl rfl rfl rfl ?_
  refine zN ?_
  refine RunC.ret ?_
  have hq := Option.some.inj h
  subst q0
  exact bodyQ.pure (.inr rfl) rfl (Res.one rfl (RV.tmp rfl))
noncomputable def s_l01Finite (a0 : F) : Option (Bool) :=
 olet (fop .sub .f32 a0 a0) fun (x1 : F) =>
 some (feq .f32 x1 (some 0))
theorem s_l01Finite_ok (a0 : F) (q0 : Bool) (h : s_l01Finite a0 = some q0) : Ev Try.prog 79 [f32 a0] [] (b q0) [] := by
 refine Ev.start Try.func79 rfl rfl 0 (τ := [(0, f32 a0)]) rfl (Γ' := []) rfl (n := 15) rfl (g := 0) rfl (fun _ => rfl) ?_
 unfold s_l01Finite at h
 refine zQ ?_
 refine zA (r := b false) rfl rfl rfl rfl rfl ?_
 refine zN ?_
 refine RunC.seq ?_
 obtain ⟨x1, hx1, h⟩ := olet_some h
 refine RunC.regionW ?_
 refine zM (r := f32 a0) rfl rfl rfl rfl rfl ?_
 refine zM (r := f32 a0) rfl rfl rfl rfl rfl ?_
 refine ROps.d (r := f32 x1) (fs := []) (Γ' := []) rfl rfl rfl (TOp.eqr (TOp.fop (.inr (.inl rfl)) rfl (OpF.tmp rfl) (OpF.tmp rfl)) (congrArg (f .f32) hx1)) rfl ?_
 refine zL (r := b (feq .f32 x1 (some 0))) rfl rfl rfl (LOp.feq rfl (OpF.tmp rfl) (OpF.const rfl (by kernel_rfl) (by kernel_rfl))) ?_
 refine zA (r := b (feq .f32 x1 (some 0))) rfl rfl rfl rfl rfl ?_
 refine zN ?_
 refine RunC.ret ?_
 have hq := Option.some.inj h
 subst q0
 exact bodyQ.pure (.inr rfl) rfl (Res.one rfl (RV.tmp rfl))
noncomputable def s_l02Finite_b1 (a0 : List F) (v1 : Int) : Option (LR (Int) (Unit) (Bool)) :=
 bsel (decide (v1 < (a0.length : Int))) (
  obind (at? a0 v1) fun (e2 : F) =>
  obind (s_l01Finite e2) fun (r3 : Bool) =>
  bsel r3 (
   olet (IntKind.i64.wrap (v1 + 1)) fun (x4 : Int) =>
   some (LR.next x4)) (
   some (LR.ret false))) (
  some (LR.out ()))
noncomputable def s_l02Finite_s1 (a0 : List F) : (Int) → Option (LR (Int) (Unit) (Bool)) := fun s => s_l02Finite_b1 a0 s
noncomputable def s_l02Finite_k1  : Option (Bool) :=
 some true
noncomputable def s_l02Finite (a0 : List F) : Option (Bool) :=
 obind (loopM (s_l02Finite_s1 a0) 0) fun z => osum z (fun _ => s_l02Finite_k1) (fun r => some r)
theorem s_l02Finite_ok (a0 : List F) (q0 : Bool) (h : s_l02Finite a0 = some q0) : Ev Try.prog 78 [sl a0.length (a0.map f32)] [] (b q0) [] := by
 refine Ev.start Try.func78 rfl rfl 0 (τ := [(0, sl a0.length (a0.map f32))]) rfl (Γ' := []) rfl (n := 33) rfl (g := 0) rfl (fun _ => rfl) ?_
 unfold s_l02Finite at h
 refine zQ ?_
 refine zA (r := b false) rfl rfl rfl rfl rfl ?_
 refine zN ?_
 refine RunC.seq ?_
 refine zQ ?_
 refine zA (r := i64 0) rfl rfl rfl rfl rfl ?_
 refine zN ?_
 obtain ⟨z2, hz_2, h⟩ := obind_some h
 refine RunC.cutN (fun τ Γ => WeakLe τ [] ∧ DeadLe Γ [] ∧ z2 = .inl ()) ?_ ?_
 ·refine RunC.block (RunC.loop (RunL.loopM (x := z2) (s_l02Finite_s1 a0) (fun (s : Int) τ Γ => WeakLe τ [(0, sl a0.length (a0.map f32)), (3, i64 s)] ∧ DeadLe Γ []) ?_ _ _ _ hz_2 ⟨⟨aR, aR, trivial⟩, trivial⟩))
  rintro v1 τ2 Γ2 y2_ ⟨hw2, hd2⟩ h2_ ho2 hr2
  refine RunC.wl (τ' := [(0, sl a0.length (a0.map f32)), (3, i64 v1)]) (Γ' := []) hw2 hd2 ?_
  replace h2_ : s_l02Finite_b1 a0 v1 = some y2_ := h2_
  unfold s_l02Finite_b1 at h2_
  refine RunC.seq ?_
  refine RunC.seq ?_
  rcases bsel_some h2_ with ⟨hc1, h2_⟩ | ⟨hc1, h2_⟩
  ·refine RunC.regionW ?_
   refine zM (r := i64 v1) rfl rfl rfl rfl rfl ?_
   refine zM (r := sl a0.length (a0.map f32)) rfl rfl rfl rfl rfl ?_
   refine zL (r := i64 (a0.length : Int)) rfl rfl rfl (LOp.len_sl und23 rfl rfl) ?_
   refine zL (r := b true) rfl rfl rfl (LOp.eqb (LOp.lss rfl rfl rfl) hc1) ?_
   refine zN ?_
   refine RunC.cond_true rfl rfl ?_
   refine RunC.skip ?_
   refine RunC.seq ?_
   refine RunC.block ?_
   refine RunC.seq ?_
   obtain ⟨e2, he2, h2_⟩ := obind_some h2_
   obtain ⟨r3, hf3, h2_⟩ := obind_some h2_
   rcases bsel_some h2_ with ⟨hc4, h2_⟩ | ⟨hc4, h2_⟩
   ·refine RunC.regionW ?_
    refine zM (r := sl a0.length (a0.map f32)) rfl rfl rfl rfl rfl ?_
    refine zM (r := i64 v1) rfl rfl rfl rfl rfl ?_
    refine zL (r := ptr [f32 e2]) rfl rfl rfl (LOp.le (LOp.ix (f := f32) und23 siz26 rfl rfl rfl rfl he2) ALe.ptr) ?_
    refine zL (r := f32 e2) rfl rfl rfl (LOp.load1 agg26 rfl rfl) ?_
    refine ROps.d (r := b true) (fs := []) (Γ' := []) rfl rfl rfl (TOp.eqb (TOp.callB (CallAs.func ent79 rfl rfl) (Bors.cons (Bor.pure rfl) Bors.nil) rfl rfl (s_l01Finite_ok e2 r3 hf3)) hc4) rfl ?_
    refine zL (r := b false) rfl rfl rfl (LOp.eqb (LOp.not rfl rfl) rfl) ?_
    refine zN ?_
    refine RunC.cond_false rfl rfl ?_
    refine RunC.skip ?_
    obtain ⟨x4, hx5, h2_⟩ := olet_some h2_
    refine RunC.regionW ?_
    refine zM (r := i64 v1) rfl rfl rfl rfl rfl ?_
    refine zL (r := i64 x4) rfl rfl rfl (LOp.eqr (LOp.add rfl rfl rfl) (congrArg (ik .i64) hx5)) ?_
    refine zA (r := i64 x4) rfl rfl rfl rfl rfl ?_
    refine zN ?_
    cases Option.some.inj h2_
    exact ⟨_, rfl, ⟨aR, aR, trivial⟩, trivial⟩
   ·refine RunC.regionW ?_
    refine zM (r := sl a0.length (a0.map f32)) rfl rfl rfl rfl rfl ?_
    refine zM (r := i64 v1) rfl rfl rfl rfl rfl ?_
    refine zL (r := ptr [f32 e2]) rfl rfl rfl (LOp.le (LOp.ix (f := f32) und23 siz26 rfl rfl rfl rfl he2) ALe.ptr) ?_
    refine zL (r := f32 e2) rfl rfl rfl (LOp.load1 agg26 rfl rfl) ?_
    refine ROps.d (r := b false) (fs := []) (Γ' := []) rfl rfl rfl (TOp.eqb (TOp.callB (CallAs.func ent79 rfl rfl) (Bors.cons (Bor.pure rfl) Bors.nil) rfl rfl (s_l01Finite_ok e2 r3 hf3)) hc4) rfl ?_
    refine zL (r := b true) rfl rfl rfl (LOp.eqb (LOp.not rfl rfl) rfl) ?_
    refine zN ?_
    refine RunC.cond_true rfl rfl ?_
    refine zQ ?_
    refine zA (r := b false) rfl rfl rfl rfl rfl ?_
    refine zN ?_
    refine RunC.ret ?_
    cases Option.some.inj h2_
    have hx3_ := hr2 _ rfl
    subst hx3_
    have hq := Option.some.inj h
    subst q0
    exact bodyQ.pure (.inr rfl) rfl (Res.one rfl (RV.tmp rfl))
  ·refine RunC.regionW ?_
   refine zM (r := i64 v1) rfl rfl rfl rfl rfl ?_
   refine zM (r := sl a0.length (a0.map f32)) rfl rfl rfl rfl rfl ?_
   refine zL (r := i64 (a0.length : Int)) rfl rfl rfl (LOp.len_sl und23 rfl rfl) ?_
   refine zL (r := b false) rfl rfl rfl (LOp.eqb (LOp.lss rfl rfl rfl) hc1) ?_
   refine zN ?_
   refine RunC.cond_false rfl rfl ?_
   refine RunC.exit ?_
   cases Option.some.inj h2_
   have hx := ho2 _ rfl
   exact ⟨trivial, trivial, hx⟩
 ·rintro τ4 Γ4 ⟨hw4, hd4, rfl⟩
  refine RunC.wl hw4 hd4 ?_
  replace h : s_l02Finite_k1 = some q0 := h
  unfold s_l02Finite_k1 at h
  refine zQ ?_
  refine zA (r := b true) rfl rfl rfl rfl rfl ?_
  refine zN ?_
  refine RunC.ret ?_
  have hq := Option.some.inj h
  subst q0
  exact bodyQ.pure (.inr rfl) rfl (Res.one rfl (RV.tmp rfl))
noncomputable def s_l05Is_k5 (v13 : Int) (w23 : Bool) (v24 : Int) : Option (LR (Int) (Unit) (Bool)) :=
 olet (IntKind.i64.wrap (v13 + 1)) fun (x25 : Int) =>
 some (LR.next x25)
noncomputable def s_l05Is_b6 (a0 : Int) (a1 : List Int) (a2 : List Int) (v6 : Int) (v13 : Int) : Option (LR (Int) (Unit) (Bool)) :=
 olet (IntKind.i64.wrap (v6 + 1)) fun (x14 : Int) =>
 obind (at? a1 x14) fun (e15 : Int) =>
 bsel (decide (v13 < e15)) (
  obind (at? a2 v13) fun (e16 : Int) =>
  olet (IntKind.i64.wrap (a0 - 1)) fun (x17 : Int) =>
  obind (s_l00In e16 0 x17) fun (r18 : Bool) =>
  bsel r18 (
   obind (at? a1 v6) fun (e19 : Int) =>
   bsel (decide (e19 < v13)) (
    obind (at? a2 v13) fun (e20 : Int) =>
    olet (IntKind.i64.wrap (v13 - 1)) fun (x21 : Int) =>
    obind (at? a2 x21) fun (e22 : Int) =>
    bsel (decide (e20 ≤ e22)) (
     some (LR.ret false)) (
     s_l05Is_k5 v13 true e19)) (
    s_l05Is_k5 v13 false e19)) (
   some (LR.ret false))) (
  some (LR.out ()))
noncomputable def s_l05Is_s6 (a0 : Int) (a1 : List Int) (a2 : List Int) (v6 : Int) : (Int) → Option (LR (Int) (Unit) (Bool)) := fun s => s_l05Is_b6 a0 a1 a2 v6 s
noncomputable def s_l05Is_k6 (v6 : Int) : Option (LR (Int) (Unit) (Bool)) :=
 olet (IntKind.i64.wrap (v6 + 1)) fun (x26 : Int) =>
 some (LR.next x26)
noncomputable def s_l05Is_b7 (a0 : Int) (a1 : List Int) (a2 : List Int) (v6 : Int) : Option (LR (Int) (Unit) (Bool)) :=
 bsel (decide (v6 < a0)) (
  olet (IntKind.i64.wrap (v6 + 1)) fun (x7 : Int) =>
  obind (at? a1 x7) fun (e8 : Int) =>
  obind (at? a1 v6) fun (e9 : Int) =>
  bsel (decide (e8 < e9)) (
   some (LR.ret false)) (
   olet (IntKind.i64.wrap (v6 + 1)) fun (x10 : Int) =>
   obind (at? a1 x10) fun (e11 : Int) =>
   bsel (decide ((a2.length : Int) < e11)) (
    some (LR.ret false)) (
    obind (at? a1 v6) fun (e12 : Int) =>
    obind (loopM (s_l05Is_s6 a0 a1 a2 v6) e12) fun z => osum z (fun e => s_l05Is_k6 v6) (fun r => some (LR.ret r))))) (
  some (LR.out ()))
noncomputable def s_l05Is_s7 (a0 : Int) (a1 : List Int) (a2 : List Int) : (Int) → Option (LR (Int) (Unit) (Bool)) := fun s => s_l05Is_b7 a0 a1 a2 s
noncomputable def s_l05Is_k7  : Option (Bool) :=
 some true
noncomputable def s_l05Is (a0 : Int) (a1 : List Int) (a2 : List Int) (a3 : List F) : Option (Bool) :=
 obind (s_l00In a0 1 32) fun (r1 : Bool) =>
 bsel r1 (
  olet (IntKind.i64.wrap (a0 + 1)) fun (x2 : Int) =>
  bsel (!decide ((a1.length : Int) = x2)) (
   some false) (
   bsel (decide (512 < (a2.length : Int))) (
    some false) (
    bsel (!decide ((a3.length : Int) = (a2.length : Int))) (
     some false) (
     obind (s_l02Finite a3) fun (r3 : Bool) =>
     bsel r3 (
      obind (at? a1 0) fun (e4 : Int) =>
      bsel (!decide (e4 = 0)) (
       some false) (
       obind (at? a1 a0) fun (e5 : Int) =>
       bsel (!decide (e5 = (a2.length : Int))) (
        some false) (
        obind (loopM (s_l05Is_s7 a0 a1 a2) 0) fun z => osum z (fun _ => s_l05Is_k7) (fun r => some r)))) (
      some false))))) (
  some false)
theorem s_l05Is_ok (a0 : Int) (a1 : List Int) (a2 : List Int) (a3 : List F) (q0 : Bool) (h : s_l05Is a0 a1 a2 a3 = some q0) : Ev Try.prog 77 [ptr [i64 a0, sl a1.length (a1.map i64), sl a2.length (a2.map i64), sl a3.length (a3.map f32)]] [] (b q0) [] := by
 refine Ev.start Try.func77 rfl rfl 0 (τ := [(0, ptr [i64 a0, sl a1.length (a1.map i64), sl a2.length (a2.map i64), sl a3.length (a3.map f32)])]) rfl (Γ' := []) rfl (n := 341) rfl (g := 0) rfl (fun _ => rfl) ?_
 unfold s_l05Is at h
 refine zQ ?_
 refine zA (r := b false) rfl rfl rfl rfl rfl ?_
 refine zN ?_
 refine zQ ?_
 refine zM (r := ptr [i64 a0, sl a1.length (a1.map i64), sl a2.length (a2.map i64), sl a3.length (a3.map f32)]) rfl rfl rfl rfl rfl ?_
 refine zL (r := ptr [i64 a0, sl a1.length (a1.map i64), sl a2.length (a2.map i64), sl a3.length (a3.map f32)]) rfl rfl rfl (LOp.nilCheck_ptr rfl rfl) ?_
 refine zL (r := ptr [sl a2.length (a2.map i64), sl a3.length (a3.map f32)]) rfl rfl rfl (LOp.fap und30 rfl siz22 rfl rfl rfl) ?_
 refine zL (r := sl a2.length (a2.map i64)) rfl rfl rfl (LOp.load1 agg22 rfl rfl) ?_
 refine zL (r := i64 (a2.length : Int)) rfl rfl rfl (LOp.len_sl und22 rfl rfl) ?_
 refine zA (r := i64 (a2.length : Int)) rfl rfl rfl rfl rfl ?_
 refine zN ?_
 refine RunC.seq ?_
 refine RunC.seq ?_
 obtain ⟨r1, hf1, h⟩ := obind_some h
 rcases bsel_some h with ⟨hc2, h⟩ | ⟨hc2, h⟩
 ·obtain ⟨x2, hx3, h⟩ := olet_some h
  rcases bsel_some h with ⟨hc4, h⟩ | ⟨hc4, h⟩
  ·refine RunC.region_draw (Γ' := []) 40 mixed 
    (TR.l (r := ptr [i64 a0, sl a1.length (a1.map i64), sl a2.length (a2.map i64), sl a3.length (a3.map f32)]) rfl rfl (LOp.move rfl rfl) <|
    (TR.l (r := ptr [i64 a0, sl a1.length (a1.map i64), sl a2.length (a2.map i64), sl a3.length (a3.map f32)]) rfl rfl (LOp.nilCheck_ptr rfl rfl) <|
    (TR.l (r := ptr [i64 a0, sl a1.length (a1.map i64), sl a2.length (a2.map i64), sl a3.length (a3.map f32)]) rfl rfl (LOp.fap und30 rfl siz2 rfl rfl rfl) <|
    (TR.l (r := i64 a0) rfl rfl (LOp.load1 agg2 rfl rfl) <|
    (TR.d (r := b true) (fs := []) rfl rfl (TOp.eqb (TOp.callB (CallAs.func ent32 rfl rfl) (Bors.cons (Bor.pure rfl) (Bors.cons (Bor.pure rfl) (Bors.cons (Bor.pure rfl) Bors.nil))) rfl rfl (s_l00In_ok a0 1 32 r1 hf1)) hc2) <|
    (TR.l (r := b false) rfl rfl (LOp.eqb (LOp.not rfl rfl) rfl) <|
    (TR.l (r := b false) rfl rfl (LOp.move rfl rfl) <|
    (TR.l (r := ptr [i64 a0, sl a1.length (a1.map i64), sl a2.length (a2.map i64), sl a3.length (a3.map f32)]) rfl rfl (LOp.move rfl rfl) <|
    (TR.l (r := ptr [i64 a0, sl a1.length (a1.map i64), sl a2.length (a2.map i64), sl a3.length (a3.map f32)]) rfl rfl (LOp.nilCheck_ptr rfl rfl) <|
    (TR.l (r := ptr [sl a1.length (a1.map i64), sl a2.length (a2.map i64), sl a3.length (a3.map f32)]) rfl rfl (LOp.fap und30 rfl siz22 rfl rfl rfl) <|
    (TR.l (r := sl a1.length (a1.map i64)) rfl rfl (LOp.load1 agg22 rfl rfl) <|
    (TR.l (r := i64 (a1.length : Int)) rfl rfl (LOp.len_sl und22 rfl rfl) <|
    (TR.l (r := ptr [i64 a0, sl a1.length (a1.map i64), sl a2.length (a2.map i64), sl a3.length (a3.map f32)]) rfl rfl (LOp.move rfl rfl) <|
    (TR.l (r := ptr [i64 a0, sl a1.length (a1.map i64), sl a2.length (a2.map i64), sl a3.length (a3.map f32)]) rfl rfl (LOp.nilCheck_ptr rfl rfl) <|
    (TR.l (r := ptr [i64 a0, sl a1.length (a1.map i64), sl a2.length (a2.map i64), sl a3.length (a3.map f32)]) rfl rfl (LOp.fap und30 rfl siz2 rfl rfl rfl) <|
    (TR.l (r := i64 a0) rfl rfl (LOp.load1 agg2 rfl rfl) <|
    (TR.l (r := i64 x2) rfl rfl (LOp.eqr (LOp.add rfl rfl rfl) (congrArg (ik .i64) hx3)) <|
    (TR.l (r := b true) rfl rfl (LOp.eqb (LOp.neq rfl rfl rfl) hc4) <|
    (TR.l (r := b true) rfl rfl (LOp.pick_false rfl rfl rfl) <|
    (TR.l (r := b true) rfl rfl (LOp.move rfl rfl) <|
    (TR.s rfl rfl <|
    (TR.s rfl rfl <|
    (TR.l (r := b true) rfl rfl (LOp.pick_true rfl rfl rfl) <|
    (TR.l (r := b true) rfl rfl (LOp.move rfl rfl) <|
    (TR.s rfl rfl <|
    (TR.s rfl rfl <|
    (TR.s rfl rfl <|
    (TR.s rfl rfl <|
    (TR.s rfl rfl <|
    (TR.s rfl rfl <|
    (TR.s rfl rfl <|
    (TR.l (r := b true) rfl rfl (LOp.pick_true rfl rfl rfl) <|
    (TR.l (r := b true) rfl rfl (LOp.move rfl rfl) <|
    (TR.s rfl rfl <|
    (TR.s rfl rfl <|
    (TR.s rfl rfl <|
    (TR.s rfl rfl <|
    (TR.s rfl rfl <|
    (TR.s rfl rfl <|
    (TR.l (r := b true) rfl rfl (LOp.pick_true rfl rfl rfl) <|
    TR.nil)))))))))))))))))))))))))))))))))))))))) rfl (by kernel_rfl) rfl fills_nil rfl ?_
   iterate 40 refine ROps.dropS ?_
   refine ROps.drop0 ?_
   refine zN ?_
   refine RunC.cond_true rfl rfl ?_
   refine zQ ?_
   refine zA (r := b false) rfl rfl rfl rfl rfl ?_
   refine zN ?_
   refine RunC.ret ?_
   have hq := Option.some.inj h
   subst q0
   exact bodyQ.pure (.inr rfl) rfl (Res.one rfl (RV.tmp rfl))
  ·rcases bsel_some h with ⟨hc5, h⟩ | ⟨hc5, h⟩
   ·refine RunC.region_draw (Γ' := []) 40 mixed 
     (TR.l (r := ptr [i64 a0, sl a1.length (a1.map i64), sl a2.length (a2.map i64), sl a3.length (a3.map f32)]) rfl rfl (LOp.move rfl rfl) <|
     (TR.l (r := ptr [i64 a0, sl a1.length (a1.map i64), sl a2.length (a2.map i64), sl a3.length (a3.map f32)]) rfl rfl (LOp.nilCheck_ptr rfl rfl) <|
     (TR.l (r := ptr [i64 a0, sl a1.length (a1.map i64), sl a2.length (a2.map i64), sl a3.length (a3.map f32)]) rfl rfl (LOp.fap und30 rfl siz2 rfl rfl rfl) <|
     (TR.l (r := i64 a0) rfl rfl (LOp.load1 agg2 rfl rfl) <|
     (TR.d (r := b true) (fs := []) rfl rfl (TOp.eqb (TOp.callB (CallAs.func ent32 rfl rfl) (Bors.cons (Bor.pure rfl) (Bors.cons (Bor.pure rfl) (Bors.cons (Bor.pure rfl) Bors.nil))) rfl rfl (s_l00In_ok a0 1 32 r1 hf1)) hc2) <|
     (TR.l (r := b false) rfl rfl (LOp.eqb (LOp.not rfl rfl) rfl) <|
     (TR.l (r := b false) rfl rfl (LOp.move rfl rfl) <|
     (TR.l (r := ptr [i64 a0, sl a1.length (a1.map i64), sl a2.length (a2.map i64), sl a3.length (a3.map f32)]) rfl rfl (LOp.move rfl rfl) <|
     (TR.l (r := ptr [i64 a0, sl a1.length (a1.map i64), sl a2.length (a2.map i64), sl a3.length (a3.map f32)]) rfl rfl (LOp.nilCheck_ptr rfl rfl) <|
     (TR.l (r := ptr [sl a1.length (a1.map i64), sl a2.length (a2.map i64), sl a3.length (a3.map f32)]) rfl rfl (LOp.fap und30 rfl siz22 rfl rfl rfl) <|
     (TR.l (r := sl a1.length (a1.map i64)) rfl rfl (LOp.load1 agg22 rfl rfl) <|
     (TR.l (r := i64 (a1.length : Int)) rfl rfl (LOp.len_sl und22 rfl rfl) <|
     (TR.l (r := ptr [i64 a0, sl a1.length (a1.map i64), sl a2.length (a2.map i64), sl a3.length (a3.map f32)]) rfl rfl (LOp.move rfl rfl) <|
     (TR.l (r := ptr [i64 a0, sl a1.length (a1.map i64), sl a2.length (a2.map i64), sl a3.length (a3.map f32)]) rfl rfl (LOp.nilCheck_ptr rfl rfl) <|
     (TR.l (r := ptr [i64 a0, sl a1.length (a1.map i64), sl a2.length (a2.map i64), sl a3.length (a3.map f32)]) rfl rfl (LOp.fap und30 rfl siz2 rfl rfl rfl) <|
     (TR.l (r := i64 a0) rfl rfl (LOp.load1 agg2 rfl rfl) <|
     (TR.l (r := i64 x2) rfl rfl (LOp.eqr (LOp.add rfl rfl rfl) (congrArg (ik .i64) hx3)) <|
     (TR.l (r := b false) rfl rfl (LOp.eqb (LOp.neq rfl rfl rfl) hc4) <|
     (TR.l (r := b false) rfl rfl (LOp.pick_false rfl rfl rfl) <|
     (TR.l (r := b false) rfl rfl (LOp.move rfl rfl) <|
     (TR.l (r := i64 (a2.length : Int)) rfl rfl (LOp.move rfl rfl) <|
     (TR.l (r := b true) rfl rfl (LOp.eqb (LOp.gtr rfl rfl rfl) hc5) <|
     (TR.l (r := b true) rfl rfl (LOp.pick_false rfl rfl rfl) <|
     (TR.l (r := b true) rfl rfl (LOp.move rfl rfl) <|
     (TR.s rfl rfl <|
     (TR.s rfl rfl <|
     (TR.s rfl rfl <|
     (TR.s rfl rfl <|
     (TR.s rfl rfl <|
     (TR.s rfl rfl <|
     (TR.s rfl rfl <|
     (TR.l (r := b true) rfl rfl (LOp.pick_true rfl rfl rfl) <|
     (TR.l (r := b true) rfl rfl (LOp.move rfl rfl) <|
     (TR.s rfl rfl <|
     (TR.s rfl rfl <|
     (TR.s rfl rfl <|
     (TR.s rfl rfl <|
     (TR.s rfl rfl <|
     (TR.s rfl rfl <|
     (TR.l (r := b true) rfl rfl (LOp.pick_true rfl rfl rfl) <|
     TR.nil)))))))))))))))))))))))))))))))))))))))) rfl (by kernel_rfl) rfl fills_nil rfl ?_
    iterate 40 refine ROps.dropS ?_
    refine ROps.drop0 ?_
    refine zN ?_
    refine RunC.cond_true rfl rfl ?_
    refine zQ ?_
    refine zA (r := b false) rfl rfl rfl rfl rfl ?_
    refine zN ?_
    refine RunC.ret ?_
    have hq := Option.some.inj h
    subst q0
    exact bodyQ.pure (.inr rfl) rfl (Res.one rfl (RV.tmp rfl))
   ·rcases bsel_some h with ⟨hc6, h⟩ | ⟨hc6, h⟩
    ·refine RunC.region_draw (Γ' := []) 40 mixed 
      (TR.l (r := ptr [i64 a0, sl a1.length (a1.map i64), sl a2.length (a2.map i64), sl a3.length (a3.map f32)]) rfl rfl (LOp.move rfl rfl) <|
      (TR.l (r := ptr [i64 a0, sl a1.length (a1.map i64), sl a2.length (a2.map i64), sl a3.length (a3.map f32)]) rfl rfl (LOp.nilCheck_ptr rfl rfl) <|
      (TR.l (r := ptr [i64 a0, sl a1.length (a1.map i64), sl a2.length (a2.map i64), sl a3.length (a3.map f32)]) rfl rfl (LOp.fap und30 rfl siz2 rfl rfl rfl) <|
      (TR.l (r := i64 a0) rfl rfl (LOp.load1 agg2 rfl rfl) <|
      (TR.d (r := b true) (fs := []) rfl rfl (TOp.eqb (TOp.callB (CallAs.func ent32 rfl rfl) (Bors.cons (Bor.pure rfl) (Bors.cons (Bor.pure rfl) (Bors.cons (Bor.pure rfl) Bors.nil))) rfl rfl (s_l00In_ok a0 1 32 r1 hf1)) hc2) <|
      (TR.l (r := b false) rfl rfl (LOp.eqb (LOp.not rfl rfl) rfl) <|
      (TR.l (r := b false) rfl rfl (LOp.move rfl rfl) <|
      (TR.l (r := ptr [i64 a0, sl a1.length (a1.map i64), sl a2.length (a2.map i64), sl a3.length (a3.map f32)]) rfl rfl (LOp.move rfl rfl) <|
      (TR.l (r := ptr [i64 a0, sl a1.length (a1.map i64), sl a2.length (a2.map i64), sl a3.length (a3.map f32)]) rfl rfl (LOp.nilCheck_ptr rfl rfl) <|
      (TR.l (r := ptr [sl a1.length (a1.map i64), sl a2.length (a2.map i64), sl a3.length (a3.map f32)]) rfl rfl (LOp.fap und30 rfl siz22 rfl rfl rfl) <|
      (TR.l (r := sl a1.length (a1.map i64)) rfl rfl (LOp.load1 agg22 rfl rfl) <|
      (TR.l (r := i64 (a1.length : Int)) rfl rfl (LOp.len_sl und22 rfl rfl) <|
      (TR.l (r := ptr [i64 a0, sl a1.length (a1.map i64), sl a2.length (a2.map i64), sl a3.length (a3.map f32)]) rfl rfl (LOp.move rfl rfl) <|
      (TR.l (r := ptr [i64 a0, sl a1.length (a1.map i64), sl a2.length (a2.map i64), sl a3.length (a3.map f32)]) rfl rfl (LOp.nilCheck_ptr rfl rfl) <|
      (TR.l (r := ptr [i64 a0, sl a1.length (a1.map i64), sl a2.length (a2.map i64), sl a3.length (a3.map f32)]) rfl rfl (LOp.fap und30 rfl siz2 rfl rfl rfl) <|
      (TR.l (r := i64 a0) rfl rfl (LOp.load1 agg2 rfl rfl) <|
      (TR.l (r := i64 x2) rfl rfl (LOp.eqr (LOp.add rfl rfl rfl) (congrArg (ik .i64) hx3)) <|
      (TR.l (r := b false) rfl rfl (LOp.eqb (LOp.neq rfl rfl rfl) hc4) <|
      (TR.l (r := b false) rfl rfl (LOp.pick_false rfl rfl rfl) <|
      (TR.l (r := b false) rfl rfl (LOp.move rfl rfl) <|
      (TR.l (r := i64 (a2.length : Int)) rfl rfl (LOp.move rfl rfl) <|
      (TR.l (r := b false) rfl rfl (LOp.eqb (LOp.gtr rfl rfl rfl) hc5) <|
      (TR.l (r := b false) rfl rfl (LOp.pick_false rfl rfl rfl) <|
      (TR.l (r := b false) rfl rfl (LOp.move rfl rfl) <|
      (TR.l (r := ptr [i64 a0, sl a1.length (a1.map i64), sl a2.length (a2.map i64), sl a3.length (a3.map f32)]) rfl rfl (LOp.move rfl rfl) <|
      (TR.l (r := ptr [i64 a0, sl a1.length (a1.map i64), sl a2.length (a2.map i64), sl a3.length (a3.map f32)]) rfl rfl (LOp.nilCheck_ptr rfl rfl) <|
      (TR.l (r := ptr [sl a3.length (a3.map f32)]) rfl rfl (LOp.fap und30 rfl siz23 rfl rfl rfl) <|
      (TR.l (r := sl a3.length (a3.map f32)) rfl rfl (LOp.load1 agg23 rfl rfl) <|
      (TR.l (r := i64 (a3.length : Int)) rfl rfl (LOp.len_sl und23 rfl rfl) <|
      (TR.l (r := i64 (a2.length : Int)) rfl rfl (LOp.move rfl rfl) <|
      (TR.l (r := b true) rfl rfl (LOp.eqb (LOp.neq rfl rfl rfl) hc6) <|
      (TR.l (r := b true) rfl rfl (LOp.pick_false rfl rfl rfl) <|
      (TR.l (r := b true) rfl rfl (LOp.move rfl rfl) <|
      (TR.s rfl rfl <|
      (TR.s rfl rfl <|
      (TR.s rfl rfl <|
      (TR.s rfl rfl <|
      (TR.s rfl rfl <|
      (TR.s rfl rfl <|
      (TR.l (r := b true) rfl rfl (LOp.pick_true rfl rfl rfl) <|
      TR.nil)))))))))))))))))))))))))))))))))))))))) rfl (by kernel_rfl) rfl fills_nil rfl ?_
     iterate 40 refine ROps.dropS ?_
     refine ROps.drop0 ?_
     refine zN ?_
     refine RunC.cond_true rfl rfl ?_
     refine zQ ?_
     refine zA (r := b false) rfl rfl rfl rfl rfl ?_
     refine zN ?_
     refine RunC.ret ?_
     have hq := Option.some.inj h
     subst q0
     exact bodyQ.pure (.inr rfl) rfl (Res.one rfl (RV.tmp rfl))
    ·obtain ⟨r3, hf7, h⟩ := obind_some h
     rcases bsel_some h with ⟨hc8, h⟩ | ⟨hc8, h⟩
     ·refine RunC.region_draw (Γ' := []) 40 mixed 
       (TR.l (r := ptr [i64 a0, sl a1.length (a1.map i64), sl a2.length (a2.map i64), sl a3.length (a3.map f32)]) rfl rfl (LOp.move rfl rfl) <|
       (TR.l (r := ptr [i64 a0, sl a1.length (a1.map i64), sl a2.length (a2.map i64), sl a3.length (a3.map f32)]) rfl rfl (LOp.nilCheck_ptr rfl rfl) <|
       (TR.l (r := ptr [i64 a0, sl a1.length (a1.map i64), sl a2.length (a2.map i64), sl a3.length (a3.map f32)]) rfl rfl (LOp.fap und30 rfl siz2 rfl rfl rfl) <|
       (TR.l (r := i64 a0) rfl rfl (LOp.load1 agg2 rfl rfl) <|
       (TR.d (r := b true) (fs := []) rfl rfl (TOp.eqb (TOp.callB (CallAs.func ent32 rfl rfl) (Bors.cons (Bor.pure rfl) (Bors.cons (Bor.pure rfl) (Bors.cons (Bor.pure rfl) Bors.nil))) rfl rfl (s_l00In_ok a0 1 32 r1 hf1)) hc2) <|
       (TR.l (r := b false) rfl rfl (LOp.eqb (LOp.not rfl rfl) rfl) <|
       (TR.l (r := b false) rfl rfl (LOp.move rfl rfl) <|
       (TR.l (r := ptr [i64 a0, sl a1.length (a1.map i64), sl a2.length (a2.map i64), sl a3.length (a3.map f32)]) rfl rfl (LOp.move rfl rfl) <|
       (TR.l (r := ptr [i64 a0, sl a1.length (a1.map i64), sl a2.length (a2.map i64), sl a3.length (a3.map f32)]) rfl rfl (LOp.nilCheck_ptr rfl rfl) <|
       (TR.l (r := ptr [sl a1.length (a1.map i64), sl a2.length (a2.map i64), sl a3.length (a3.map f32)]) rfl rfl (LOp.fap und30 rfl siz22 rfl rfl rfl) <|
       (TR.l (r := sl a1.length (a1.map i64)) rfl rfl (LOp.load1 agg22 rfl rfl) <|
       (TR.l (r := i64 (a1.length : Int)) rfl rfl (LOp.len_sl und22 rfl rfl) <|
       (TR.l (r := ptr [i64 a0, sl a1.length (a1.map i64), sl a2.length (a2.map i64), sl a3.length (a3.map f32)]) rfl rfl (LOp.move rfl rfl) <|
       (TR.l (r := ptr [i64 a0, sl a1.length (a1.map i64), sl a2.length (a2.map i64), sl a3.length (a3.map f32)]) rfl rfl (LOp.nilCheck_ptr rfl rfl) <|
       (TR.l (r := ptr [i64 a0, sl a1.length (a1.map i64), sl a2.length (a2.map i64), sl a3.length (a3.map f32)]) rfl rfl (LOp.fap und30 rfl siz2 rfl rfl rfl) <|
       (TR.l (r := i64 a0) rfl rfl (LOp.load1 agg2 rfl rfl) <|
       (TR.l (r := i64 x2) rfl rfl (LOp.eqr (LOp.add rfl rfl rfl) (congrArg (ik .i64) hx3)) <|
       (TR.l (r := b false) rfl rfl (LOp.eqb (LOp.neq rfl rfl rfl) hc4) <|
       (TR.l (r := b false) rfl rfl (LOp.pick_false rfl rfl rfl) <|
       (TR.l (r := b false) rfl rfl (LOp.move rfl rfl) <|
       (TR.l (r := i64 (a2.length : Int)) rfl rfl (LOp.move rfl rfl) <|
       (TR.l (r := b false) rfl rfl (LOp.eqb (LOp.gtr rfl rfl rfl) hc5) <|
       (TR.l (r := b false) rfl rfl (LOp.pick_false rfl rfl rfl) <|
       (TR.l (r := b false) rfl rfl (LOp.move rfl rfl) <|
       (TR.l (r := ptr [i64 a0, sl a1.length (a1.map i64), sl a2.length (a2.map i64), sl a3.length (a3.map f32)]) rfl rfl (LOp.move rfl rfl) <|
       (TR.l (r := ptr [i64 a0, sl a1.length (a1.map i64), sl a2.length (a2.map i64), sl a3.length (a3.map f32)]) rfl rfl (LOp.nilCheck_ptr rfl rfl) <|
       (TR.l (r := ptr [sl a3.length (a3.map f32)]) rfl rfl (LOp.fap und30 rfl siz23 rfl rfl rfl) <|
       (TR.l (r := sl a3.length (a3.map f32)) rfl rfl (LOp.load1 agg23 rfl rfl) <|
       (TR.l (r := i64 (a3.length : Int)) rfl rfl (LOp.len_sl und23 rfl rfl) <|
       (TR.l (r := i64 (a2.length : Int)) rfl rfl (LOp.move rfl rfl) <|
       (TR.l (r := b false) rfl rfl (LOp.eqb (LOp.neq rfl rfl rfl) hc6) <|
       (TR.l (r := b false) rfl rfl (LOp.pick_false rfl rfl rfl) <|
       (TR.l (r := b false) rfl rfl (LOp.move rfl rfl) <|
       (TR.l (r := ptr [i64 a0, sl a1.length (a1.map i64), sl a2.length (a2.map i64), sl a3.length (a3.map f32)]) rfl rfl (LOp.move rfl rfl) <|
       (TR.l (r := ptr [i64 a0, sl a1.length (a1.map i64), sl a2.length (a2.map i64), sl a3.length (a3.map f32)]) rfl rfl (LOp.nilCheck_ptr rfl rfl) <|
       (TR.l (r := ptr [sl a3.length (a3.map f32)]) rfl rfl (LOp.fap und30 rfl siz23 rfl rfl rfl) <|
       (TR.l (r := sl a3.length (a3.map f32)) rfl rfl (LOp.load1 agg23 rfl rfl) <|
       (TR.d (r := b true) (fs := []) rfl rfl (TOp.eqb (TOp.callB (CallAs.func ent78 rfl rfl) (Bors.cons (Bor.sl (fun _ => rfl)) Bors.nil) rfl rfl (s_l02Finite_ok a3 r3 hf7)) hc8) <|
       (TR.l (r := b false) rfl rfl (LOp.eqb (LOp.not rfl rfl) rfl) <|
       (TR.l (r := b false) rfl rfl (LOp.pick_false rfl rfl rfl) <|
       TR.nil)))))))))))))))))))))))))))))))))))))))) rfl (by kernel_rfl) rfl fills_nil rfl ?_
      iterate 40 refine ROps.dropS ?_
      refine ROps.drop0 ?_
      refine zN ?_
      refine RunC.cond_false rfl rfl ?_
      refine RunC.skip ?_
      refine RunC.seq ?_
      refine RunC.seq ?_
      obtain ⟨e4, he9, h⟩ := obind_some h
      rcases bsel_some h with ⟨hc10, h⟩ | ⟨hc10, h⟩
      ·refine RunC.region_draw (Γ' := []) 21 mixed 
        (TR.l (r := ptr [i64 a0, sl a1.length (a1.map i64), sl a2.length (a2.map i64), sl a3.length (a3.map f32)]) rfl rfl (LOp.move rfl rfl) <|
        (TR.l (r := ptr [i64 a0, sl a1.length (a1.map i64), sl a2.length (a2.map i64), sl a3.length (a3.map f32)]) rfl rfl (LOp.nilCheck_ptr rfl rfl) <|
        (TR.l (r := ptr [sl a1.length (a1.map i64), sl a2.length (a2.map i64), sl a3.length (a3.map f32)]) rfl rfl (LOp.fap und30 rfl siz22 rfl rfl rfl) <|
        (TR.l (r := sl a1.length (a1.map i64)) rfl rfl (LOp.load1 agg22 rfl rfl) <|
        (TR.l (r := ptr [i64 e4]) rfl rfl (LOp.le (LOp.ix (f := i64) und22 siz2 rfl rfl rfl rfl he9) ALe.ptr) <|
        (TR.l (r := i64 e4) rfl rfl (LOp.load1 agg2 rfl rfl) <|
        (TR.l (r := b true) rfl rfl (LOp.eqb (LOp.neq rfl rfl rfl) hc10) <|
        (TR.l (r := b true) rfl rfl (LOp.move rfl rfl) <|
        (TR.s rfl rfl <|
        (TR.s rfl rfl <|
        (TR.s rfl rfl <|
        (TR.s rfl rfl <|
        (TR.s rfl rfl <|
        (TR.s rfl rfl <|
        (TR.s rfl rfl <|
        (TR.s rfl rfl <|
        (TR.s rfl rfl <|
        (TR.s rfl rfl <|
        (TR.s rfl rfl <|
        (TR.s rfl rfl <|
        (TR.l (r := b true) rfl rfl (LOp.pick_true rfl rfl rfl) <|
        TR.nil))))))))))))))))))))) rfl (by kernel_rfl) rfl fills_nil rfl ?_
       iterate 21 refine ROps.dropS ?_
       refine ROps.drop0 ?_
       refine zN ?_
       refine RunC.wl (τ' := [(0, ptr [i64 a0, sl a1.length (a1.map i64), sl a2.length (a2.map i64), sl a3.length (a3.map f32)]), (3, i64 (a2.length : Int)), (71, b true)]) (Γ' := []) ⟨aR, aR, aR, trivial⟩ trivial ?_
       refine RunC.cond_true rfl rfl ?_
       refine zQ ?_
       refine zA (r := b false) rfl rfl rfl rfl rfl ?_
       refine zN ?_
       refine RunC.ret ?_
       have hq := Option.some.inj h
       subst q0
       exact bodyQ.pure (.inr rfl) rfl (Res.one rfl (RV.tmp rfl))
      ·obtain ⟨e5, he11, h⟩ := obind_some h
       rcases bsel_some h with ⟨hc12, h⟩ | ⟨hc12, h⟩
       ·refine RunC.region_draw (Γ' := []) 21 mixed 
         (TR.l (r := ptr [i64 a0, sl a1.length (a1.map i64), sl a2.length (a2.map i64), sl a3.length (a3.map f32)]) rfl rfl (LOp.move rfl rfl) <|
         (TR.l (r := ptr [i64 a0, sl a1.length (a1.map i64), sl a2.length (a2.map i64), sl a3.length (a3.map f32)]) rfl rfl (LOp.nilCheck_ptr rfl rfl) <|
         (TR.l (r := ptr [sl a1.length (a1.map i64), sl a2.length (a2.map i64), sl a3.length (a3.map f32)]) rfl rfl (LOp.fap und30 rfl siz22 rfl rfl rfl) <|
         (TR.l (r := sl a1.length (a1.map i64)) rfl rfl (LOp.load1 agg22 rfl rfl) <|
         (TR.l (r := ptr [i64 e4]) rfl rfl (LOp.le (LOp.ix (f := i64) und22 siz2 rfl rfl rfl rfl he9) ALe.ptr) <|
         (TR.l (r := i64 e4) rfl rfl (LOp.load1 agg2 rfl rfl) <|
         (TR.l (r := b false) rfl rfl (LOp.eqb (LOp.neq rfl rfl rfl) hc10) <|
         (TR.l (r := b false) rfl rfl (LOp.move rfl rfl) <|
         (TR.l (r := ptr [i64 a0, sl a1.length (a1.map i64), sl a2.length (a2.map i64), sl a3.length (a3.map f32)]) rfl rfl (LOp.move rfl rfl) <|
         (TR.l (r := ptr [i64 a0, sl a1.length (a1.map i64), sl a2.length (a2.map i64), sl a3.length (a3.map f32)]) rfl rfl (LOp.nilCheck_ptr rfl rfl) <|
         (TR.l (r := ptr [sl a1.length (a1.map i64), sl a2.length (a2.map i64), sl a3.length (a3.map f32)]) rfl rfl (LOp.fap und30 rfl siz22 rfl rfl rfl) <|
         (TR.l (r := sl a1.length (a1.map i64)) rfl rfl (LOp.load1 agg22 rfl rfl) <|
         (TR.l (r := ptr [i64 a0, sl a1.length (a1.map i64), sl a2.length (a2.map i64), sl a3.length (a3.map f32)]) rfl rfl (LOp.move rfl rfl) <|
         (TR.l (r := ptr [i64 a0, sl a1.length (a1.map i64), sl a2.length (a2.map i64), sl a3.length (a3.map f32)]) rfl rfl (LOp.nilCheck_ptr rfl rfl) <|
         (TR.l (r := ptr [i64 a0, sl a1.length (a1.map i64), sl a2.length (a2.map i64), sl a3.length (a3.map f32)]) rfl rfl (LOp.fap und30 rfl siz2 rfl rfl rfl) <|
         (TR.l (r := i64 a0) rfl rfl (LOp.load1 agg2 rfl rfl) <|
         (TR.l (r := ptr [i64 e5]) rfl rfl (LOp.le (LOp.ix (f := i64) und22 siz2 rfl rfl rfl rfl he11) ALe.ptr) <|
         (TR.l (r := i64 e5) rfl rfl (LOp.load1 agg2 rfl rfl) <|
         (TR.l (r := i64 (a2.length : Int)) rfl rfl (LOp.move rfl rfl) <|
         (TR.l (r := b true) rfl rfl (LOp.eqb (LOp.neq rfl rfl rfl) hc12) <|
         (TR.l (r := b true) rfl rfl (LOp.pick_false rfl rfl rfl) <|
         TR.nil))))))))))))))))))))) rfl (by kernel_rfl) rfl fills_nil rfl ?_
        iterate 21 refine ROps.dropS ?_
        refine ROps.drop0 ?_
        refine zN ?_
        refine RunC.wl (τ' := [(0, ptr [i64 a0, sl a1.length (a1.map i64), sl a2.length (a2.map i64), sl a3.length (a3.map f32)]), (3, i64 (a2.length : Int)), (71, b true)]) (Γ' := []) ⟨aR, aR, aR, trivial⟩ trivial ?_
        refine RunC.cond_true rfl rfl ?_
        refine zQ ?_
        refine zA (r := b false) rfl rfl rfl rfl rfl ?_
        refine zN ?_
        refine RunC.ret ?_
        have hq := Option.some.inj h
        subst q0
        exact bodyQ.pure (.inr rfl) rfl (Res.one rfl (RV.tmp rfl))
       ·refine RunC.region_draw (Γ' := []) 21 mixed 
         (TR.l (r := ptr [i64 a0, sl a1.length (a1.map i64), sl a2.length (a2.map i64), sl a3.length (a3.map f32)]) rfl rfl (LOp.move rfl rfl) <|
         (TR.l (r := ptr [i64 a0, sl a1.length (a1.map i64), sl a2.length (a2.map i64), sl a3.length (a3.map f32)]) rfl rfl (LOp.nilCheck_ptr rfl rfl) <|
         (TR.l (r := ptr [sl a1.length (a1.map i64), sl a2.length (a2.map i64), sl a3.length (a3.map f32)]) rfl rfl (LOp.fap und30 rfl siz22 rfl rfl rfl) <|
         (TR.l (r := sl a1.length (a1.map i64)) rfl rfl (LOp.load1 agg22 rfl rfl) <|
         (TR.l (r := ptr [i64 e4]) rfl rfl (LOp.le (LOp.ix (f := i64) und22 siz2 rfl rfl rfl rfl he9) ALe.ptr) <|
         (TR.l (r := i64 e4) rfl rfl (LOp.load1 agg2 rfl rfl) <|
         (TR.l (r := b false) rfl rfl (LOp.eqb (LOp.neq rfl rfl rfl) hc10) <|
         (TR.l (r := b false) rfl rfl (LOp.move rfl rfl) <|
         (TR.l (r := ptr [i64 a0, sl a1.length (a1.map i64), sl a2.length (a2.map i64), sl a3.length (a3.map f32)]) rfl rfl (LOp.move rfl rfl) <|
         (TR.l (r := ptr [i64 a0, sl a1.length (a1.map i64), sl a2.length (a2.map i64), sl a3.length (a3.map f32)]) rfl rfl (LOp.nilCheck_ptr rfl rfl) <|
         (TR.l (r := ptr [sl a1.length (a1.map i64), sl a2.length (a2.map i64), sl a3.length (a3.map f32)]) rfl rfl (LOp.fap und30 rfl siz22 rfl rfl rfl) <|
         (TR.l (r := sl a1.length (a1.map i64)) rfl rfl (LOp.load1 agg22 rfl rfl) <|
         (TR.l (r := ptr [i64 a0, sl a1.length (a1.map i64), sl a2.length (a2.map i64), sl a3.length (a3.map f32)]) rfl rfl (LOp.move rfl rfl) <|
         (TR.l (r := ptr [i64 a0, sl a1.length (a1.map i64), sl a2.length (a2.map i64), sl a3.length (a3.map f32)]) rfl rfl (LOp.nilCheck_ptr rfl rfl) <|
         (TR.l (r := ptr [i64 a0, sl a1.length (a1.map i64), sl a2.length (a2.map i64), sl a3.length (a3.map f32)]) rfl rfl (LOp.fap und30 rfl siz2 rfl rfl rfl) <|
         (TR.l (r := i64 a0) rfl rfl (LOp.load1 agg2 rfl rfl) <|
         (TR.l (r := ptr [i64 e5]) rfl rfl (LOp.le (LOp.ix (f := i64) und22 siz2 rfl rfl rfl rfl he11) ALe.ptr) <|
         (TR.l (r := i64 e5) rfl rfl (LOp.load1 agg2 rfl rfl) <|
         (TR.l (r := i64 (a2.length : Int)) rfl rfl (LOp.move rfl rfl) <|
         (TR.l (r := b false) rfl rfl (LOp.eqb (LOp.neq rfl rfl rfl) hc12) <|
         (TR.l (r := b false) rfl rfl (LOp.pick_false rfl rfl rfl) <|
         TR.nil))))))))))))))))))))) rfl (by kernel_rfl) rfl fills_nil rfl ?_
        iterate 21 refine ROps.dropS ?_
        refine ROps.drop0 ?_
        refine zN ?_
        refine RunC.wl (τ' := [(0, ptr [i64 a0, sl a1.length (a1.map i64), sl a2.length (a2.map i64), sl a3.length (a3.map f32)]), (3, i64 (a2.length : Int)), (71, b false)]) (Γ' := []) ⟨aR, aR, aR, trivial⟩ trivial ?_
        refine RunC.cond_false rfl rfl ?_
        refine RunC.skip ?_
        refine RunC.seq ?_
        refine zQ ?_
        refine zA (r := i64 0) rfl rfl rfl rfl rfl ?_
        refine zN ?_
        obtain ⟨z8, hz_8, h⟩ := obind_some h
        refine RunC.cutN (fun τ Γ => WeakLe τ [] ∧ DeadLe Γ [] ∧ z8 = .inl ()) ?_ ?_
        ·refine RunC.block (RunC.loop (RunL.loopM (x := z8) (s_l05Is_s7 a0 a1 a2) (fun (s : Int) τ Γ => WeakLe τ [(0, ptr [i64 a0, sl a1.length (a1.map i64), sl a2.length (a2.map i64), sl a3.length (a3.map f32)]), (3, i64 (a2.length : Int)), (4, i64 s)] ∧ DeadLe Γ []) ?_ _ _ _ hz_8 ⟨⟨aR, aR, aR, trivial⟩, trivial⟩))
         rintro v6 τ8 Γ8 y8_ ⟨hw8, hd8⟩ h8_ ho8 hr8
         refine RunC.wl (τ' := [(0, ptr [i64 a0, sl a1.length (a1.map i64), sl a2.length (a2.map i64), sl a3.length (a3.map f32)]), (3, i64 (a2.length : Int)), (4, i64 v6)]) (Γ' := []) hw8 hd8 ?_
         replace h8_ : s_l05Is_b7 a0 a1 a2 v6 = some y8_ := h8_
         unfold s_l05Is_b7 at h8_
         refine RunC.seq ?_
         refine RunC.seq ?_
         rcases bsel_some h8_ with ⟨hc13, h8_⟩ | ⟨hc13, h8_⟩
         ·refine RunC.regionW ?_
          refine zM (r := i64 v6) rfl rfl rfl rfl rfl ?_
          refine zM (r := ptr [i64 a0, sl a1.length (a1.map i64), sl a2.length (a2.map i64), sl a3.length (a3.map f32)]) rfl rfl rfl rfl rfl ?_
          refine zL (r := ptr [i64 a0, sl a1.length (a1.map i64), sl a2.length (a2.map i64), sl a3.length (a3.map f32)]) rfl rfl rfl (LOp.nilCheck_ptr rfl rfl) ?_
          refine zL (r := ptr [i64 a0, sl a1.length (a1.map i64), sl a2.length (a2.map i64), sl a3.length (a3.map f32)]) rfl rfl rfl (LOp.fap und30 rfl siz2 rfl rfl rfl) ?_
          refine zL (r := i64 a0) rfl rfl rfl (LOp.load1 agg2 rfl rfl) ?_
          refine zL (r := b true) rfl rfl rfl (LOp.eqb (LOp.lss rfl rfl rfl) hc13) ?_
          refine zN ?_
          refine RunC.cond_true rfl rfl ?_
          refine RunC.skip ?_
          refine RunC.seq ?_
          refine RunC.block ?_
          refine RunC.seq ?_
          refine RunC.seq ?_
          obtain ⟨x7, hx14, h8_⟩ := olet_some h8_
          obtain ⟨e8, he15, h8_⟩ := obind_some h8_
          obtain ⟨e9, he16, h8_⟩ := obind_some h8_
          rcases bsel_some h8_ with ⟨hc17, h8_⟩ | ⟨hc17, h8_⟩
          ·refine RunC.region_draw (Γ' := []) 28 mixed 
            (TR.l (r := ptr [i64 a0, sl a1.length (a1.map i64), sl a2.length (a2.map i64), sl a3.length (a3.map f32)]) rfl rfl (LOp.move rfl rfl) <|
            (TR.l (r := ptr [i64 a0, sl a1.length (a1.map i64), sl a2.length (a2.map i64), sl a3.length (a3.map f32)]) rfl rfl (LOp.nilCheck_ptr rfl rfl) <|
            (TR.l (r := ptr [sl a1.length (a1.map i64), sl a2.length (a2.map i64), sl a3.length (a3.map f32)]) rfl rfl (LOp.fap und30 rfl siz22 rfl rfl rfl) <|
            (TR.l (r := sl a1.length (a1.map i64)) rfl rfl (LOp.load1 agg22 rfl rfl) <|
            (TR.l (r := i64 v6) rfl rfl (LOp.move rfl rfl) <|
            (TR.l (r := i64 x7) rfl rfl (LOp.eqr (LOp.add rfl rfl rfl) (congrArg (ik .i64) hx14)) <|
            (TR.l (r := ptr [i64 e8]) rfl rfl (LOp.le (LOp.ix (f := i64) und22 siz2 rfl rfl rfl rfl he15) ALe.ptr) <|
            (TR.l (r := i64 e8) rfl rfl (LOp.load1 agg2 rfl rfl) <|
            (TR.l (r := ptr [i64 a0, sl a1.length (a1.map i64), sl a2.length (a2.map i64), sl a3.length (a3.map f32)]) rfl rfl (LOp.move rfl rfl) <|
            (TR.l (r := ptr [i64 a0, sl a1.length (a1.map i64), sl a2.length (a2.map i64), sl a3.length (a3.map f32)]) rfl rfl (LOp.nilCheck_ptr rfl rfl) <|
            (TR.l (r := ptr [sl a1.length (a1.map i64), sl a2.length (a2.map i64), sl a3.length (a3.map f32)]) rfl rfl (LOp.fap und30 rfl siz22 rfl rfl rfl) <|
            (TR.l (r := sl a1.length (a1.map i64)) rfl rfl (LOp.load1 agg22 rfl rfl) <|
            (TR.l (r := i64 v6) rfl rfl (LOp.move rfl rfl) <|
            (TR.l (r := ptr [i64 e9]) rfl rfl (LOp.le (LOp.ix (f := i64) und22 siz2 rfl rfl rfl rfl he16) ALe.ptr) <|
            (TR.l (r := i64 e9) rfl rfl (LOp.load1 agg2 rfl rfl) <|
            (TR.l (r := b true) rfl rfl (LOp.eqb (LOp.lss rfl rfl rfl) hc17) <|
            (TR.l (r := b true) rfl rfl (LOp.move rfl rfl) <|
            (TR.s rfl rfl <|
            (TR.s rfl rfl <|
            (TR.s rfl rfl <|
            (TR.s rfl rfl <|
            (TR.s rfl rfl <|
            (TR.s rfl rfl <|
            (TR.s rfl rfl <|
            (TR.s rfl rfl <|
            (TR.s rfl rfl <|
            (TR.s rfl rfl <|
            (TR.l (r := b true) rfl rfl (LOp.pick_true rfl rfl rfl) <|
            TR.nil)))))))))))))))))))))))))))) rfl (by kernel_rfl) rfl fills_nil rfl ?_
           iterate 28 refine ROps.dropS ?_
           refine ROps.drop0 ?_
           refine zN ?_
           refine RunC.cond_true rfl rfl ?_
           refine zQ ?_
           refine zA (r := b false) rfl rfl rfl rfl rfl ?_
           refine zN ?_
           refine RunC.ret ?_
           cases Option.some.inj h8_
           have hx9_ := hr8 _ rfl
           subst hx9_
           have hq := Option.some.inj h
           subst q0
           exact bodyQ.pure (.inr rfl) rfl (Res.one rfl (RV.tmp rfl))
          ·obtain ⟨x10, hx18, h8_⟩ := olet_some h8_
           obtain ⟨e11, he19, h8_⟩ := obind_some h8_
           rcases bsel_some h8_ with ⟨hc20, h8_⟩ | ⟨hc20, h8_⟩
           ·refine RunC.region_draw (Γ' := []) 28 mixed 
             (TR.l (r := ptr [i64 a0, sl a1.length (a1.map i64), sl a2.length (a2.map i64), sl a3.length (a3.map f32)]) rfl rfl (LOp.move rfl rfl) <|
             (TR.l (r := ptr [i64 a0, sl a1.length (a1.map i64), sl a2.length (a2.map i64), sl a3.length (a3.map f32)]) rfl rfl (LOp.nilCheck_ptr rfl rfl) <|
             (TR.l (r := ptr [sl a1.length (a1.map i64), sl a2.length (a2.map i64), sl a3.length (a3.map f32)]) rfl rfl (LOp.fap und30 rfl siz22 rfl rfl rfl) <|
             (TR.l (r := sl a1.length (a1.map i64)) rfl rfl (LOp.load1 agg22 rfl rfl) <|
             (TR.l (r := i64 v6) rfl rfl (LOp.move rfl rfl) <|
             (TR.l (r := i64 x7) rfl rfl (LOp.eqr (LOp.add rfl rfl rfl) (congrArg (ik .i64) hx14)) <|
             (TR.l (r := ptr [i64 e8]) rfl rfl (LOp.le (LOp.ix (f := i64) und22 siz2 rfl rfl rfl rfl he15) ALe.ptr) <|
             (TR.l (r := i64 e8) rfl rfl (LOp.load1 agg2 rfl rfl) <|
             (TR.l (r := ptr [i64 a0, sl a1.length (a1.map i64), sl a2.length (a2.map i64), sl a3.length (a3.map f32)]) rfl rfl (LOp.move rfl rfl) <|
             (TR.l (r := ptr [i64 a0, sl a1.length (a1.map i64), sl a2.length (a2.map i64), sl a3.length (a3.map f32)]) rfl rfl (LOp.nilCheck_ptr rfl rfl) <|
             (TR.l (r := ptr [sl a1.length (a1.map i64), sl a2.length (a2.map i64), sl a3.length (a3.map f32)]) rfl rfl (LOp.fap und30 rfl siz22 rfl rfl rfl) <|
             (TR.l (r := sl a1.length (a1.map i64)) rfl rfl (LOp.load1 agg22 rfl rfl) <|
             (TR.l (r := i64 v6) rfl rfl (LOp.move rfl rfl) <|
             (TR.l (r := ptr [i64 e9]) rfl rfl (LOp.le (LOp.ix (f := i64) und22 siz2 rfl rfl rfl rfl he16) ALe.ptr) <|
             (TR.l (r := i64 e9) rfl rfl (LOp.load1 agg2 rfl rfl) <|
             (TR.l (r := b false) rfl rfl (LOp.eqb (LOp.lss rfl rfl rfl) hc17) <|
             (TR.l (r := b false) rfl rfl (LOp.move rfl rfl) <|
             (TR.l (r := ptr [i64 a0, sl a1.length (a1.map i64), sl a2.length (a2.map i64), sl a3.length (a3.map f32)]) rfl rfl (LOp.move rfl rfl) <|
             (TR.l (r := ptr [i64 a0, sl a1.length (a1.map i64), sl a2.length (a2.map i64), sl a3.length (a3.map f32)]) rfl rfl (LOp.nilCheck_ptr rfl rfl) <|
             (TR.l (r := ptr [sl a1.length (a1.map i64), sl a2.length (a2.map i64), sl a3.length (a3.map f32)]) rfl rfl (LOp.fap und30 rfl siz22 rfl rfl rfl) <|
             (TR.l (r := sl a1.length (a1.map i64)) rfl rfl (LOp.load1 agg22 rfl rfl) <|
             (TR.l (r := i64 v6) rfl rfl (LOp.move rfl rfl) <|
             (TR.l (r := i64 x10) rfl rfl (LOp.eqr (LOp.add rfl rfl rfl) (congrArg (ik .i64) hx18)) <|
             (TR.l (r := ptr [i64 e11]) rfl rfl (LOp.le (LOp.ix (f := i64) und22 siz2 rfl rfl rfl rfl he19) ALe.ptr) <|
             (TR.l (r := i64 e11) rfl rfl (LOp.load1 agg2 rfl rfl) <|
             (TR.l (r := i64 (a2.length : Int)) rfl rfl (LOp.move rfl rfl) <|
             (TR.l (r := b true) rfl rfl (LOp.eqb (LOp.gtr rfl rfl rfl) hc20) <|
             (TR.l (r := b true) rfl rfl (LOp.pick_false rfl rfl rfl) <|
             TR.nil)))))))))))))))))))))))))))) rfl (by kernel_rfl) rfl fills_nil rfl ?_
            iterate 28 refine ROps.dropS ?_
            refine ROps.drop0 ?_
            refine zN ?_
            refine RunC.cond_true rfl rfl ?_
            refine zQ ?_
            refine zA (r := b false) rfl rfl rfl rfl rfl ?_
            refine zN ?_
            refine RunC.ret ?_
            cases Option.some.inj h8_
            have hx10_ := hr8 _ rfl
            subst hx10_
            have hq := Option.some.inj h
            subst q0
            exact bodyQ.pure (.inr rfl) rfl (Res.one rfl (RV.tmp rfl))
           ·refine RunC.region_draw (Γ' := []) 28 mixed 
             (TR.l (r := ptr [i64 a0, sl a1.length (a1.map i64), sl a2.length (a2.map i64), sl a3.length (a3.map f32)]) rfl rfl (LOp.move rfl rfl) <|
             (TR.l (r := ptr [i64 a0, sl a1.length (a1.map i64), sl a2.length (a2.map i64), sl a3.length (a3.map f32)]) rfl rfl (LOp.nilCheck_ptr rfl rfl) <|
             (TR.l (r := ptr [sl a1.length (a1.map i64), sl a2.length (a2.map i64), sl a3.length (a3.map f32)]) rfl rfl (LOp.fap und30 rfl siz22 rfl rfl rfl) <|
             (TR.l (r := sl a1.length (a1.map i64)) rfl rfl (LOp.load1 agg22 rfl rfl) <|
             (TR.l (r := i64 v6) rfl rfl (LOp.move rfl rfl) <|
             (TR.l (r := i64 x7) rfl rfl (LOp.eqr (LOp.add rfl rfl rfl) (congrArg (ik .i64) hx14)) <|
             (TR.l (r := ptr [i64 e8]) rfl rfl (LOp.le (LOp.ix (f := i64) und22 siz2 rfl rfl rfl rfl he15) ALe.ptr) <|
             (TR.l (r := i64 e8) rfl rfl (LOp.load1 agg2 rfl rfl) <|
             (TR.l (r := ptr [i64 a0, sl a1.length (a1.map i64), sl a2.length (a2.map i64), sl a3.length (a3.map f32)]) rfl rfl (LOp.move rfl rfl) <|
             (TR.l (r := ptr [i64 a0, sl a1.length (a1.map i64), sl a2.length (a2.map i64), sl a3.length (a3.map f32)]) rfl rfl (LOp.nilCheck_ptr rfl rfl) <|
             (TR.l (r := ptr [sl a1.length (a1.map i64), sl a2.length (a2.map i64), sl a3.length (a3.map f32)]) rfl rfl (LOp.fap und30 rfl siz22 rfl rfl rfl) <|
             (TR.l (r := sl a1.length (a1.map i64)) rfl rfl (LOp.load1 agg22 rfl rfl) <|
             (TR.l (r := i64 v6) rfl rfl (LOp.move rfl rfl) <|
             (TR.l (r := ptr [i64 e9]) rfl rfl (LOp.le (LOp.ix (f := i64) und22 siz2 rfl rfl rfl rfl he16) ALe.ptr) <|
             (TR.l (r := i64 e9) rfl rfl (LOp.load1 agg2 rfl rfl) <|
             (TR.l (r := b false) rfl rfl (LOp.eqb (LOp.lss rfl rfl rfl) hc17) <|
             (TR.l (r := b false) rfl rfl (LOp.move rfl rfl) <|
             (TR.l (r := ptr [i64 a0, sl a1.length (a1.map i64), sl a2.length (a2.map i64), sl a3.length (a3.map f32)]) rfl rfl (LOp.move rfl rfl) <|
             (TR.l (r := ptr [i64 a0, sl a1.length (a1.map i64), sl a2.length (a2.map i64), sl a3.length (a3.map f32)]) rfl rfl (LOp.nilCheck_ptr rfl rfl) <|
             (TR.l (r := ptr [sl a1.length (a1.map i64), sl a2.length (a2.map i64), sl a3.length (a3.map f32)]) rfl rfl (LOp.fap und30 rfl siz22 rfl rfl rfl) <|
             (TR.l (r := sl a1.length (a1.map i64)) rfl rfl (LOp.load1 agg22 rfl rfl) <|
             (TR.l (r := i64 v6) rfl rfl (LOp.move rfl rfl) <|
             (TR.l (r := i64 x10) rfl rfl (LOp.eqr (LOp.add rfl rfl rfl) (congrArg (ik .i64) hx18)) <|
             (TR.l (r := ptr [i64 e11]) rfl rfl (LOp.le (LOp.ix (f := i64) und22 siz2 rfl rfl rfl rfl he19) ALe.ptr) <|
             (TR.l (r := i64 e11) rfl rfl (LOp.load1 agg2 rfl rfl) <|
             (TR.l (r := i64 (a2.length : Int)) rfl rfl (LOp.move rfl rfl) <|
             (TR.l (r := b false) rfl rfl (LOp.eqb (LOp.gtr rfl rfl rfl) hc20) <|
             (TR.l (r := b false) rfl rfl (LOp.pick_false rfl rfl rfl) <|
             TR.nil)))))))))))))))))))))))))))) rfl (by kernel_rfl) rfl fills_nil rfl ?_
            iterate 28 refine ROps.dropS ?_
            refine ROps.drop0 ?_
            refine zN ?_
            refine RunC.cond_false rfl rfl ?_
            refine RunC.skip ?_
            refine RunC.seq ?_
            obtain ⟨e12, he21, h8_⟩ := obind_some h8_
            refine RunC.regionW ?_
            refine zM (r := ptr [i64 a0, sl a1.length (a1.map i64), sl a2.length (a2.map i64), sl a3.length (a3.map f32)]) rfl rfl rfl rfl rfl ?_
            refine zL (r := ptr [i64 a0, sl a1.length (a1.map i64), sl a2.length (a2.map i64), sl a3.length (a3.map f32)]) rfl rfl rfl (LOp.nilCheck_ptr rfl rfl) ?_
            refine zL (r := ptr [sl a1.length (a1.map i64), sl a2.length (a2.map i64), sl a3.length (a3.map f32)]) rfl rfl rfl (LOp.fap und30 rfl siz22 rfl rfl rfl) ?_
            refine zL (r := sl a1.length (a1.map i64)) rfl rfl rfl (LOp.load1 agg22 rfl rfl) ?_
            refine zM (r := i64 v6) rfl rfl rfl rfl rfl ?_
            refine zL (r := ptr [i64 e12]) rfl rfl rfl (LOp.le (LOp.ix (f := i64) und22 siz2 rfl rfl rfl rfl he21) ALe.ptr) ?_
            refine zL (r := i64 e12) rfl rfl rfl (LOp.load1 agg2 rfl rfl) ?_
            refine zA (r := i64 e12) rfl rfl rfl rfl rfl ?_
            refine zN ?_
            obtain ⟨z11, hz_11, h8_⟩ := obind_some h8_
            refine RunC.cutN (fun τ Γ => WeakLe τ [(0, ptr [i64 a0, sl a1.length (a1.map i64), sl a2.length (a2.map i64), sl a3.length (a3.map f32)]), (3, i64 (a2.length : Int)), (4, i64 v6), (97, ptr [i64 a0, sl a1.length (a1.map i64), sl a2.length (a2.map i64), sl a3.length (a3.map f32)]), (98, ptr [i64 a0, sl a1.length (a1.map i64), sl a2.length (a2.map i64), sl a3.length (a3.map f32)]), (99, ptr [sl a1.length (a1.map i64), sl a2.length (a2.map i64), sl a3.length (a3.map f32)]), (100, sl a1.length (a1.map i64)), (101, i64 v6), (102, i64 x10), (103, ptr [i64 e11]), (104, i64 e11), (105, i64 (a2.length : Int)), (106, b false)] ∧ DeadLe Γ [] ∧ z11 = .inl ()) ?_ ?_
            ·refine RunC.block (RunC.loop (RunL.loopM (x := z11) (s_l05Is_s6 a0 a1 a2 v6) (fun (s : Int) τ Γ => WeakLe τ [(0, ptr [i64 a0, sl a1.length (a1.map i64), sl a2.length (a2.map i64), sl a3.length (a3.map f32)]), (3, i64 (a2.length : Int)), (4, i64 v6), (5, i64 s), (97, ptr [i64 a0, sl a1.length (a1.map i64), sl a2.length (a2.map i64), sl a3.length (a3.map f32)]), (98, ptr [i64 a0, sl a1.length (a1.map i64), sl a2.length (a2.map i64), sl a3.length (a3.map f32)]), (99, ptr [sl a1.length (a1.map i64), sl a2.length (a2.map i64), sl a3.length (a3.map f32)]), (100, sl a1.length (a1.map i64)), (101, i64 v6), (102, i64 x10), (103, ptr [i64 e11]), (104, i64 e11), (105, i64 (a2.length : Int)), (106, b false)] ∧ DeadLe Γ []) ?_ _ _ _ hz_11 ⟨⟨aR, aR, aR, aR, aR, aR, aR, aR, aR, aR, aR, aR, aR, aR, trivial⟩, trivial⟩))
             rintro v13 τ11 Γ11 y11_ ⟨hw11, hd11⟩ h11_ ho11 hr11
             refine RunC.wl (τ' := [(0, ptr [i64 a0, sl a1.length (a1.map i64), sl a2.length (a2.map i64), sl a3.length (a3.map f32)]), (3, i64 (a2.length : Int)), (4, i64 v6), (5, i64 v13), (97, ptr [i64 a0, sl a1.length (a1.map i64), sl a2.length (a2.map i64), sl a3.length (a3.map f32)]), (98, ptr [i64 a0, sl a1.length (a1.map i64), sl a2.length (a2.map i64), sl a3.length (a3.map f32)]), (99, ptr [sl a1.length (a1.map i64), sl a2.length (a2.map i64), sl a3.length (a3.map f32)]), (100, sl a1.length (a1.map i64)), (101, i64 v6), (102, i64 x10), (103, ptr [i64 e11]), (104, i64 e11), (105, i64 (a2.length : Int)), (106, b false)]) (Γ' := []) hw11 hd11 ?_
             replace h11_ : s_l05Is_b6 a0 a1 a2 v6 v13 = some y11_ := h11_
             unfold s_l05Is_b6 at h11_
             refine RunC.seq ?_
             refine RunC.seq ?_
             obtain ⟨x14, hx22, h11_⟩ := olet_some h11_
             obtain ⟨e15, he23, h11_⟩ := obind_some h11_
             rcases bsel_some h11_ with ⟨hc24, h11_⟩ | ⟨hc24, h11_⟩
             ·refine RunC.regionW ?_
              refine zM (r := i64 v13) rfl rfl rfl rfl rfl ?_
              refine zM (r := ptr [i64 a0, sl a1.length (a1.map i64), sl a2.length (a2.map i64), sl a3.length (a3.map f32)]) rfl rfl rfl rfl rfl ?_
              refine zL (r := ptr [i64 a0, sl a1.length (a1.map i64), sl a2.length (a2.map i64), sl a3.length (a3.map f32)]) rfl rfl rfl (LOp.nilCheck_ptr rfl rfl) ?_
              refine zL (r := ptr [sl a1.length (a1.map i64), sl a2.length (a2.map i64), sl a3.length (a3.map f32)]) rfl rfl rfl (LOp.fap und30 rfl siz22 rfl rfl rfl) ?_
              refine zL (r := sl a1.length (a1.map i64)) rfl rfl rfl (LOp.load1 agg22 rfl rfl) ?_
              refine zM (r := i64 v6) rfl rfl rfl rfl rfl ?_
              refine zL (r := i64 x14) rfl rfl rfl (LOp.eqr (LOp.add rfl rfl rfl) (congrArg (ik .i64) hx22)) ?_
              refine zL (r := ptr [i64 e15]) rfl rfl rfl (LOp.le (LOp.ix (f := i64) und22 siz2 rfl rfl rfl rfl he23) ALe.ptr) ?_
              refine zL (r := i64 e15) rfl rfl rfl (LOp.load1 agg2 rfl rfl) ?_
              refine zL (r := b true) rfl rfl rfl (LOp.eqb (LOp.lss rfl rfl rfl) hc24) ?_
              refine zN ?_
              refine RunC.cond_true rfl rfl ?_
              refine RunC.skip ?_
              refine RunC.seq ?_
              refine RunC.cutN (fun τ Γ => ∃ (w23 : Bool) (v24 : Int), WeakLe τ [(0, ptr [i64 a0, sl a1.length (a1.map i64), sl a2.length (a2.map i64), sl a3.length (a3.map f32)]), (3, i64 (a2.length : Int)), (4, i64 v6), (5, i64 v13), (97, ptr [i64 a0, sl a1.length (a1.map i64), sl a2.length (a2.map i64), sl a3.length (a3.map f32)]), (98, ptr [i64 a0, sl a1.length (a1.map i64), sl a2.length (a2.map i64), sl a3.length (a3.map f32)]), (99, ptr [sl a1.length (a1.map i64), sl a2.length (a2.map i64), sl a3.length (a3.map f32)]), (100, sl a1.length (a1.map i64)), (101, i64 v6), (102, i64 x10), (103, ptr [i64 e11]), (104, i64 e11), (105, i64 (a2.length : Int)), (106, b false), (142, i64 v13), (143, ptr [i64 a0, sl a1.length (a1.map i64), sl a2.length (a2.map i64), sl a3.length (a3.map f32)]), (144, ptr [i64 a0, sl a1.length (a1.map i64), sl a2.length (a2.map i64), sl a3.length (a3.map f32)]), (145, ptr [sl a1.length (a1.map i64), sl a2.length (a2.map i64), sl a3.length (a3.map f32)]), (146, sl a1.length (a1.map i64)), (147, i64 v6), (148, ptr [i64 v24]), (149, i64 v24), (150, b w23), (151, b w23), (168, b false)] ∧ DeadLe Γ [] ∧ s_l05Is_k5 v13 w23 v24 = some y11_) ?_ ?_
              ·refine RunC.block ?_
               refine RunC.seq ?_
               obtain ⟨e16, he25, h11_⟩ := obind_some h11_
               obtain ⟨x17, hx26, h11_⟩ := olet_some h11_
               obtain ⟨r18, hf27, h11_⟩ := obind_some h11_
               rcases bsel_some h11_ with ⟨hc28, h11_⟩ | ⟨hc28, h11_⟩
               ·obtain ⟨e19, he29, h11_⟩ := obind_some h11_
                rcases bsel_some h11_ with ⟨hc30, h11_⟩ | ⟨hc30, h11_⟩
                ·obtain ⟨e20, he31, h11_⟩ := obind_some h11_
                 obtain ⟨x21, hx32, h11_⟩ := olet_some h11_
                 obtain ⟨e22, he33, h11_⟩ := obind_some h11_
                 rcases bsel_some h11_ with ⟨hc34, h11_⟩ | ⟨hc34, h11_⟩
                 ·refine RunC.region_draw (Γ' := []) 43 mixed 
                   (TR.l (r := ptr [i64 a0, sl a1.length (a1.map i64), sl a2.length (a2.map i64), sl a3.length (a3.map f32)]) rfl rfl (LOp.move rfl rfl) <|
                   (TR.l (r := ptr [i64 a0, sl a1.length (a1.map i64), sl a2.length (a2.map i64), sl a3.length (a3.map f32)]) rfl rfl (LOp.nilCheck_ptr rfl rfl) <|
                   (TR.l (r := ptr [sl a2.length (a2.map i64), sl a3.length (a3.map f32)]) rfl rfl (LOp.fap und30 rfl siz22 rfl rfl rfl) <|
                   (TR.l (r := sl a2.length (a2.map i64)) rfl rfl (LOp.load1 agg22 rfl rfl) <|
                   (TR.l (r := i64 v13) rfl rfl (LOp.move rfl rfl) <|
                   (TR.l (r := ptr [i64 e16]) rfl rfl (LOp.le (LOp.ix (f := i64) und22 siz2 rfl rfl rfl rfl he25) ALe.ptr) <|
                   (TR.l (r := i64 e16) rfl rfl (LOp.load1 agg2 rfl rfl) <|
                   (TR.l (r := ptr [i64 a0, sl a1.length (a1.map i64), sl a2.length (a2.map i64), sl a3.length (a3.map f32)]) rfl rfl (LOp.move rfl rfl) <|
                   (TR.l (r := ptr [i64 a0, sl a1.length (a1.map i64), sl a2.length (a2.map i64), sl a3.length (a3.map f32)]) rfl rfl (LOp.nilCheck_ptr rfl rfl) <|
                   (TR.l (r := ptr [i64 a0, sl a1.length (a1.map i64), sl a2.length (a2.map i64), sl a3.length (a3.map f32)]) rfl rfl (LOp.fap und30 rfl siz2 rfl rfl rfl) <|
                   (TR.l (r := i64 a0) rfl rfl (LOp.load1 agg2 rfl rfl) <|
                   (TR.l (r := i64 x17) rfl rfl (LOp.eqr (LOp.sub rfl rfl rfl) (congrArg (ik .i64) hx26)) <|
                   (TR.d (r := b true) (fs := []) rfl rfl (TOp.eqb (TOp.callB (CallAs.func ent32 rfl rfl) (Bors.cons (Bor.pure rfl) (Bors.cons (Bor.pure rfl) (Bors.cons (Bor.pure rfl) Bors.nil))) rfl rfl (s_l00In_ok e16 0 x17 r18 hf27)) hc28) <|
                   (TR.l (r := b false) rfl rfl (LOp.eqb (LOp.not rfl rfl) rfl) <|
                   (TR.l (r := b false) rfl rfl (LOp.move rfl rfl) <|
                   (TR.l (r := i64 v13) rfl rfl (LOp.move rfl rfl) <|
                   (TR.l (r := ptr [i64 a0, sl a1.length (a1.map i64), sl a2.length (a2.map i64), sl a3.length (a3.map f32)]) rfl rfl (LOp.move rfl rfl) <|
                   (TR.l (r := ptr [i64 a0, sl a1.length (a1.map i64), sl a2.length (a2.map i64), sl a3.length (a3.map f32)]) rfl rfl (LOp.nilCheck_ptr rfl rfl) <|
                   (TR.l (r := ptr [sl a1.length (a1.map i64), sl a2.length (a2.map i64), sl a3.length (a3.map f32)]) rfl rfl (LOp.fap und30 rfl siz22 rfl rfl rfl) <|
                   (TR.l (r := sl a1.length (a1.map i64)) rfl rfl (LOp.load1 agg22 rfl rfl) <|
                   (TR.l (r := i64 v6) rfl rfl (LOp.move rfl rfl) <|
                   (TR.l (r := ptr [i64 e19]) rfl rfl (LOp.le (LOp.ix (f := i64) und22 siz2 rfl rfl rfl rfl he29) ALe.ptr) <|
                   (TR.l (r := i64 e19) rfl rfl (LOp.load1 agg2 rfl rfl) <|
                   (TR.l (r := b true) rfl rfl (LOp.eqb (LOp.gtr rfl rfl rfl) hc30) <|
                   (TR.l (r := b true) rfl rfl (LOp.move rfl rfl) <|
                   (TR.l (r := ptr [i64 a0, sl a1.length (a1.map i64), sl a2.length (a2.map i64), sl a3.length (a3.map f32)]) rfl rfl (LOp.move rfl rfl) <|
                   (TR.l (r := ptr [i64 a0, sl a1.length (a1.map i64), sl a2.length (a2.map i64), sl a3.length (a3.map f32)]) rfl rfl (LOp.nilCheck_ptr rfl rfl) <|
                   (TR.l (r := ptr [sl a2.length (a2.map i64), sl a3.length (a3.map f32)]) rfl rfl (LOp.fap und30 rfl siz22 rfl rfl rfl) <|
                   (TR.l (r := sl a2.length (a2.map i64)) rfl rfl (LOp.load1 agg22 rfl rfl) <|
                   (TR.l (r := i64 v13) rfl rfl (LOp.move rfl rfl) <|
                   (TR.l (r := ptr [i64 e20]) rfl rfl (LOp.le (LOp.ix (f := i64) und22 siz2 rfl rfl rfl rfl he31) ALe.ptr) <|
                   (TR.l (r := i64 e20) rfl rfl (LOp.load1 agg2 rfl rfl) <|
                   (TR.l (r := ptr [i64 a0, sl a1.length (a1.map i64), sl a2.length (a2.map i64), sl a3.length (a3.map f32)]) rfl rfl (LOp.move rfl rfl) <|
                   (TR.l (r := ptr [i64 a0, sl a1.length (a1.map i64), sl a2.length (a2.map i64), sl a3.length (a3.map f32)]) rfl rfl (LOp.nilCheck_ptr rfl rfl) <|
                   (TR.l (r := ptr [sl a2.length (a2.map i64), sl a3.length (a3.map f32)]) rfl rfl (LOp.fap und30 rfl siz22 rfl rfl rfl) <|
                   (TR.l (r := sl a2.length (a2.map i64)) rfl rfl (LOp.load1 agg22 rfl rfl) <|
                   (TR.l (r := i64 v13) rfl rfl (LOp.move rfl rfl) <|
                   (TR.l (r := i64 x21) rfl rfl (LOp.eqr (LOp.sub rfl rfl rfl) (congrArg (ik .i64) hx32)) <|
                   (TR.l (r := ptr [i64 e22]) rfl rfl (LOp.le (LOp.ix (f := i64) und22 siz2 rfl rfl rfl rfl he33) ALe.ptr) <|
                   (TR.l (r := i64 e22) rfl rfl (LOp.load1 agg2 rfl rfl) <|
                   (TR.l (r := b true) rfl rfl (LOp.eqb (LOp.leq rfl rfl rfl) hc34) <|
                   (TR.l (r := b true) rfl rfl (LOp.pick_true rfl rfl rfl) <|
                   (TR.l (r := b true) rfl rfl (LOp.pick_false rfl rfl rfl) <|
                   TR.nil))))))))))))))))))))))))))))))))))))))))))) rfl (by kernel_rfl) rfl fills_nil rfl ?_
                  iterate 43 refine ROps.dropS ?_
                  refine ROps.drop0 ?_
                  refine zN ?_
                  refine RunC.wl (τ' := [(0, ptr [i64 a0, sl a1.length (a1.map i64), sl a2.length (a2.map i64), sl a3.length (a3.map f32)]), (3, i64 (a2.length : Int)), (4, i64 v6), (5, i64 v13), (97, ptr [i64 a0, sl a1.length (a1.map i64), sl a2.length (a2.map i64), sl a3.length (a3.map f32)]), (98, ptr [i64 a0, sl a1.length (a1.map i64), sl a2.length (a2.map i64), sl a3.length (a3.map f32)]), (99, ptr [sl a1.length (a1.map i64), sl a2.length (a2.map i64), sl a3.length (a3.map f32)]), (100, sl a1.length (a1.map i64)), (101, i64 v6), (102, i64 x10), (103, ptr [i64 e11]), (104, i64 e11), (105, i64 (a2.length : Int)), (106, b false), (142, i64 v13), (143, ptr [i64 a0, sl a1.length (a1.map i64), sl a2.length (a2.map i64), sl a3.length (a3.map f32)]), (144, ptr [i64 a0, sl a1.length (a1.map i64), sl a2.length (a2.map i64), sl a3.length (a3.map f32)]), (145, ptr [sl a1.length (a1.map i64), sl a2.length (a2.map i64), sl a3.length (a3.map f32)]), (146, sl a1.length (a1.map i64)), (147, i64 v6), (148, ptr [i64 e19]), (149, i64 e19), (150, b true), (151, b true), (152, ptr [i64 a0, sl a1.length (a1.map i64), sl a2.length (a2.map i64), sl a3.length (a3.map f32)]), (153, ptr [i64 a0, sl a1.length (a1.map i64), sl a2.length (a2.map i64), sl a3.length (a3.map f32)]), (154, ptr [sl a2.length (a2.map i64), sl a3.length (a3.map f32)]), (155, sl a2.length (a2.map i64)), (156, i64 v13), (157, ptr [i64 e20]), (158, i64 e20), (159, ptr [i64 a0, sl a1.length (a1.map i64), sl a2.length (a2.map i64), sl a3.length (a3.map f32)]), (160, ptr [i64 a0, sl a1.length (a1.map i64), sl a2.length (a2.map i64), sl a3.length (a3.map f32)]), (161, ptr [sl a2.length (a2.map i64), sl a3.length (a3.map f32)]), (162, sl a2.length (a2.map i64)), (163, i64 v13), (164, i64 x21), (165, ptr [i64 e22]), (166, i64 e22), (167, b true), (168, b true), (169, b true)]) (Γ' := []) ⟨aR, aR, aR, aR, aR, aR, aR, aR, aR, aR, aR, aR, aR, aR, aR, aR, aR, aR, aR, aR, aR, aR, aR, aR, aR, aR, aR, aR, aR, aR, aR, aR, aR, aR, aR, aR, aR, aR, aR, aR, aR, aR, trivial⟩ trivial ?_
                  refine RunC.cond_true rfl rfl ?_
                  refine zQ ?_
                  refine zA (r := b false) rfl rfl rfl rfl rfl ?_
                  refine zN ?_
                  refine RunC.ret ?_
                  cases Option.some.inj h11_
                  have hx12_ := hr11 _ rfl
                  subst hx12_
                  cases Option.some.inj h8_
                  have hx13_ := hr8 _ rfl
                  subst hx13_
                  have hq := Option.some.inj h
                  subst q0
                  exact bodyQ.pure (.inr rfl) rfl (Res.one rfl (RV.tmp rfl))
                 ·refine RunC.region_draw (Γ' := []) 43 mixed 
                   (TR.l (r := ptr [i64 a0, sl a1.length (a1.map i64), sl a2.length (a2.map i64), sl a3.length (a3.map f32)]) rfl rfl (LOp.move rfl rfl) <|
                   (TR.l (r := ptr [i64 a0, sl a1.length (a1.map i64), sl a2.length (a2.map i64), sl a3.length (a3.map f32)]) rfl rfl (LOp.nilCheck_ptr rfl rfl) <|
                   (TR.l (r := ptr [sl a2.length (a2.map i64), sl a3.length (a3.map f32)]) rfl rfl (LOp.fap und30 rfl siz22 rfl rfl rfl) <|
                   (TR.l (r := sl a2.length (a2.map i64)) rfl rfl (LOp.load1 agg22 rfl rfl) <|
                   (TR.l (r := i64 v13) rfl rfl (LOp.move rfl rfl) <|
                   (TR.l (r := ptr [i64 e16]) rfl rfl (LOp.le (LOp.ix (f := i64) und22 siz2 rfl rfl rfl rfl he25) ALe.ptr) <|
                   (TR.l (r := i64 e16) rfl rfl (LOp.load1 agg2 rfl rfl) <|
                   (TR.l (r := ptr [i64 a0, sl a1.length (a1.map i64), sl a2.length (a2.map i64), sl a3.length (a3.map f32)]) rfl rfl (LOp.move rfl rfl) <|
                   (TR.l (r := ptr [i64 a0, sl a1.length (a1.map i64), sl a2.length (a2.map i64), sl a3.length (a3.map f32)]) rfl rfl (LOp.nilCheck_ptr rfl rfl) <|
                   (TR.l (r := ptr [i64 a0, sl a1.length (a1.map i64), sl a2.length (a2.map i64), sl a3.length (a3.map f32)]) rfl rfl (LOp.fap und30 rfl siz2 rfl rfl rfl) <|
                   (TR.l (r := i64 a0) rfl rfl (LOp.load1 agg2 rfl rfl) <|
                   (TR.l (r := i64 x17) rfl rfl (LOp.eqr (LOp.sub rfl rfl rfl) (congrArg (ik .i64) hx26)) <|
                   (TR.d (r := b true) (fs := []) rfl rfl (TOp.eqb (TOp.callB (CallAs.func ent32 rfl rfl) (Bors.cons (Bor.pure rfl) (Bors.cons (Bor.pure rfl) (Bors.cons (Bor.pure rfl) Bors.nil))) rfl rfl (s_l00In_ok e16 0 x17 r18 hf27)) hc28) <|
                   (TR.l (r := b false) rfl rfl (LOp.eqb (LOp.not rfl rfl) rfl) <|
                   (TR.l (r := b false) rfl rfl (LOp.move rfl rfl) <|
                   (TR.l (r := i64 v13) rfl rfl (LOp.move rfl rfl) <|
                   (TR.l (r := ptr [i64 a0, sl a1.length (a1.map i64), sl a2.length (a2.map i64), sl a3.length (a3.map f32)]) rfl rfl (LOp.move rfl rfl) <|
                   (TR.l (r := ptr [i64 a0, sl a1.length (a1.map i64), sl a2.length (a2.map i64), sl a3.length (a3.map f32)]) rfl rfl (LOp.nilCheck_ptr rfl rfl) <|
                   (TR.l (r := ptr [sl a1.length (a1.map i64), sl a2.length (a2.map i64), sl a3.length (a3.map f32)]) rfl rfl (LOp.fap und30 rfl siz22 rfl rfl rfl) <|
                   (TR.l (r := sl a1.length (a1.map i64)) rfl rfl (LOp.load1 agg22 rfl rfl) <|
                   (TR.l (r := i64 v6) rfl rfl (LOp.move rfl rfl) <|
                   (TR.l (r := ptr [i64 e19]) rfl rfl (LOp.le (LOp.ix (f := i64) und22 siz2 rfl rfl rfl rfl he29) ALe.ptr) <|
                   (TR.l (r := i64 e19) rfl rfl (LOp.load1 agg2 rfl rfl) <|
                   (TR.l (r := b true) rfl rfl (LOp.eqb (LOp.gtr rfl rfl rfl) hc30) <|
                   (TR.l (r := b true) rfl rfl (LOp.move rfl rfl) <|
                   (TR.l (r := ptr [i64 a0, sl a1.length (a1.map i64), sl a2.length (a2.map i64), sl a3.length (a3.map f32)]) rfl rfl (LOp.move rfl rfl) <|
                   (TR.l (r := ptr [i64 a0, sl a1.length (a1.map i64), sl a2.length (a2.map i64), sl a3.length (a3.map f32)]) rfl rfl (LOp.nilCheck_ptr rfl rfl) <|
                   (TR.l (r := ptr [sl a2.length (a2.map i64), sl a3.length (a3.map f32)]) rfl rfl (LOp.fap und30 rfl siz22 rfl rfl rfl) <|
                   (TR.l (r := sl a2.length (a2.map i64)) rfl rfl (LOp.load1 agg22 rfl rfl) <|
                   (TR.l (r := i64 v13) rfl rfl (LOp.move rfl rfl) <|
                   (TR.l (r := ptr [i64 e20]) rfl rfl (LOp.le (LOp.ix (f := i64) und22 siz2 rfl rfl rfl rfl he31) ALe.ptr) <|
                   (TR.l (r := i64 e20) rfl rfl (LOp.load1 agg2 rfl rfl) <|
                   (TR.l (r := ptr [i64 a0, sl a1.length (a1.map i64), sl a2.length (a2.map i64), sl a3.length (a3.map f32)]) rfl rfl (LOp.move rfl rfl) <|
                   (TR.l (r := ptr [i64 a0, sl a1.length (a1.map i64), sl a2.length (a2.map i64), sl a3.length (a3.map f32)]) rfl rfl (LOp.nilCheck_ptr rfl rfl) <|
                   (TR.l (r := ptr [sl a2.length (a2.map i64), sl a3.length (a3.map f32)]) rfl rfl (LOp.fap und30 rfl siz22 rfl rfl rfl) <|
                   (TR.l (r := sl a2.length (a2.map i64)) rfl rfl (LOp.load1 agg22 rfl rfl) <|
                   (TR.l (r := i64 v13) rfl rfl (LOp.move rfl rfl) <|
                   (TR.l (r := i64 x21) rfl rfl (LOp.eqr (LOp.sub rfl rfl rfl) (congrArg (ik .i64) hx32)) <|
                   (TR.l (r := ptr [i64 e22]) rfl rfl (LOp.le (LOp.ix (f := i64) und22 siz2 rfl rfl rfl rfl he33) ALe.ptr) <|
                   (TR.l (r := i64 e22) rfl rfl (LOp.load1 agg2 rfl rfl) <|
                   (TR.l (r := b false) rfl rfl (LOp.eqb (LOp.leq rfl rfl rfl) hc34) <|
                   (TR.l (r := b false) rfl rfl (LOp.pick_true rfl rfl rfl) <|
                   (TR.l (r := b false) rfl rfl (LOp.pick_false rfl rfl rfl) <|
                   TR.nil))))))))))))))))))))))))))))))))))))))))))) rfl (by kernel_rfl) rfl fills_nil rfl ?_
                  iterate 43 refine ROps.dropS ?_
                  refine ROps.drop0 ?_
                  refine zN ?_
                  refine RunC.wl (τ' := [(0, ptr [i64 a0, sl a1.length (a1.map i64), sl a2.length (a2.map i64), sl a3.length (a3.map f32)]), (3, i64 (a2.length : Int)), (4, i64 v6), (5, i64 v13), (97, ptr [i64 a0, sl a1.length (a1.map i64), sl a2.length (a2.map i64), sl a3.length (a3.map f32)]), (98, ptr [i64 a0, sl a1.length (a1.map i64), sl a2.length (a2.map i64), sl a3.length (a3.map f32)]), (99, ptr [sl a1.length (a1.map i64), sl a2.length (a2.map i64), sl a3.length (a3.map f32)]), (100, sl a1.length (a1.map i64)), (101, i64 v6), (102, i64 x10), (103, ptr [i64 e11]), (104, i64 e11), (105, i64 (a2.length : Int)), (106, b false), (142, i64 v13), (143, ptr [i64 a0, sl a1.length (a1.map i64), sl a2.length (a2.map i64), sl a3.length (a3.map f32)]), (144, ptr [i64 a0, sl a1.length (a1.map i64), sl a2.length (a2.map i64), sl a3.length (a3.map f32)]), (145, ptr [sl a1.length (a1.map i64), sl a2.length (a2.map i64), sl a3.length (a3.map f32)]), (146, sl a1.length (a1.map i64)), (147, i64 v6), (148, ptr [i64 e19]), (149, i64 e19), (150, b true), (151, b true), (152, ptr [i64 a0, sl a1.length (a1.map i64), sl a2.length (a2.map i64), sl a3.length (a3.map f32)]), (153, ptr [i64 a0, sl a1.length (a1.map i64), sl a2.length (a2.map i64), sl a3.length (a3.map f32)]), (154, ptr [sl a2.length (a2.map i64), sl a3.length (a3.map f32)]), (155, sl a2.length (a2.map i64)), (156, i64 v13), (157, ptr [i64 e20]), (158, i64 e20), (159, ptr [i64 a0, sl a1.length (a1.map i64), sl a2.length (a2.map i64), sl a3.length (a3.map f32)]), (160, ptr [i64 a0, sl a1.length (a1.map i64), sl a2.length (a2.map i64), sl a3.length (a3.map f32)]), (161, ptr [sl a2.length (a2.map i64), sl a3.length (a3.map f32)]), (162, sl a2.length (a2.map i64)), (163, i64 v13), (164, i64 x21), (165, ptr [i64 e22]), (166, i64 e22), (167, b false), (168, b false), (169, b false)]) (Γ' := []) ⟨aR, aR, aR, aR, aR, aR, aR, aR, aR, aR, aR, aR, aR, aR, aR, aR, aR, aR, aR, aR, aR, aR, aR, aR, aR, aR, aR, aR, aR, aR, aR, aR, aR, aR, aR, aR, aR, aR, aR, aR, aR, aR, trivial⟩ trivial ?_
                  refine RunC.cond_false rfl rfl ?_
                  refine RunC.skip ?_
                  exact ⟨true, e19, ⟨aR, aR, aR, aR, aR, aR, aR, aR, aR, aR, aR, aR, aR, aR, aR, aR, aR, aR, aR, aR, aR, aR, aR, aR, aR, trivial⟩, trivial, h11_⟩
                ·refine RunC.region_draw (Γ' := []) 43 mixed 
                  (TR.l (r := ptr [i64 a0, sl a1.length (a1.map i64), sl a2.length (a2.map i64), sl a3.length (a3.map f32)]) rfl rfl (LOp.move rfl rfl) <|
                  (TR.l (r := ptr [i64 a0, sl a1.length (a1.map i64), sl a2.length (a2.map i64), sl a3.length (a3.map f32)]) rfl rfl (LOp.nilCheck_ptr rfl rfl) <|
                  (TR.l (r := ptr [sl a2.length (a2.map i64), sl a3.length (a3.map f32)]) rfl rfl (LOp.fap und30 rfl siz22 rfl rfl rfl) <|
                  (TR.l (r := sl a2.length (a2.map i64)) rfl rfl (LOp.load1 agg22 rfl rfl) <|
                  (TR.l (r := i64 v13) rfl rfl (LOp.move rfl rfl) <|
                  (TR.l (r := ptr [i64 e16]) rfl rfl (LOp.le (LOp.ix (f := i64) und22 siz2 rfl rfl rfl rfl he25) ALe.ptr) <|
                  (TR.l (r := i64 e16) rfl rfl (LOp.load1 agg2 rfl rfl) <|
                  (TR.l (r := ptr [i64 a0, sl a1.length (a1.map i64), sl a2.length (a2.map i64), sl a3.length (a3.map f32)]) rfl rfl (LOp.move rfl rfl) <|
                  (TR.l (r := ptr [i64 a0, sl a1.length (a1.map i64), sl a2.length (a2.map i64), sl a3.length (a3.map f32)]) rfl rfl (LOp.nilCheck_ptr rfl rfl) <|
                  (TR.l (r := ptr [i64 a0, sl a1.length (a1.map i64), sl a2.length (a2.map i64), sl a3.length (a3.map f32)]) rfl rfl (LOp.fap und30 rfl siz2 rfl rfl rfl) <|
                  (TR.l (r := i64 a0) rfl rfl (LOp.load1 agg2 rfl rfl) <|
                  (TR.l (r := i64 x17) rfl rfl (LOp.eqr (LOp.sub rfl rfl rfl) (congrArg (ik .i64) hx26)) <|
                  (TR.d (r := b true) (fs := []) rfl rfl (TOp.eqb (TOp.callB (CallAs.func ent32 rfl rfl) (Bors.cons (Bor.pure rfl) (Bors.cons (Bor.pure rfl) (Bors.cons (Bor.pure rfl) Bors.nil))) rfl rfl (s_l00In_ok e16 0 x17 r18 hf27)) hc28) <|
                  (TR.l (r := b false) rfl rfl (LOp.eqb (LOp.not rfl rfl) rfl) <|
                  (TR.l (r := b false) rfl rfl (LOp.move rfl rfl) <|
                  (TR.l (r := i64 v13) rfl rfl (LOp.move rfl rfl) <|
                  (TR.l (r := ptr [i64 a0, sl a1.length (a1.map i64), sl a2.length (a2.map i64), sl a3.length (a3.map f32)]) rfl rfl (LOp.move rfl rfl) <|
                  (TR.l (r := ptr [i64 a0, sl a1.length (a1.map i64), sl a2.length (a2.map i64), sl a3.length (a3.map f32)]) rfl rfl (LOp.nilCheck_ptr rfl rfl) <|
                  (TR.l (r := ptr [sl a1.length (a1.map i64), sl a2.length (a2.map i64), sl a3.length (a3.map f32)]) rfl rfl (LOp.fap und30 rfl siz22 rfl rfl rfl) <|
                  (TR.l (r := sl a1.length (a1.map i64)) rfl rfl (LOp.load1 agg22 rfl rfl) <|
                  (TR.l (r := i64 v6) rfl rfl (LOp.move rfl rfl) <|
                  (TR.l (r := ptr [i64 e19]) rfl rfl (LOp.le (LOp.ix (f := i64) und22 siz2 rfl rfl rfl rfl he29) ALe.ptr) <|
                  (TR.l (r := i64 e19) rfl rfl (LOp.load1 agg2 rfl rfl) <|
                  (TR.l (r := b false) rfl rfl (LOp.eqb (LOp.gtr rfl rfl rfl) hc30) <|
                  (TR.l (r := b false) rfl rfl (LOp.move rfl rfl) <|
                  (TR.s rfl rfl <|
                  (TR.s rfl rfl <|
                  (TR.s rfl rfl <|
                  (TR.s rfl rfl <|
                  (TR.s rfl rfl <|
                  (TR.s rfl rfl <|
                  (TR.s rfl rfl <|
                  (TR.s rfl rfl <|
                  (TR.s rfl rfl <|
                  (TR.s rfl rfl <|
                  (TR.s rfl rfl <|
                  (TR.s rfl rfl <|
                  (TR.s rfl rfl <|
                  (TR.s rfl rfl <|
                  (TR.s rfl rfl <|
                  (TR.s rfl rfl <|
                  (TR.l (r := b false) rfl rfl (LOp.pick_false rfl rfl rfl) <|
                  (TR.l (r := b false) rfl rfl (LOp.pick_false rfl rfl rfl) <|
                  TR.nil))))))))))))))))))))))))))))))))))))))))))) rfl (by kernel_rfl) rfl fills_nil rfl ?_
                 iterate 43 refine ROps.dropS ?_
                 refine ROps.drop0 ?_
                 refine zN ?_
                 refine RunC.wl (τ' := [(0, ptr [i64 a0, sl a1.length (a1.map i64), sl a2.length (a2.map i64), sl a3.length (a3.map f32)]), (3, i64 (a2.length : Int)), (4, i64 v6), (5, i64 v13), (97, ptr [i64 a0, sl a1.length (a1.map i64), sl a2.length (a2.map i64), sl a3.length (a3.map f32)]), (98, ptr [i64 a0, sl a1.length (a1.map i64), sl a2.length (a2.map i64), sl a3.length (a3.map f32)]), (99, ptr [sl a1.length (a1.map i64), sl a2.length (a2.map i64), sl a3.length (a3.map f32)]), (100, sl a1.length (a1.map i64)), (101, i64 v6), (102, i64 x10), (103, ptr [i64 e11]), (104, i64 e11), (105, i64 (a2.length : Int)), (106, b false), (142, i64 v13), (143, ptr [i64 a0, sl a1.length (a1.map i64), sl a2.length (a2.map i64), sl a3.length (a3.map f32)]), (144, ptr [i64 a0, sl a1.length (a1.map i64), sl a2.length (a2.map i64), sl a3.length (a3.map f32)]), (145, ptr [sl a1.length (a1.map i64), sl a2.length (a2.map i64), sl a3.length (a3.map f32)]), (146, sl a1.length (a1.map i64)), (147, i64 v6), (148, ptr [i64 e19]), (149, i64 e19), (150, b false), (151, b false), (168, b false), (169, b false)]) (Γ' := []) ⟨aR, aR, aR, aR, aR, aR, aR, aR, aR, aR, aR, aR, aR, aR, aR, aR, aR, aR, aR, aR, aR, aR, aR, aR, aR, aR, trivial⟩ trivial ?_
                 refine RunC.cond_false rfl rfl ?_
                 refine RunC.skip ?_
                 exact ⟨false, e19, ⟨aR, aR, aR, aR, aR, aR, aR, aR, aR, aR, aR, aR, aR, aR, aR, aR, aR, aR, aR, aR, aR, aR, aR, aR, aR, trivial⟩, trivial, h11_⟩
               ·refine RunC.region_draw (Γ' := []) 43 mixed 
                 (TR.l (r := ptr [i64 a0, sl a1.length (a1.map i64), sl a2.length (a2.map i64), sl a3.length (a3.map f32)]) rfl rfl (LOp.move rfl rfl) <|
                 (TR.l (r := ptr [i64 a0, sl a1.length (a1.map i64), sl a2.length (a2.map i64), sl a3.length (a3.map f32)]) rfl rfl (LOp.nilCheck_ptr rfl rfl) <|
                 (TR.l (r := ptr [sl a2.length (a2.map i64), sl a3.length (a3.map f32)]) rfl rfl (LOp.fap und30 rfl siz22 rfl rfl rfl) <|
                 (TR.l (r := sl a2.length (a2.map i64)) rfl rfl (LOp.load1 agg22 rfl rfl) <|
                 (TR.l (r := i64 v13) rfl rfl (LOp.move rfl rfl) <|
                 (TR.l (r := ptr [i64 e16]) rfl rfl (LOp.le (LOp.ix (f := i64) und22 siz2 rfl rfl rfl rfl he25) ALe.ptr) <|
                 (TR.l (r := i64 e16) rfl rfl (LOp.load1 agg2 rfl rfl) <|
                 (TR.l (r := ptr [i64 a0, sl a1.length (a1.map i64), sl a2.length (a2.map i64), sl a3.length (a3.map f32)]) rfl rfl (LOp.move rfl rfl) <|
                 (TR.l (r := ptr [i64 a0, sl a1.length (a1.map i64), sl a2.length (a2.map i64), sl a3.length (a3.map f32)]) rfl rfl (LOp.nilCheck_ptr rfl rfl) <|
                 (TR.l (r := ptr [i64 a0, sl a1.length (a1.map i64), sl a2.length (a2.map i64), sl a3.length (a3.map f32)]) rfl rfl (LOp.fap und30 rfl siz2 rfl rfl rfl) <|
                 (TR.l (r := i64 a0) rfl rfl (LOp.load1 agg2 rfl rfl) <|
                 (TR.l (r := i64 x17) rfl rfl (LOp.eqr (LOp.sub rfl rfl rfl) (congrArg (ik .i64) hx26)) <|
                 (TR.d (r := b false) (fs := []) rfl rfl (TOp.eqb (TOp.callB (CallAs.func ent32 rfl rfl) (Bors.cons (Bor.pure rfl) (Bors.cons (Bor.pure rfl) (Bors.cons (Bor.pure rfl) Bors.nil))) rfl rfl (s_l00In_ok e16 0 x17 r18 hf27)) hc28) <|
                 (TR.l (r := b true) rfl rfl (LOp.eqb (LOp.not rfl rfl) rfl) <|
                 (TR.l (r := b true) rfl rfl (LOp.move rfl rfl) <|
                 (TR.s rfl rfl <|
                 (TR.s rfl rfl <|
                 (TR.s rfl rfl <|
                 (TR.s rfl rfl <|
                 (TR.s rfl rfl <|
                 (TR.s rfl rfl <|
                 (TR.s rfl rfl <|
                 (TR.s rfl rfl <|
                 (TR.s rfl rfl <|
                 (TR.s rfl rfl <|
                 (TR.s rfl rfl <|
                 (TR.s rfl rfl <|
                 (TR.s rfl rfl <|
                 (TR.s rfl rfl <|
                 (TR.s rfl rfl <|
                 (TR.s rfl rfl <|
                 (TR.s rfl rfl <|
                 (TR.s rfl rfl <|
                 (TR.s rfl rfl <|
                 (TR.s rfl rfl <|
                 (TR.s rfl rfl <|
                 (TR.s rfl rfl <|
                 (TR.s rfl rfl <|
                 (TR.s rfl rfl <|
                 (TR.s rfl rfl <|
                 (TR.s rfl rfl <|
                 (TR.s rfl rfl <|
                 (TR.l (r := b true) rfl rfl (LOp.pick_true rfl rfl rfl) <|
                 TR.nil))))))))))))))))))))))))))))))))))))))))))) rfl (by kernel_rfl) rfl fills_nil rfl ?_
                iterate 43 refine ROps.dropS ?_
                refine ROps.drop0 ?_
                refine zN ?_
                refine RunC.wl (τ' := [(0, ptr [i64 a0, sl a1.length (a1.map i64), sl a2.length (a2.map i64), sl a3.length (a3.map f32)]), (3, i64 (a2.length : Int)), (4, i64 v6), (5, i64 v13), (97, ptr [i64 a0, sl a1.length (a1.map i64), sl a2.length (a2.map i64), sl a3.length (a3.map f32)]), (98, ptr [i64 a0, sl a1.length (a1.map i64), sl a2.length (a2.map i64), sl a3.length (a3.map f32)]), (99, ptr [sl a1.length (a1.map i64), sl a2.length (a2.map i64), sl a3.length (a3.map f32)]), (100, sl a1.length (a1.map i64)), (101, i64 v6), (102, i64 x10), (103, ptr [i64 e11]), (104, i64 e11), (105, i64 (a2.length : Int)), (106, b false), (169, b true)]) (Γ' := []) ⟨aR, aR, aR, aR, aR, aR, aR, aR, aR, aR, aR, aR, aR, aR, aR, trivial⟩ trivial ?_
                refine RunC.cond_true rfl rfl ?_
                refine zQ ?_
                refine zA (r := b false) rfl rfl rfl rfl rfl ?_
                refine zN ?_
                refine RunC.ret ?_
                cases Option.some.inj h11_
                have hx14_ := hr11 _ rfl
                subst hx14_
                cases Option.some.inj h8_
                have hx15_ := hr8 _ rfl
                subst hx15_
                have hq := Option.some.inj h
                subst q0
                exact bodyQ.pure (.inr rfl) rfl (Res.one rfl (RV.tmp rfl))
              ·rintro τ16 Γ16 ⟨w23, v24, hw16, hd16, h11_⟩
               refine RunC.wl hw16 hd16 ?_
               unfold s_l05Is_k5 at h11_
               obtain ⟨x25, hx35, h11_⟩ := olet_some h11_
               refine RunC.regionW ?_
               refine zM (r := i64 v13) rfl rfl rfl rfl rfl ?_
               refine zL (r := i64 x25) rfl rfl rfl (LOp.eqr (LOp.add rfl rfl rfl) (congrArg (ik .i64) hx35)) ?_
               refine zA (r := i64 x25) rfl rfl rfl rfl rfl ?_
               refine zN ?_
               cases Option.some.inj h11_
               exact ⟨_, rfl, ⟨aR, aR, aR, aR, aR, aR, aR, aR, aR, aR, aR, aR, aR, aR, trivial⟩, trivial⟩
             ·refine RunC.regionW ?_
              refine zM (r := i64 v13) rfl rfl rfl rfl rfl ?_
              refine zM (r := ptr [i64 a0, sl a1.length (a1.map i64), sl a2.length (a2.map i64), sl a3.length (a3.map f32)]) rfl rfl rfl rfl rfl ?_
              refine zL (r := ptr [i64 a0, sl a1.length (a1.map i64), sl a2.length (a2.map i64), sl a3.length (a3.map f32)]) rfl rfl rfl (LOp.nilCheck_ptr rfl rfl) ?_
              refine zL (r := ptr [sl a1.length (a1.map i64), sl a2.length (a2.map i64), sl a3.length (a3.map f32)]) rfl rfl rfl (LOp.fap und30 rfl siz22 rfl rfl rfl) ?_
              refine zL (r := sl a1.length (a1.map i64)) rfl rfl rfl (LOp.load1 agg22 rfl rfl) ?_
              refine zM (r := i64 v6) rfl rfl rfl rfl rfl ?_
              refine zL (r := i64 x14) rfl rfl rfl (LOp.eqr (LOp.add rfl rfl rfl) (congrArg (ik .i64) hx22)) ?_
              refine zL (r := ptr [i64 e15]) rfl rfl rfl (LOp.le (LOp.ix (f := i64) und22 siz2 rfl rfl rfl rfl he23) ALe.ptr) ?_
              refine zL (r := i64 e15) rfl rfl rfl (LOp.load1 agg2 rfl rfl) ?_
              refine zL (r := b false) rfl rfl rfl (LOp.eqb (LOp.lss rfl rfl rfl) hc24) ?_
              refine zN ?_
              refine RunC.cond_false rfl rfl ?_
              refine RunC.exit ?_
              cases Option.some.inj h11_
              have hx := ho11 _ rfl
              exact ⟨⟨aR, aR, aR, aR, aR, aR, aR, aR, aR, aR, aR, aR, aR, trivial⟩, trivial, hx⟩
            ·rintro τ17 Γ17 ⟨hw17, hd17, rfl⟩
             refine RunC.wl hw17 hd17 ?_
             replace h8_ : s_l05Is_k6 v6 = some y8_ := h8_
             unfold s_l05Is_k6 at h8_
             obtain ⟨x26, hx36, h8_⟩ := olet_some h8_
             refine RunC.regionW ?_
             refine zM (r := i64 v6) rfl rfl rfl rfl rfl ?_
             refine zL (r := i64 x26) rfl rfl rfl (LOp.eqr (LOp.add rfl rfl rfl) (congrArg (ik .i64) hx36)) ?_
             refine zA (r := i64 x26) rfl rfl rfl rfl rfl ?_
             refine zN ?_
             cases Option.some.inj h8_
             exact ⟨_, rfl, ⟨aR, aR, aR, trivial⟩, trivial⟩
         ·refine RunC.regionW ?_
          refine zM (r := i64 v6) rfl rfl rfl rfl rfl ?_
          refine zM (r := ptr [i64 a0, sl a1.length (a1.map i64), sl a2.length (a2.map i64), sl a3.length (a3.map f32)]) rfl rfl rfl rfl rfl ?_
          refine zL (r := ptr [i64 a0, sl a1.length (a1.map i64), sl a2.length (a2.map i64), sl a3.length (a3.map f32)]) rfl rfl rfl (LOp.nilCheck_ptr rfl rfl) ?_
          refine zL (r := ptr [i64 a0, sl a1.length (a1.map i64), sl a2.length (a2.map i64), sl a3.length (a3.map f32)]) rfl rfl rfl (LOp.fap und30 rfl siz2 rfl rfl rfl) ?_
          refine zL (r := i64 a0) rfl rfl rfl (LOp.load1 agg2 rfl rfl) ?_
          refine zL (r := b false) rfl rfl rfl (LOp.eqb (LOp.lss rfl rfl rfl) hc13) ?_
          refine zN ?_
          refine RunC.cond_false rfl rfl ?_
          refine RunC.exit ?_
          cases Option.some.inj h8_
          have hx := ho8 _ rfl
          exact ⟨trivial, trivial, hx⟩
        ·rintro τ18 Γ18 ⟨hw18, hd18, rfl⟩
         refine RunC.wl hw18 hd18 ?_
         replace h : s_l05Is_k7 = some q0 := h
         unfold s_l05Is_k7 at h
         refine zQ ?_
         refine zA (r := b true) rfl rfl rfl rfl rfl ?_
         refine zN ?_
         refine RunC.ret ?_
         have hq := Option.some.inj h
         subst q0
         exact bodyQ.pure (.inr rfl) rfl (Res.one rfl (RV.tmp rfl))
     ·refine RunC.region_draw (Γ' := []) 40 mixed 
       (TR.l (r := ptr [i64 a0, sl a1.length (a1.map i64), sl a2.length (a2.map i64), sl a3.length (a3.map f32)]) rfl rfl (LOp.move rfl rfl) <|
       (TR.l (r := ptr [i64 a0, sl a1.length (a1.map i64), sl a2.length (a2.map i64), sl a3.length (a3.map f32)]) rfl rfl (LOp.nilCheck_ptr rfl rfl) <|
       (TR.l (r := ptr [i64 a0, sl a1.length (a1.map i64), sl a2.length (a2.map i64), sl a3.length (a3.map f32)]) rfl rfl (LOp.fap und30 rfl siz2 rfl rfl rfl) <|
       (TR.l (r := i64 a0) rfl rfl (LOp.load1 agg2 rfl rfl) <|
       (TR.d (r := b true) (fs := []) rfl rfl (TOp.eqb (TOp.callB (CallAs.func ent32 rfl rfl) (Bors.cons (Bor.pure rfl) (Bors.cons (Bor.pure rfl) (Bors.cons (Bor.pure rfl) Bors.nil))) rfl rfl (s_l00In_ok a0 1 32 r1 hf1)) hc2) <|
       (TR.l (r := b false) rfl rfl (LOp.eqb (LOp.not rfl rfl) rfl) <|
       (TR.l (r := b false) rfl rfl (LOp.move rfl rfl) <|
       (TR.l (r := ptr [i64 a0, sl a1.length (a1.map i64), sl a2.length (a2.map i64), sl a3.length (a3.map f32)]) rfl rfl (LOp.move rfl rfl) <|
       (TR.l (r := ptr [i64 a0, sl a1.length (a1.map i64), sl a2.length (a2.map i64), sl a3.length (a3.map f32)]) rfl rfl (LOp.nilCheck_ptr rfl rfl) <|
       (TR.l (r := ptr [sl a1.length (a1.map i64), sl a2.length (a2.map i64), sl a3.length (a3.map f32)]) rfl rfl (LOp.fap und30 rfl siz22 rfl rfl rfl) <|
       (TR.l (r := sl a1.length (a1.map i64)) rfl rfl (LOp.load1 agg22 rfl rfl) <|
       (TR.l (r := i64 (a1.length : Int)) rfl rfl (LOp.len_sl und22 rfl rfl) <|
       (TR.l (r := ptr [i64 a0, sl a1.length (a1.map i64), sl a2.length (a2.map i64), sl a3.length (a3.map f32)]) rfl rfl (LOp.move rfl rfl) <|
       (TR.l (r := ptr [i64 a0, sl a1.length (a1.map i64), sl a2.length (a2.map i64), sl a3.length (a3.map f32)]) rfl rfl (LOp.nilCheck_ptr rfl rfl) <|
       (TR.l (r := ptr [i64 a0, sl a1.length (a1.map i64), sl a2.length (a2.map i64), sl a3.length (a3.map f32)]) rfl rfl (LOp.fap und30 rfl siz2 rfl rfl rfl) <|
       (TR.l (r := i64 a0) rfl rfl (LOp.load1 agg2 rfl rfl) <|
       (TR.l (r := i64 x2) rfl rfl (LOp.eqr (LOp.add rfl rfl rfl) (congrArg (ik .i64) hx3)) <|
       (TR.l (r := b false) rfl rfl (LOp.eqb (LOp.neq rfl rfl rfl) hc4) <|
       (TR.l (r := b false) rfl rfl (LOp.pick_false rfl rfl rfl) <|
       (TR.l (r := b false) rfl rfl (LOp.move rfl rfl) <|
       (TR.l (r := i64 (a2.length : Int)) rfl rfl (LOp.move rfl rfl) <|
       (TR.l (r := b false) rfl rfl (LOp.eqb (LOp.gtr rfl rfl rfl) hc5) <|
       (TR.l (r := b false) rfl rfl (LOp.pick_false rfl rfl rfl) <|
       (TR.l (r := b false) rfl rfl (LOp.move rfl rfl) <|
       (TR.l (r := ptr [i64 a0, sl a1.length (a1.map i64), sl a2.length (a2.map i64), sl a3.length (a3.map f32)]) rfl rfl (LOp.move rfl rfl) <|
       (TR.l (r := ptr [i64 a0, sl a1.length (a1.map i64), sl a2.length (a2.map i64), sl a3.length (a3.map f32)]) rfl rfl (LOp.nilCheck_ptr rfl rfl) <|
       (TR.l (r := ptr [sl a3.length (a3.map f32)]) rfl rfl (LOp.fap und30 rfl siz23 rfl rfl rfl) <|
       (TR.l (r := sl a3.length (a3.map f32)) rfl rfl (LOp.load1 agg23 rfl rfl) <|
       (TR.l (r := i64 (a3.length : Int)) rfl rfl (LOp.len_sl und23 rfl rfl) <|
       (TR.l (r := i64 (a2.length : Int)) rfl rfl (LOp.move rfl rfl) <|
       (TR.l (r := b false) rfl rfl (LOp.eqb (LOp.neq rfl rfl rfl) hc6) <|
       (TR.l (r := b false) rfl rfl (LOp.pick_false rfl rfl rfl) <|
       (TR.l (r := b false) rfl rfl (LOp.move rfl rfl) <|
       (TR.l (r := ptr [i64 a0, sl a1.length (a1.map i64), sl a2.length (a2.map i64), sl a3.length (a3.map f32)]) rfl rfl (LOp.move rfl rfl) <|
       (TR.l (r := ptr [i64 a0, sl a1.length (a1.map i64), sl a2.length (a2.map i64), sl a3.length (a3.map f32)]) rfl rfl (LOp.nilCheck_ptr rfl rfl) <|
       (TR.l (r := ptr [sl a3.length (a3.map f32)]) rfl rfl (LOp.fap und30 rfl siz23 rfl rfl rfl) <|
       (TR.l (r := sl a3.length (a3.map f32)) rfl rfl (LOp.load1 agg23 rfl rfl) <|
       (TR.d (r := b false) (fs := []) rfl rfl (TOp.eqb (TOp.callB (CallAs.func ent78 rfl rfl) (Bors.cons (Bor.sl (fun _ => rfl)) Bors.nil) rfl rfl (s_l02Finite_ok a3 r3 hf7)) hc8) <|
       (TR.l (r := b true) rfl rfl (LOp.eqb (LOp.not rfl rfl) rfl) <|
       (TR.l (r := b true) rfl rfl (LOp.pick_false rfl rfl rfl) <|
       TR.nil)))))))))))))))))))))))))))))))))))))))) rfl (by kernel_rfl) rfl fills_nil rfl ?_
      iterate 40 refine ROps.dropS ?_
      refine ROps.drop0 ?_
      refine zN ?_
      refine RunC.cond_true rfl rfl ?_
      refine zQ ?_
      refine zA (r := b false) rfl rfl rfl rfl rfl ?_
      refine zN ?_
      refine RunC.ret ?_
      have hq := Option.some.inj h
      subst q0
      exact bodyQ.pure (.inr rfl) rfl (Res.one rfl (RV.tmp rfl))
 ·refine RunC.region_draw (Γ' := []) 40 mixed 
   (TR.l (r := ptr [i64 a0, sl a1.length (a1.map i64), sl a2.length (a2.map i64), sl a3.length (a3.map f32)]) rfl rfl (LOp.move rfl rfl) <|
   (TR.l (r := ptr [i64 a0, sl a1.length (a1.map i64), sl a2.length (a2.map i64), sl a3.length (a3.map f32)]) rfl rfl (LOp.nilCheck_ptr rfl rfl) <|
   (TR.l (r := ptr [i64 a0, sl a1.length (a1.map i64), sl a2.length (a2.map i64), sl a3.length (a3.map f32)]) rfl rfl (LOp.fap und30 rfl siz2 rfl rfl rfl) <|
   (TR.l (r := i64 a0) rfl rfl (LOp.load1 agg2 rfl rfl) <|
   (TR.d (r := b false) (fs := []) rfl rfl (TOp.eqb (TOp.callB (CallAs.func ent32 rfl rfl) (Bors.cons (Bor.pure rfl) (Bors.cons (Bor.pure rfl) (Bors.cons (Bor.pure rfl) Bors.nil))) rfl rfl (s_l00In_ok a0 1 32 r1 hf1)) hc2) <|
   (TR.l (r := b true) rfl rfl (LOp.eqb (LOp.not rfl rfl) rfl) <|
   (TR.l (r := b true) rfl rfl (LOp.move rfl rfl) <|
   (TR.s rfl rfl <|
   (TR.s rfl rfl <|
   (TR.s rfl rfl <|
   (TR.s rfl rfl <|
   (TR.s rfl rfl <|
   (TR.s rfl rfl <|
   (TR.s rfl rfl <|
   (TR.s rfl rfl <|
   (TR.s rfl rfl <|
   (TR.s rfl rfl <|
   (TR.s rfl rfl <|
   (TR.l (r := b true) rfl rfl (LOp.pick_true rfl rfl rfl) <|
   (TR.l (r := b true) rfl rfl (LOp.move rfl rfl) <|
   (TR.s rfl rfl <|
   (TR.s rfl rfl <|
   (TR.l (r := b true) rfl rfl (LOp.pick_true rfl rfl rfl) <|
   (TR.l (r := b true) rfl rfl (LOp.move rfl rfl) <|
   (TR.s rfl rfl <|
   (TR.s rfl rfl <|
   (TR.s rfl rfl <|
   (TR.s rfl rfl <|
   (TR.s rfl rfl <|
   (TR.s rfl rfl <|
   (TR.s rfl rfl <|
   (TR.l (r := b true) rfl rfl (LOp.pick_true rfl rfl rfl) <|
   (TR.l (r := b true) rfl rfl (LOp.move rfl rfl) <|
   (TR.s rfl rfl <|
   (TR.s rfl rfl <|
   (TR.s rfl rfl <|
   (TR.s rfl rfl <|
   (TR.s rfl rfl <|
   (TR.s rfl rfl <|
   (TR.l (r := b true) rfl rfl (LOp.pick_true rfl rfl rfl) <|
   TR.nil)))))))))))))))))))))))))))))))))))))))) rfl (by kernel_rfl) rfl fills_nil rfl ?_
  iterate 40 refine ROps.dropS ?_
  refine ROps.drop0 ?_
  refine zN ?_
  refine RunC.cond_true rfl rfl ?_
  refine zQ ?_
  refine zA (r := b false) rfl rfl rfl rfl rfl ?_
  refine zN ?_
  refine RunC.ret ?_
  have hq := Option.some.inj h
  subst q0
  exact bodyQ.pure (.inr rfl) rfl (Res.one rfl (RV.tmp rfl))
noncomputable def s_l05Fits (a0 : Int) (a1 : List Int) (a2 : List Int) (a3 : List F) (a4 : List F) : Option (Bool) :=
 obind (s_l05Is a0 a1 a2 a3) fun (r1 : Bool) =>
 bsel r1 (
  bsel (decide ((a4.length : Int) = a0)) (
   obind (s_l02Finite a4) fun (r2 : Bool) =>
   some r2) (
   some false)) (
  some false)
theorem s_l05Fits_ok (a0 : Int) (a1 : List Int) (a2 : List Int) (a3 : List F) (a4 : List F) (q0 : Bool) (h : s_l05Fits a0 a1 a2 a3 a4 = some q0) : Ev Try.prog 30 [ptr [i64 a0, sl a1.length (a1.map i64), sl a2.length (a2.map i64), sl a3.length (a3.map f32)], sl a4.length (a4.map f32)] [] (b q0) [] := by
 refine Ev.start Try.func30 rfl rfl 0 (τ := [(0, ptr [i64 a0, sl a1.length (a1.map i64), sl a2.length (a2.map i64), sl a3.length (a3.map f32)]), (1, sl a4.length (a4.map f32))]) rfl (Γ' := []) rfl (n := 41) rfl (g := 0) rfl (fun _ => rfl) ?_
 unfold s_l05Fits at h
 refine zQ ?_
 refine zA (r := b false) rfl rfl rfl rfl rfl ?_
 refine zN ?_
 refine RunC.seq ?_
 obtain ⟨r1, hf1, h⟩ := obind_some h
 rcases bsel_some h with ⟨hc2, h⟩ | ⟨hc2, h⟩
 ·rcases bsel_some h with ⟨hc3, h⟩ | ⟨hc3, h⟩
  ·obtain ⟨r2, hf4, h⟩ := obind_some h
   refine RunC.regionW ?_
   refine zM (r := ptr [i64 a0, sl a1.length (a1.map i64), sl a2.length (a2.map i64), sl a3.length (a3.map f32)]) rfl rfl rfl rfl rfl ?_
   refine ROps.d (r := b true) (fs := []) (Γ' := []) rfl rfl rfl (TOp.eqb (TOp.callB (CallAs.func ent77 rfl rfl) (Bors.cons (Bor.ptr (Bors.cons (Bor.pure rfl) (Bors.cons (Bor.sl (fun _ => rfl)) (Bors.cons (Bor.sl (fun _ => rfl)) (Bors.cons (Bor.sl (fun _ => rfl)) Bors.nil))))) Bors.nil) rfl rfl (s_l05Is_ok a0 a1 a2 a3 r1 hf1)) hc2) rfl ?_
   refine zM (r := b true) rfl rfl rfl rfl rfl ?_
   refine zM (r := sl a4.length (a4.map f32)) rfl rfl rfl rfl rfl ?_
   refine zL (r := i64 (a4.length : Int)) rfl rfl rfl (LOp.len_sl und23 rfl rfl) ?_
   refine zM (r := ptr [i64 a0, sl a1.length (a1.map i64), sl a2.length (a2.map i64), sl a3.length (a3.map f32)]) rfl rfl rfl rfl rfl ?_
   refine zL (r := ptr [i64 a0, sl a1.length (a1.map i64), sl a2.length (a2.map i64), sl a3.length (a3.map f32)]) rfl rfl rfl (LOp.nilCheck_ptr rfl rfl) ?_
   refine zL (r := ptr [i64 a0, sl a1.length (a1.map i64), sl a2.length (a2.map i64), sl a3.length (a3.map f32)]) rfl rfl rfl (LOp.fap und30 rfl siz2 rfl rfl rfl) ?_
   refine zL (r := i64 a0) rfl rfl rfl (LOp.load1 agg2 rfl rfl) ?_
   refine zL (r := b true) rfl rfl rfl (LOp.eqb (LOp.eql rfl rfl rfl) hc3) ?_
   refine zL (r := b true) rfl rfl rfl (LOp.pick_true rfl rfl rfl) ?_
   refine zM (r := b true) rfl rfl rfl rfl rfl ?_
   refine zM (r := sl a4.length (a4.map f32)) rfl rfl rfl rfl rfl ?_
   refine ROps.d (r := b r2) (fs := []) (Γ' := []) rfl rfl rfl (TOp.callB (CallAs.func ent78 rfl rfl) (Bors.cons (Bor.sl (fun _ => rfl)) Bors.nil) rfl rfl (s_l02Finite_ok a4 r2 hf4)) rfl ?_
   refine zL (r := b r2) rfl rfl rfl (LOp.pick_true rfl rfl rfl) ?_
   refine zA (r := b r2) rfl rfl rfl rfl rfl ?_
   refine zN ?_
   refine RunC.ret ?_
   have hq := Option.some.inj h
   subst q0
   exact bodyQ.pure (.inr rfl) rfl (Res.one rfl (RV.tmp rfl))
  ·refine RunC.regionW ?_
   refine zM (r := ptr [i64 a0, sl a1.length (a1.map i64), sl a2.length (a2.map i64), sl a3.length (a3.map f32)]) rfl rfl rfl rfl rfl ?_
   refine ROps.d (r := b true) (fs := []) (Γ' := []) rfl rfl rfl (TOp.eqb (TOp.callB (CallAs.func ent77 rfl rfl) (Bors.cons (Bor.ptr (Bors.cons (Bor.pure rfl) (Bors.cons (Bor.sl (fun _ => rfl)) (Bors.cons (Bor.sl (fun _ => rfl)) (Bors.cons (Bor.sl (fun _ => rfl)) Bors.nil))))) Bors.nil) rfl rfl (s_l05Is_ok a0 a1 a2 a3 r1 hf1)) hc2) rfl ?_
   refine zM (r := b true) rfl rfl rfl rfl rfl ?_
   refine zM (r := sl a4.length (a4.map f32)) rfl rfl rfl rfl rfl ?_
   refine zL (r := i64 (a4.length : Int)) rfl rfl rfl (LOp.len_sl und23 rfl rfl) ?_
   refine zM (r := ptr [i64 a0, sl a1.length (a1.map i64), sl a2.length (a2.map i64), sl a3.length (a3.map f32)]) rfl rfl rfl rfl rfl ?_
   refine zL (r := ptr [i64 a0, sl a1.length (a1.map i64), sl a2.length (a2.map i64), sl a3.length (a3.map f32)]) rfl rfl rfl (LOp.nilCheck_ptr rfl rfl) ?_
   refine zL (r := ptr [i64 a0, sl a1.length (a1.map i64), sl a2.length (a2.map i64), sl a3.length (a3.map f32)]) rfl rfl rfl (LOp.fap und30 rfl siz2 rfl rfl rfl) ?_
   refine zL (r := i64 a0) rfl rfl rfl (LOp.load1 agg2 rfl rfl) ?_
   refine zL (r := b false) rfl rfl rfl (LOp.eqb (LOp.eql rfl rfl rfl) hc3) ?_
   refine zL (r := b false) rfl rfl rfl (LOp.pick_true rfl rfl rfl) ?_
   refine zM (r := b false) rfl rfl rfl rfl rfl ?_
   refine ROps.s rfl rfl rfl ?_
   refine ROps.s rfl rfl rfl ?_
   refine zL (r := b false) rfl rfl rfl (LOp.pick_false rfl rfl rfl) ?_
   refine zA (r := b false) rfl rfl rfl rfl rfl ?_
   refine zN ?_
   refine RunC.ret ?_
   have hq := Option.some.inj h
   subst q0
   exact bodyQ.pure (.inr rfl) rfl (Res.one rfl (RV.tmp rfl))
 ·refine RunC.regionW ?_
  refine zM (r := ptr [i64 a0, sl a1.length (a1.map i64), sl a2.length (a2.map i64), sl a3.length (a3.map f32)]) rfl rfl rfl rfl rfl ?_
  refine ROps.d (r := b false) (fs := []) (Γ' := []) rfl rfl rfl (TOp.eqb (TOp.callB (CallAs.func ent77 rfl rfl) (Bors.cons (Bor.ptr (Bors.cons (Bor.pure rfl) (Bors.cons (Bor.sl (fun _ => rfl)) (Bors.cons (Bor.sl (fun _ => rfl)) (Bors.cons (Bor.sl (fun _ => rfl)) Bors.nil))))) Bors.nil) rfl rfl (s_l05Is_ok a0 a1 a2 a3 r1 hf1)) hc2) rfl ?_
  refine zM (r := b false) rfl rfl rfl rfl rfl ?_
  refine ROps.s rfl rfl rfl ?_
  refine ROps.s rfl rfl rfl ?_
  refine ROps.s rfl rfl rfl ?_
  refine ROps.s rfl rfl rfl ?_
  refine ROps.s rfl rfl rfl ?_
  refine ROps.s rfl rfl rfl ?_
  refine ROps.s rfl rfl rfl ?_
  refine zL (r := b false) rfl rfl rfl (LOp.pick_false rfl rfl rfl) ?_
  refine zM (r := b false) rfl rfl rfl rfl rfl ?_
  refine ROps.s rfl rfl rfl ?_
  refine ROps.s rfl rfl rfl ?_
  refine zL (r := b false) rfl rfl rfl (LOp.pick_false rfl rfl rfl) ?_
  refine zA (r := b false) rfl rfl rfl rfl rfl ?_
  refine zN ?_
  refine RunC.ret ?_
  have hq := Option.some.inj h
  subst q0
  exact bodyQ.pure (.inr rfl) rfl (Res.one rfl (RV.tmp rfl))
noncomputable def s_l05Lower_b1 (a0 : Int) (a1 : List Int) (a2 : List Int) (a3 : List F) (v1 : Int) : Option (LR (Int) (Unit) (Bool)) :=
 bsel (decide (v1 < a0)) (
  olet (IntKind.i64.wrap (v1 + 1)) fun (x2 : Int) =>
  obind (at? a1 x2) fun (e3 : Int) =>
  olet (IntKind.i64.wrap (e3 - 1)) fun (x4 : Int) =>
  obind (at? a1 v1) fun (e5 : Int) =>
  bsel (decide (x4 < e5)) (
   some (LR.ret false)) (
   obind (at? a2 x4) fun (e6 : Int) =>
   bsel (!decide (e6 = v1)) (
    some (LR.ret false)) (
    obind (at? a3 x4) fun (e7 : F) =>
    bsel (flt .f32 (some 0) e7) (
     olet (IntKind.i64.wrap (v1 + 1)) fun (x8 : Int) =>
     some (LR.next x8)) (
     some (LR.ret false))))) (
  some (LR.out ()))
noncomputable def s_l05Lower_s1 (a0 : Int) (a1 : List Int) (a2 : List Int) (a3 : List F) : (Int) → Option (LR (Int) (Unit) (Bool)) := fun s => s_l05Lower_b1 a0 a1 a2 a3 s
noncomputable def s_l05Lower_k1  : Option (Bool) :=
 some true
noncomputable def s_l05Lower (a0 : Int) (a1 : List Int) (a2 : List Int) (a3 : List F) : Option (Bool) :=
 obind (loopM (s_l05Lower_s1 a0 a1 a2 a3) 0) fun z => osum z (fun _ => s_l05Lower_k1) (fun r => some r)
theorem s_l05Lower_ok (a0 : Int) (a1 : List Int) (a2 : List Int) (a3 : List F) (q0 : Bool) (h : s_l05Lower a0 a1 a2 a3 = some q0) : Ev Try.prog 41 [ptr [i64 a0, sl a1.length (a1.map i64), sl a2.length (a2.map i64), sl a3.length (a3.map f32)]] [] (b q0) [] := by
 refine Ev.start Try.func41 rfl rfl 0 (τ := [(0, ptr [i64 a0, sl a1.length (a1.map i64), sl a2.length (a2.map i64), sl a3.length (a3.map f32)])]) rfl (Γ' := []) rfl (n := 107) rfl (g := 0) rfl (fun _ => rfl) ?_
 unfold s_l05Lower at h
 refine zQ ?_
 refine zA (r := b false) rfl rfl rfl rfl rfl ?_
 refine zN ?_
 refine RunC.seq ?_
 refine zQ ?_
 refine zA (r := i64 0) rfl rfl rfl rfl rfl ?_
 refine zN ?_
 obtain ⟨z2, hz_2, h⟩ := obind_some h
 refine RunC.cutN (fun τ Γ => WeakLe τ [] ∧ DeadLe Γ [] ∧ z2 = .inl ()) ?_ ?_
 ·refine RunC.block (RunC.loop (RunL.loopM (x := z2) (s_l05Lower_s1 a0 a1 a2 a3) (fun (s : Int) τ Γ => WeakLe τ [(0, ptr [i64 a0, sl a1.length (a1.map i64), sl a2.length (a2.map i64), sl a3.length (a3.map f32)]), (3, i64 s)] ∧ DeadLe Γ []) ?_ _ _ _ hz_2 ⟨⟨aR, aR, trivial⟩, trivial⟩))
  rintro v1 τ2 Γ2 y2_ ⟨hw2, hd2⟩ h2_ ho2 hr2
  refine RunC.wl (τ' := [(0, ptr [i64 a0, sl a1.length (a1.map i64), sl a2.length (a2.map i64), sl a3.length (a3.map f32)]), (3, i64 v1)]) (Γ' := []) hw2 hd2 ?_
  replace h2_ : s_l05Lower_b1 a0 a1 a2 a3 v1 = some y2_ := h2_
  unfold s_l05Lower_b1 at h2_
  refine RunC.seq ?_
  refine RunC.seq ?_
  rcases bsel_some h2_ with ⟨hc1, h2_⟩ | ⟨hc1, h2_⟩
  ·refine RunC.regionW ?_
   refine zM (r := i64 v1) rfl rfl rfl rfl rfl ?_
   refine zM (r := ptr [i64 a0, sl a1.length (a1.map i64), sl a2.length (a2.map i64), sl a3.length (a3.map f32)]) rfl rfl rfl rfl rfl ?_
   refine zL (r := ptr [i64 a0, sl a1.length (a1.map i64), sl a2.length (a2.map i64), sl a3.length (a3.map f32)]) rfl rfl rfl (LOp.nilCheck_ptr rfl rfl) ?_
   refine zL (r := ptr [i64 a0, sl a1.length (a1.map i64), sl a2.length (a2.map i64), sl a3.length (a3.map f32)]) rfl rfl rfl (LOp.fap und30 rfl siz2 rfl rfl rfl) ?_
   refine zL (r := i64 a0) rfl rfl rfl (LOp.load1 agg2 rfl rfl) ?_
   refine zL (r := b true) rfl rfl rfl (LOp.eqb (LOp.lss rfl rfl rfl) hc1) ?_
   refine zN ?_
   refine RunC.cond_true rfl rfl ?_
   refine RunC.skip ?_
   refine RunC.seq ?_
   refine RunC.block ?_
   refine RunC.seq ?_
   obtain ⟨x2, hx2, h2_⟩ := olet_some h2_
   obtain ⟨e3, he3, h2_⟩ := obind_some h2_
   obtain ⟨x4, hx4, h2_⟩ := olet_some h2_
   refine RunC.regionW ?_
   refine zM (r := ptr [i64 a0, sl a1.length (a1.map i64), sl a2.length (a2.map i64), sl a3.length (a3.map f32)]) rfl rfl rfl rfl rfl ?_
   refine zL (r := ptr [i64 a0, sl a1.length (a1.map i64), sl a2.length (a2.map i64), sl a3.length (a3.map f32)]) rfl rfl rfl (LOp.nilCheck_ptr rfl rfl) ?_
   refine zL (r := ptr [sl a1.length (a1.map i64), sl a2.length (a2.map i64), sl a3.length (a3.map f32)]) rfl rfl rfl (LOp.fap und30 rfl siz22 rfl rfl rfl) ?_
   refine zL (r := sl a1.length (a1.map i64)) rfl rfl rfl (LOp.load1 agg22 rfl rfl) ?_
   refine zM (r := i64 v1) rfl rfl rfl rfl rfl ?_
   refine zL (r := i64 x2) rfl rfl rfl (LOp.eqr (LOp.add rfl rfl rfl) (congrArg (ik .i64) hx2)) ?_
   refine zL (r := ptr [i64 e3]) rfl rfl rfl (LOp.le (LOp.ix (f := i64) und22 siz2 rfl rfl rfl rfl he3) ALe.ptr) ?_
   refine zL (r := i64 e3) rfl rfl rfl (LOp.load1 agg2 rfl rfl) ?_
   refine zL (r := i64 x4) rfl rfl rfl (LOp.eqr (LOp.sub rfl rfl rfl) (congrArg (ik .i64) hx4)) ?_
   refine zA (r := i64 x4) rfl rfl rfl rfl rfl ?_
   refine zN ?_
   refine RunC.seq ?_
   obtain ⟨e5, he5, h2_⟩ := obind_some h2_
   rcases bsel_some h2_ with ⟨hc6, h2_⟩ | ⟨hc6, h2_⟩
   ·refine RunC.regionW ?_
    refine zM (r := i64 x4) rfl rfl rfl rfl rfl ?_
    refine zM (r := ptr [i64 a0, sl a1.length (a1.map i64), sl a2.length (a2.map i64), sl a3.length (a3.map f32)]) rfl rfl rfl rfl rfl ?_
    refine zL (r := ptr [i64 a0, sl a1.length (a1.map i64), sl a2.length (a2.map i64), sl a3.length (a3.map f32)]) rfl rfl rfl (LOp.nilCheck_ptr rfl rfl) ?_
    refine zL (r := ptr [sl a1.length (a1.map i64), sl a2.length (a2.map i64), sl a3.length (a3.map f32)]) rfl rfl rfl (LOp.fap und30 rfl siz22 rfl rfl rfl) ?_
    refine zL (r := sl a1.length (a1.map i64)) rfl rfl rfl (LOp.load1 agg22 rfl rfl) ?_
    refine zM (r := i64 v1) rfl rfl rfl rfl rfl ?_
    refine zL (r := ptr [i64 e5]) rfl rfl rfl (LOp.le (LOp.ix (f := i64) und22 siz2 rfl rfl rfl rfl he5) ALe.ptr) ?_
    refine zL (r := i64 e5) rfl rfl rfl (LOp.load1 agg2 rfl rfl) ?_
    refine zL (r := b true) rfl rfl rfl (LOp.eqb (LOp.lss rfl rfl rfl) hc6) ?_
    refine zM (r := b true) rfl rfl rfl rfl rfl ?_
    refine ROps.s rfl rfl rfl ?_
    refine ROps.s rfl rfl rfl ?_
    refine ROps.s rfl rfl rfl ?_
    refine ROps.s rfl rfl rfl ?_
    refine ROps.s rfl rfl rfl ?_
    refine ROps.s rfl rfl rfl ?_
    refine ROps.s rfl rfl rfl ?_
    refine ROps.s rfl rfl rfl ?_
    refine ROps.s rfl rfl rfl ?_
    refine zL (r := b true) rfl rfl rfl (LOp.pick_true rfl rfl rfl) ?_
    refine zM (r := b true) rfl rfl rfl rfl rfl ?_
    refine ROps.s rfl rfl rfl ?_
    refine ROps.s rfl rfl rfl ?_
    refine ROps.s rfl rfl rfl ?_
    refine ROps.s rfl rfl rfl ?_
    refine ROps.s rfl rfl rfl ?_
    refine ROps.s rfl rfl rfl ?_
    refine ROps.s rfl rfl rfl ?_
    refine ROps.s rfl rfl rfl ?_
    refine ROps.s rfl rfl rfl ?_
    refine zL (r := b true) rfl rfl rfl (LOp.pick_true rfl rfl rfl) ?_
    refine zN ?_
    refine RunC.wl (τ' := [(0, ptr [i64 a0, sl a1.length (a1.map i64), sl a2.length (a2.map i64), sl a3.length (a3.map f32)]), (3, i64 v1), (52, b true)]) (Γ' := []) ⟨aR, aR, aR, trivial⟩ trivial ?_
    refine RunC.cond_true rfl rfl ?_
    refine zQ ?_
    refine zA (r := b false) rfl rfl rfl rfl rfl ?_
    refine zN ?_
    refine RunC.ret ?_
    cases Option.some.inj h2_
    have hx3_ := hr2 _ rfl
    subst hx3_
    have hq := Option.some.inj h
    subst q0
    exact bodyQ.pure (.inr rfl) rfl (Res.one rfl (RV.tmp rfl))
   ·obtain ⟨e6, he7, h2_⟩ := obind_some h2_
    rcases bsel_some h2_ with ⟨hc8, h2_⟩ | ⟨hc8, h2_⟩
    ·refine RunC.regionW ?_
     refine zM (r := i64 x4) rfl rfl rfl rfl rfl ?_
     refine zM (r := ptr [i64 a0, sl a1.length (a1.map i64), sl a2.length (a2.map i64), sl a3.length (a3.map f32)]) rfl rfl rfl rfl rfl ?_
     refine zL (r := ptr [i64 a0, sl a1.length (a1.map i64), sl a2.length (a2.map i64), sl a3.length (a3.map f32)]) rfl rfl rfl (LOp.nilCheck_ptr rfl rfl) ?_
     refine zL (r := ptr [sl a1.length (a1.map i64), sl a2.length (a2.map i64), sl a3.length (a3.map f32)]) rfl rfl rfl (LOp.fap und30 rfl siz22 rfl rfl rfl) ?_
     refine zL (r := sl a1.length (a1.map i64)) rfl rfl rfl (LOp.load1 agg22 rfl rfl) ?_
     refine zM (r := i64 v1) rfl rfl rfl rfl rfl ?_
     refine zL (r := ptr [i64 e5]) rfl rfl rfl (LOp.le (LOp.ix (f := i64) und22 siz2 rfl rfl rfl rfl he5) ALe.ptr) ?_
     refine zL (r := i64 e5) rfl rfl rfl (LOp.load1 agg2 rfl rfl) ?_
     refine zL (r := b false) rfl rfl rfl (LOp.eqb (LOp.lss rfl rfl rfl) hc6) ?_
     refine zM (r := b false) rfl rfl rfl rfl rfl ?_
     refine zM (r := ptr [i64 a0, sl a1.length (a1.map i64), sl a2.length (a2.map i64), sl a3.length (a3.map f32)]) rfl rfl rfl rfl rfl ?_
     refine zL (r := ptr [i64 a0, sl a1.length (a1.map i64), sl a2.length (a2.map i64), sl a3.length (a3.map f32)]) rfl rfl rfl (LOp.nilCheck_ptr rfl rfl) ?_
     refine zL (r := ptr [sl a2.length (a2.map i64), sl a3.length (a3.map f32)]) rfl rfl rfl (LOp.fap und30 rfl siz22 rfl rfl rfl) ?_
     refine zL (r := sl a2.length (a2.map i64)) rfl rfl rfl (LOp.load1 agg22 rfl rfl) ?_
     refine zM (r := i64 x4) rfl rfl rfl rfl rfl ?_
     refine zL (r := ptr [i64 e6]) rfl rfl rfl (LOp.le (LOp.ix (f := i64) und22 siz2 rfl rfl rfl rfl he7) ALe.ptr) ?_
     refine zL (r := i64 e6) rfl rfl rfl (LOp.load1 agg2 rfl rfl) ?_
     refine zM (r := i64 v1) rfl rfl rfl rfl rfl ?_
     refine zL (r := b true) rfl rfl rfl (LOp.eqb (LOp.neq rfl rfl rfl) hc8) ?_
     refine zL (r := b true) rfl rfl rfl (LOp.pick_false rfl rfl rfl) ?_
     refine zM (r := b true) rfl rfl rfl rfl rfl ?_
     refine ROps.s rfl rfl rfl ?_
     refine ROps.s rfl rfl rfl ?_
     refine ROps.s rfl rfl rfl ?_
     refine ROps.s rfl rfl rfl ?_
     refine ROps.s rfl rfl rfl ?_
     refine ROps.s rfl rfl rfl ?_
     refine ROps.s rfl rfl rfl ?_
     refine ROps.s rfl rfl rfl ?_
     refine ROps.s rfl rfl rfl ?_
     refine zL (r := b true) rfl rfl rfl (LOp.pick_true rfl rfl rfl) ?_
     refine zN ?_
     refine RunC.wl (τ' := [(0, ptr [i64 a0, sl a1.length (a1.map i64), sl a2.length (a2.map i64), sl a3.length (a3.map f32)]), (3, i64 v1), (32, ptr [i64 a0, sl a1.length (a1.map i64), sl a2.length (a2.map i64), sl a3.length (a3.map f32)]), (33, ptr [i64 a0, sl a1.length (a1.map i64), sl a2.length (a2.map i64), sl a3.length (a3.map f32)]), (34, ptr [sl a2.length (a2.map i64), sl a3.length (a3.map f32)]), (35, sl a2.length (a2.map i64)), (36, i64 x4), (37, ptr [i64 e6]), (38, i64 e6), (39, i64 v1), (40, b true), (52, b true)]) (Γ' := []) ⟨aR, aR, aR, aR, aR, aR, aR, aR, aR, aR, aR, aR, trivial⟩ trivial ?_
     refine RunC.cond_true rfl rfl ?_
     refine zQ ?_
     refine zA (r := b false) rfl rfl rfl rfl rfl ?_
     refine zN ?_
     refine RunC.ret ?_
     cases Option.some.inj h2_
     have hx4_ := hr2 _ rfl
     subst hx4_
     have hq := Option.some.inj h
     subst q0
     exact bodyQ.pure (.inr rfl) rfl (Res.one rfl (RV.tmp rfl))
    ·obtain ⟨e7, he9, h2_⟩ := obind_some h2_
     rcases bsel_some h2_ with ⟨hc10, h2_⟩ | ⟨hc10, h2_⟩
     ·refine RunC.regionW ?_
      refine zM (r := i64 x4) rfl rfl rfl rfl rfl ?_
      refine zM (r := ptr [i64 a0, sl a1.length (a1.map i64), sl a2.length (a2.map i64), sl a3.length (a3.map f32)]) rfl rfl rfl rfl rfl ?_
      refine zL (r := ptr [i64 a0, sl a1.length (a1.map i64), sl a2.length (a2.map i64), sl a3.length (a3.map f32)]) rfl rfl rfl (LOp.nilCheck_ptr rfl rfl) ?_
      refine zL (r := ptr [sl a1.length (a1.map i64), sl a2.length (a2.map i64), sl a3.length (a3.map f32)]) rfl rfl rfl (LOp.fap und30 rfl siz22 rfl rfl rfl) ?_
      refine zL (r := sl a1.length (a1.map i64)) rfl rfl rfl (LOp.load1 agg22 rfl rfl) ?_
      refine zM (r := i64 v1) rfl rfl rfl rfl rfl ?_
      refine zL (r := ptr [i64 e5]) rfl rfl rfl (LOp.le (LOp.ix (f := i64) und22 siz2 rfl rfl rfl rfl he5) ALe.ptr) ?_
      refine zL (r := i64 e5) rfl rfl rfl (LOp.load1 agg2 rfl rfl) ?_
      refine zL (r := b false) rfl rfl rfl (LOp.eqb (LOp.lss rfl rfl rfl) hc6) ?_
      refine zM (r := b false) rfl rfl rfl rfl rfl ?_
      refine zM (r := ptr [i64 a0, sl a1.length (a1.map i64), sl a2.length (a2.map i64), sl a3.length (a3.map f32)]) rfl rfl rfl rfl rfl ?_
      refine zL (r := ptr [i64 a0, sl a1.length (a1.map i64), sl a2.length (a2.map i64), sl a3.length (a3.map f32)]) rfl rfl rfl (LOp.nilCheck_ptr rfl rfl) ?_
      refine zL (r := ptr [sl a2.length (a2.map i64), sl a3.length (a3.map f32)]) rfl rfl rfl (LOp.fap und30 rfl siz22 rfl rfl rfl) ?_
      refine zL (r := sl a2.length (a2.map i64)) rfl rfl rfl (LOp.load1 agg22 rfl rfl) ?_
      refine zM (r := i64 x4) rfl rfl rfl rfl rfl ?_
      refine zL (r := ptr [i64 e6]) rfl rfl rfl (LOp.le (LOp.ix (f := i64) und22 siz2 rfl rfl rfl rfl he7) ALe.ptr) ?_
      refine zL (r := i64 e6) rfl rfl rfl (LOp.load1 agg2 rfl rfl) ?_
      refine zM (r := i64 v1) rfl rfl rfl rfl rfl ?_
      refine zL (r := b false) rfl rfl rfl (LOp.eqb (LOp.neq rfl rfl rfl) hc8) ?_
      refine zL (r := b false) rfl rfl rfl (LOp.pick_false rfl rfl rfl) ?_
      refine zM (r := b false) rfl rfl rfl rfl rfl ?_
      refine zM (r := ptr [i64 a0, sl a1.length (a1.map i64), sl a2.length (a2.map i64), sl a3.length (a3.map f32)]) rfl rfl rfl rfl rfl ?_
      refine zL (r := ptr [i64 a0, sl a1.length (a1.map i64), sl a2.length (a2.map i64), sl a3.length (a3.map f32)]) rfl rfl rfl (LOp.nilCheck_ptr rfl rfl) ?_
      refine zL (r := ptr [sl a3.length (a3.map f32)]) rfl rfl rfl (LOp.fap und30 rfl siz23 rfl rfl rfl) ?_
      refine zL (r := sl a3.length (a3.map f32)) rfl rfl rfl (LOp.load1 agg23 rfl rfl) ?_
      refine zM (r := i64 x4) rfl rfl rfl rfl rfl ?_
      refine zL (r := ptr [f32 e7]) rfl rfl rfl (LOp.le (LOp.ix (f := f32) und23 siz26 rfl rfl rfl rfl he9) ALe.ptr) ?_
      refine zL (r := f32 e7) rfl rfl rfl (LOp.load1 agg26 rfl rfl) ?_
      refine zL (r := b true) rfl rfl rfl (LOp.eqb (LOp.fgt rfl (OpF.tmp rfl) (OpF.const rfl (by kernel_rfl) (by kernel_rfl))) hc10) ?_
      refine zL (r := b false) rfl rfl rfl (LOp.eqb (LOp.not rfl rfl) rfl) ?_
      refine zL (r := b false) rfl rfl rfl (LOp.pick_false rfl rfl rfl) ?_
      refine zN ?_
      refine RunC.wl (τ' := [(0, ptr [i64 a0, sl a1.length (a1.map i64), sl a2.length (a2.map i64), sl a3.length (a3.map f32)]), (3, i64 v1), (32, ptr [i64 a0, sl a1.length (a1.map i64), sl a2.length (a2.map i64), sl a3.length (a3.map f32)]), (33, ptr [i64 a0, sl a1.length (a1.map i64), sl a2.length (a2.map i64), sl a3.length (a3.map f32)]), (34, ptr [sl a2.length (a2.map i64), sl a3.length (a3.map f32)]), (35, sl a2.length (a2.map i64)), (36, i64 x4), (37, ptr [i64 e6]), (38, i64 e6), (39, i64 v1), (40, b false), (43, ptr [i64 a0, sl a1.length (a1.map i64), sl a2.length (a2.map i64), sl a3.length (a3.map f32)]), (44, ptr [i64 a0, sl a1.length (a1.map i64), sl a2.length (a2.map i64), sl a3.length (a3.map f32)]), (45, ptr [sl a3.length (a3.map f32)]), (46, sl a3.length (a3.map f32)), (47, i64 x4), (48, ptr [f32 e7]), (49, f32 e7), (50, b true), (51, b false), (52, b false)]) (Γ' := []) ⟨aR, aR, aR, aR, aR, aR, aR, aR, aR, aR, aR, aR, aR, aR, aR, aR, aR, aR, aR, aR, aR, trivial⟩ trivial ?_
      refine RunC.cond_false rfl rfl ?_
      refine RunC.skip ?_
      obtain ⟨x8, hx11, h2_⟩ := olet_some h2_
      refine RunC.regionW ?_
      refine zM (r := i64 v1) rfl rfl rfl rfl rfl ?_
      refine zL (r := i64 x8) rfl rfl rfl (LOp.eqr (LOp.add rfl rfl rfl) (congrArg (ik .i64) hx11)) ?_
      refine zA (r := i64 x8) rfl rfl rfl rfl rfl ?_
      refine zN ?_
      cases Option.some.inj h2_
      exact ⟨_, rfl, ⟨aR, aR, trivial⟩, trivial⟩
     ·refine RunC.regionW ?_
      refine zM (r := i64 x4) rfl rfl rfl rfl rfl ?_
      refine zM (r := ptr [i64 a0, sl a1.length (a1.map i64), sl a2.length (a2.map i64), sl a3.length (a3.map f32)]) rfl rfl rfl rfl rfl ?_
      refine zL (r := ptr [i64 a0, sl a1.length (a1.map i64), sl a2.length (a2.map i64), sl a3.length (a3.map f32)]) rfl rfl rfl (LOp.nilCheck_ptr rfl rfl) ?_
      refine zL (r := ptr [sl a1.length (a1.map i64), sl a2.length (a2.map i64), sl a3.length (a3.map f32)]) rfl rfl rfl (LOp.fap und30 rfl siz22 rfl rfl rfl) ?_
      refine zL (r := sl a1.length (a1.map i64)) rfl rfl rfl (LOp.load1 agg22 rfl rfl) ?_
      refine zM (r := i64 v1) rfl rfl rfl rfl rfl ?_
      refine zL (r := ptr [i64 e5]) rfl rfl rfl (LOp.le (LOp.ix (f := i64) und22 siz2 rfl rfl rfl rfl he5) ALe.ptr) ?_
      refine zL (r := i64 e5) rfl rfl rfl (LOp.load1 agg2 rfl rfl) ?_
      refine zL (r := b false) rfl rfl rfl (LOp.eqb (LOp.lss rfl rfl rfl) hc6) ?_
      refine zM (r := b false) rfl rfl rfl rfl rfl ?_
      refine zM (r := ptr [i64 a0, sl a1.length (a1.map i64), sl a2.length (a2.map i64), sl a3.length (a3.map f32)]) rfl rfl rfl rfl rfl ?_
      refine zL (r := ptr [i64 a0, sl a1.length (a1.map i64), sl a2.length (a2.map i64), sl a3.length (a3.map f32)]) rfl rfl rfl (LOp.nilCheck_ptr rfl rfl) ?_
      refine zL (r := ptr [sl a2.length (a2.map i64), sl a3.length (a3.map f32)]) rfl rfl rfl (LOp.fap und30 rfl siz22 rfl rfl rfl) ?_
      refine zL (r := sl a2.length (a2.map i64)) rfl rfl rfl (LOp.load1 agg22 rfl rfl) ?_
      refine zM (r := i64 x4) rfl rfl rfl rfl rfl ?_
      refine zL (r := ptr [i64 e6]) rfl rfl rfl (LOp.le (LOp.ix (f := i64) und22 siz2 rfl rfl rfl rfl he7) ALe.ptr) ?_
      refine zL (r := i64 e6) rfl rfl rfl (LOp.load1 agg2 rfl rfl) ?_
      refine zM (r := i64 v1) rfl rfl rfl rfl rfl ?_
      refine zL (r := b false) rfl rfl rfl (LOp.eqb (LOp.neq rfl rfl rfl) hc8) ?_
      refine zL (r := b false) rfl rfl rfl (LOp.pick_false rfl rfl rfl) ?_
      refine zM (r := b false) rfl rfl rfl rfl rfl ?_
      refine zM (r := ptr [i64 a0, sl a1.length (a1.map i64), sl a2.length (a2.map i64), sl a3.length (a3.map f32)]) rfl rfl rfl rfl rfl ?_
      refine zL (r := ptr [i64 a0, sl a1.length (a1.map i64), sl a2.length (a2.map i64), sl a3.length (a3.map f32)]) rfl rfl rfl (LOp.nilCheck_ptr rfl rfl) ?_
      refine zL (r := ptr [sl a3.length (a3.map f32)]) rfl rfl rfl (LOp.fap und30 rfl siz23 rfl rfl rfl) ?_
      refine zL (r := sl a3.length (a3.map f32)) rfl rfl rfl (LOp.load1 agg23 rfl rfl) ?_
      refine zM (r := i64 x4) rfl rfl rfl rfl rfl ?_
      refine zL (r := ptr [f32 e7]) rfl rfl rfl (LOp.le (LOp.ix (f := f32) und23 siz26 rfl rfl rfl rfl he9) ALe.ptr) ?_
      refine zL (r := f32 e7) rfl rfl rfl (LOp.load1 agg26 rfl rfl) ?_
      refine zL (r := b false) rfl rfl rfl (LOp.eqb (LOp.fgt rfl (OpF.tmp rfl) (OpF.const rfl (by kernel_rfl) (by kernel_rfl))) hc10) ?_
      refine zL (r := b true) rfl rfl rfl (LOp.eqb (LOp.not rfl rfl) rfl) ?_
      refine zL (r := b true) rfl rfl rfl (LOp.pick_false rfl rfl rfl) ?_
      refine zN ?_
      refine RunC.wl (τ' := [(0, ptr [i64 a0, sl a1.length (a1.map i64), sl a2.length (a2.map i64), sl a3.length (a3.map f32)]), (3, i64 v1), (32, ptr [i64 a0, sl a1.length (a1.map i64), sl a2.length (a2.map i64), sl a3.length (a3.map f32)]), (33, ptr [i64 a0, sl a1.length (a1.map i64), sl a2.length (a2.map i64), sl a3.length (a3.map f32)]), (34, ptr [sl a2.length (a2.map i64), sl a3.length (a3.map f32)]), (35, sl a2.length (a2.map i64)), (36, i64 x4), (37, ptr [i64 e6]), (38, i64 e6), (39, i64 v1), (40, b false), (43, ptr [i64 a0, sl a1.length (a1.map i64), sl a2.length (a2.map i64), sl a3.length (a3.map f32)]), (44, ptr [i64 a0, sl a1.length (a1.map i64), sl a2.length (a2.map i64), sl a3.length (a3.map f32)]), (45, ptr [sl a3.length (a3.map f32)]), (46, sl a3.length (a3.map f32)), (47, i64 x4), (48, ptr [f32 e7]), (49, f32 e7), (50, b false), (51, b true), (52, b true)]) (Γ' := []) ⟨aR, aR, aR, aR, aR, aR, aR, aR, aR, aR, aR, aR, aR, aR, aR, aR, aR, aR, aR, aR, aR, trivial⟩ trivial ?_
      refine RunC.cond_true rfl rfl ?_
      refine zQ ?_
      refine zA (r := b false) rfl rfl rfl rfl rfl ?_
      refine zN ?_
      refine RunC.ret ?_
      cases Option.some.inj h2_
      have hx5_ := hr2 _ rfl
      subst hx5_
      have hq := Option.some.inj h
      subst q0
      exact bodyQ.pure (.inr rfl) rfl (Res.one rfl (RV.tmp rfl))
  ·refine RunC.regionW ?_
   refine zM (r := i64 v1) rfl rfl rfl rfl rfl ?_
   refine zM (r := ptr [i64 a0, sl a1.length (a1.map i64), sl a2.length (a2.map i64), sl a3.length (a3.map f32)]) rfl rfl rfl rfl rfl ?_
   refine zL (r := ptr [i64 a0, sl a1.length (a1.map i64), sl a2.length (a2.map i64), sl a3.length (a3.map f32)]) rfl rfl rfl (LOp.nilCheck_ptr rfl rfl) ?_
   refine zL (r := ptr [i64 a0, sl a1.length (a1.map i64), sl a2.length (a2.map i64), sl a3.length (a3.map f32)]) rfl rfl rfl (LOp.fap und30 rfl siz2 rfl rfl rfl) ?_
   refine zL (r := i64 a0) rfl rfl rfl (LOp.load1 agg2 rfl rfl) ?_
   refine zL (r := b false) rfl rfl rfl (LOp.eqb (LOp.lss rfl rfl rfl) hc1) ?_
   refine zN ?_
   refine RunC.cond_false rfl rfl ?_
   refine RunC.exit ?_
   cases Option.some.inj h2_
   have hx := ho2 _ rfl
   exact ⟨trivial, trivial, hx⟩
 ·rintro τ6 Γ6 ⟨hw6, hd6, rfl⟩
  refine RunC.wl hw6 hd6 ?_
  replace h : s_l05Lower_k1 = some q0 := h
  unfold s_l05Lower_k1 at h
  refine zQ ?_
  refine zA (r := b true) rfl rfl rfl rfl rfl ?_
  refine zN ?_
  refine RunC.ret ?_
  have hq := Option.some.inj h
  subst q0
  exact bodyQ.pure (.inr rfl) rfl (Res.one rfl (RV.tmp rfl))
noncomputable def s_l02Least (a0 : F) : Option (Bool) :=
 obind (s_l01Finite a0) fun (r1 : Bool) =>
 bsel r1 (
  some (fle .f32 (some 0) a0)) (
  some false)
theorem s_l02Least_ok (a0 : F) (q0 : Bool) (h : s_l02Least a0 = some q0) : Ev Try.prog 31 [f32 a0] [] (b q0) [] := by
 refine Ev.start Try.func31 rfl rfl 0 (τ := [(0, f32 a0)]) rfl (Γ' := []) rfl (n := 19) rfl (g := 0) rfl (fun _ => rfl) ?_
 unfold s_l02Least at h
 refine zQ ?_
 refine zA (r := b false) rfl rfl rfl rfl rfl ?_
 refine zN ?_
 refine RunC.seq ?_
 obtain ⟨r1, hf1, h⟩ := obind_some h
 rcases bsel_some h with ⟨hc2, h⟩ | ⟨hc2, h⟩
 ·refine RunC.regionW ?_
  refine zM (r := f32 a0) rfl rfl rfl rfl rfl ?_
  refine ROps.d (r := b true) (fs := []) (Γ' := []) rfl rfl rfl (TOp.eqb (TOp.callB (CallAs.func ent79 rfl rfl) (Bors.cons (Bor.pure rfl) Bors.nil) rfl rfl (s_l01Finite_ok a0 r1 hf1)) hc2) rfl ?_
  refine zM (r := b true) rfl rfl rfl rfl rfl ?_
  refine zM (r := f32 a0) rfl rfl rfl rfl rfl ?_
  refine zL (r := b (fle .f32 (some 0) a0)) rfl rfl rfl (LOp.fge rfl (OpF.tmp rfl) (OpF.const rfl (by kernel_rfl) (by kernel_rfl))) ?_
  refine zL (r := b (fle .f32 (some 0) a0)) rfl rfl rfl (LOp.pick_true rfl rfl rfl) ?_
  refine zA (r := b (fle .f32 (some 0) a0)) rfl rfl rfl rfl rfl ?_
  refine zN ?_
  refine RunC.ret ?_
  have hq := Option.some.inj h
  subst q0
  exact bodyQ.pure (.inr rfl) rfl (Res.one rfl (RV.tmp rfl))
 ·refine RunC.regionW ?_
  refine zM (r := f32 a0) rfl rfl rfl rfl rfl ?_
  refine ROps.d (r := b false) (fs := []) (Γ' := []) rfl rfl rfl (TOp.eqb (TOp.callB (CallAs.func ent79 rfl rfl) (Bors.cons (Bor.pure rfl) Bors.nil) rfl rfl (s_l01Finite_ok a0 r1 hf1)) hc2) rfl ?_
  refine zM (r := b false) rfl rfl rfl rfl rfl ?_
  refine ROps.s rfl rfl rfl ?_
  refine ROps.s rfl rfl rfl ?_
  refine zL (r := b false) rfl rfl rfl (LOp.pick_false rfl rfl rfl) ?_
  refine zA (r := b false) rfl rfl rfl rfl rfl ?_
  refine zN ?_
  refine RunC.ret ?_
  have hq := Option.some.inj h
  subst q0
  exact bodyQ.pure (.inr rfl) rfl (Res.one rfl (RV.tmp rfl))
noncomputable def s_l05Solve_b2 (a2 : List Int) (a3 : List F) (L3 : List F) (x8 : Int) (y10 : F) (v11 : Int) : Option (LR (F × Int) (F) ((List F))) :=
 bsel (decide (v11 < x8)) (
  obind (at? a3 v11) fun (e12 : F) =>
  obind (at? a2 v11) fun (e13 : Int) =>
  obind (at? L3 e13) fun (e14 : F) =>
  olet (fop .mul .f32 e12 e14) fun (x15 : F) =>
  olet (fop .sub .f32 y10 x15) fun (x16 : F) =>
  olet (IntKind.i64.wrap (v11 + 1)) fun (x17 : Int) =>
  some (LR.next (x16, x17))) (
  some (LR.out y10))
noncomputable def s_l05Solve_s2 (a2 : List Int) (a3 : List F) (L3 : List F) (x8 : Int) : (F × Int) → Option (LR (F × Int) (F) ((List F))) := fun s => s_l05Solve_b2 a2 a3 L3 x8 s.1 s.2
noncomputable def s_l05Solve_k2 (a3 : List F) (L3 : List F) (v4 : Int) (x8 : Int) (y18 : F) : Option (LR ((List F) × Int) ((List F)) ((List F))) :=
 obind (at? a3 x8) fun (e19 : F) =>
 olet (fop .quo .f32 y18 e19) fun (x20 : F) =>
 need (apok 4 L3.length 1) <|
 olet (IntKind.i64.wrap (v4 + 1)) fun (x21 : Int) =>
 some (LR.next ((L3 ++ ([x20] : List F)), x21))
noncomputable def s_l05Solve_b3 (a0 : Int) (a1 : List Int) (a2 : List Int) (a3 : List F) (a4 : List F) (L3 : List F) (v4 : Int) : Option (LR ((List F) × Int) ((List F)) ((List F))) :=
 bsel (decide (v4 < a0)) (
  obind (at? a4 v4) fun (e5 : F) =>
  olet (IntKind.i64.wrap (v4 + 1)) fun (x6 : Int) =>
  obind (at? a1 x6) fun (e7 : Int) =>
  olet (IntKind.i64.wrap (e7 - 1)) fun (x8 : Int) =>
  obind (at? a1 v4) fun (e9 : Int) =>
  obind (loopM (s_l05Solve_s2 a2 a3 L3 x8) (e5, e9)) fun z => osum z (fun e => s_l05Solve_k2 a3 L3 v4 x8 e) (fun r => some (LR.ret r))) (
  some (LR.out L3))
noncomputable def s_l05Solve_s3 (a0 : Int) (a1 : List Int) (a2 : List Int) (a3 : List F) (a4 : List F) : ((List F) × Int) → Option (LR ((List F) × Int) ((List F)) ((List F))) := fun s => s_l05Solve_b3 a0 a1 a2 a3 a4 s.1 s.2
noncomputable def s_l05Solve_b5 (a2 : List Int) (a3 : List F) (v28 : Int) (x31 : Int) (L37 : List F) (v39 : Int) : Option (LR ((List F) × Int) ((List F)) ((List F))) :=
 bsel (decide (v39 < x31)) (
  obind (at? a2 v39) fun (e40 : Int) =>
  obind (at? a2 v39) fun (e41 : Int) =>
  obind (at? L37 e41) fun (e42 : F) =>
  obind (at? a3 v39) fun (e43 : F) =>
  obind (at? L37 v28) fun (e44 : F) =>
  olet (fop .mul .f32 e43 e44) fun (x45 : F) =>
  olet (fop .sub .f32 e42 x45) fun (x46 : F) =>
  obind (setAt? L37 e40 x46) fun (L47 : List F) =>
  olet (IntKind.i64.wrap (v39 + 1)) fun (x48 : Int) =>
  some (LR.next (L47, x48))) (
  some (LR.out L37))
noncomputable def s_l05Solve_s5 (a2 : List Int) (a3 : List F) (v28 : Int) (x31 : Int) : ((List F) × Int) → Option (LR ((List F) × Int) ((List F)) ((List F))) := fun s => s_l05Solve_b5 a2 a3 v28 x31 s.1 s.2
noncomputable def s_l05Solve_k5 (v28 : Int) (L49 : List F) : Option (LR ((List F) × Int) ((List F)) ((List F))) :=
 olet (IntKind.i64.wrap (v28 - 1)) fun (x51 : Int) =>
 some (LR.next (L49, x51))
noncomputable def s_l05Solve_b6 (a1 : List Int) (a2 : List Int) (a3 : List F) (L26 : List F) (v28 : Int) : Option (LR ((List F) × Int) ((List F)) ((List F))) :=
 bsel (decide (0 ≤ v28)) (
  olet (IntKind.i64.wrap (v28 + 1)) fun (x29 : Int) =>
  obind (at? a1 x29) fun (e30 : Int) =>
  olet (IntKind.i64.wrap (e30 - 1)) fun (x31 : Int) =>
  obind (at? L26 v28) fun (e32 : F) =>
  obind (at? a3 x31) fun (e33 : F) =>
  olet (fop .quo .f32 e32 e33) fun (x34 : F) =>
  obind (setAt? L26 v28 x34) fun (L35 : List F) =>
  obind (at? a1 v28) fun (e36 : Int) =>
  obind (loopM (s_l05Solve_s5 a2 a3 v28 x31) (L35, e36)) fun z => osum z (fun e => s_l05Solve_k5 v28 e) (fun r => some (LR.ret r))) (
  some (LR.out L26))
noncomputable def s_l05Solve_s6 (a1 : List Int) (a2 : List Int) (a3 : List F) : ((List F) × Int) → Option (LR ((List F) × Int) ((List F)) ((List F))) := fun s => s_l05Solve_b6 a1 a2 a3 s.1 s.2
noncomputable def s_l05Solve_k6 (L52 : List F) : Option ((List F)) :=
 some L52
noncomputable def s_l05Solve_k3 (a0 : Int) (a1 : List Int) (a2 : List Int) (a3 : List F) (L24 : List F) : Option ((List F)) :=
 olet (IntKind.i64.wrap (a0 - 1)) fun (x25 : Int) =>
 obind (loopM (s_l05Solve_s6 a1 a2 a3) (L24, x25)) fun z => osum z (fun e => s_l05Solve_k6 e) (fun r => some r)
noncomputable def s_l05Solve (a0 : Int) (a1 : List Int) (a2 : List Int) (a3 : List F) (a4 : List F) : Option ((List F)) :=
 obind (loopM (s_l05Solve_s3 a0 a1 a2 a3 a4) (([] : List F), 0)) fun z => osum z (fun e => s_l05Solve_k3 a0 a1 a2 a3 e) (fun r => some r)
theorem s_l05Solve_ok (a0 : Int) (a1 : List Int) (a2 : List Int) (a3 : List F) (a4 : List F) (q0 : List F) (h : s_l05Solve a0 a1 a2 a3 a4 = some q0) : Ev Try.prog 80 [ptr [i64 a0, sl a1.length (a1.map i64), sl a2.length (a2.map i64), sl a3.length (a3.map f32)], sl a4.length (a4.map f32)] [] (oref 0 0 0 q0.length) [⟨0, some (q0.map f32)⟩] := by
 refine Ev.start Try.func80 rfl rfl 2 (τ := [(0, ptr [i64 a0, sl a1.length (a1.map i64), sl a2.length (a2.map i64), sl a3.length (a3.map f32)]), (1, sl a4.length (a4.map f32))]) rfl (Γ' := [⟨0, none⟩, ⟨0, none⟩]) rfl (n := 315) rfl (g := 0) rfl (fun _ => rfl) ?_
 unfold s_l05Solve at h
 refine zQ ?_
 refine zA (r := nilsl) rfl rfl rfl rfl rfl ?_
 refine zN ?_
 refine zQ ?_
 refine ROps.d (r := oref 0 1 0 0) (fs := [(0, (([] : List F).map f32))]) (Γ' := [⟨1, some (([] : List F).map f32)⟩, ⟨0, none⟩]) rfl rfl rfl (TOp.buildSlice_o (g := ⟨0, none⟩) (za := f32 (some 0)) (qs := []) 0 rfl und23 siz26 zer26 rfl zel26 rfl rfl trivial rfl) rfl ?_
 refine zA (r := oref 0 1 0 0) rfl rfl rfl rfl rfl ?_
 refine zN ?_
 refine RunC.seq ?_
 refine zQ ?_
 refine zA (r := i64 0) rfl rfl rfl rfl rfl ?_
 refine zN ?_
 obtain ⟨z7, hz_7, h⟩ := obind_some h
 refine RunC.cutN (fun τ Γ => ∃ (L24 : List F) (u22 : Nat) (u23 : Nat), WeakLe τ [(0, ptr [i64 a0, sl a1.length (a1.map i64), sl a2.length (a2.map i64), sl a3.length (a3.map f32)]), (5, oref 0 u22 0 L24.length)] ∧ DeadLe Γ [⟨u22, some (L24.map f32)⟩, ⟨u23, none⟩] ∧ z7 = .inl L24) ?_ ?_
 ·refine RunC.block (RunC.loop (RunL.loopM (x := z7) (s_l05Solve_s3 a0 a1 a2 a3 a4) (fun (s : (List F) × Int) τ Γ => ∃ (u1 : Nat) (u2 : Nat), WeakLe τ [(0, ptr [i64 a0, sl a1.length (a1.map i64), sl a2.length (a2.map i64), sl a3.length (a3.map f32)]), (1, sl a4.length (a4.map f32)), (5, oref 0 u1 0 s.1.length), (6, i64 s.2)] ∧ DeadLe Γ [⟨u1, some (s.1.map f32)⟩, ⟨u2, none⟩]) ?_ _ _ _ hz_7 ⟨1, 0, ⟨aR, aR, aR, aR, trivial⟩, ⟨⟨rfl, .inr rfl⟩, ⟨rfl, .inl rfl⟩, trivial⟩⟩))
  rintro ⟨L3, v4⟩ τ7 Γ7 y7_ ⟨u1, u2, hw7, hd7⟩ h7_ ho7 hr7
  refine RunC.wl (τ' := [(0, ptr [i64 a0, sl a1.length (a1.map i64), sl a2.length (a2.map i64), sl a3.length (a3.map f32)]), (1, sl a4.length (a4.map f32)), (5, oref 0 u1 0 L3.length), (6, i64 v4)]) (Γ' := [⟨u1, some (L3.map f32)⟩, ⟨u2, none⟩]) hw7 hd7 ?_
  replace h7_ : s_l05Solve_b3 a0 a1 a2 a3 a4 L3 v4 = some y7_ := h7_
  unfold s_l05Solve_b3 at h7_
  refine RunC.seq ?_
  refine RunC.seq ?_
  rcases bsel_some h7_ with ⟨hc1, h7_⟩ | ⟨hc1, h7_⟩
  ·refine RunC.regionW ?_
   refine zM (r := i64 v4) rfl rfl rfl rfl rfl ?_
   refine zM (r := ptr [i64 a0, sl a1.length (a1.map i64), sl a2.length (a2.map i64), sl a3.length (a3.map f32)]) rfl rfl rfl rfl rfl ?_
   refine zL (r := ptr [i64 a0, sl a1.length (a1.map i64), sl a2.length (a2.map i64), sl a3.length (a3.map f32)]) rfl rfl rfl (LOp.nilCheck_ptr rfl rfl) ?_
   refine zL (r := ptr [i64 a0, sl a1.length (a1.map i64), sl a2.length (a2.map i64), sl a3.length (a3.map f32)]) rfl rfl rfl (LOp.fap und30 rfl siz2 rfl rfl rfl) ?_
   refine zL (r := i64 a0) rfl rfl rfl (LOp.load1 agg2 rfl rfl) ?_
   refine zL (r := b true) rfl rfl rfl (LOp.eqb (LOp.lss rfl rfl rfl) hc1) ?_
   refine zN ?_
   refine RunC.cond_true rfl rfl ?_
   refine RunC.skip ?_
   refine RunC.seq ?_
   refine RunC.block ?_
   refine RunC.seq ?_
   obtain ⟨e5, he2, h7_⟩ := obind_some h7_
   refine RunC.regionW ?_
   refine zM (r := sl a4.length (a4.map f32)) rfl rfl rfl rfl rfl ?_
   refine zM (r := i64 v4) rfl rfl rfl rfl rfl ?_
   refine zL (r := ptr [f32 e5]) rfl rfl rfl (LOp.le (LOp.ix (f := f32) und23 siz26 rfl rfl rfl rfl he2) ALe.ptr) ?_
   refine zL (r := f32 e5) rfl rfl rfl (LOp.load1 agg26 rfl rfl) ?_
   refine zA (r := f32 e5) rfl rfl rfl rfl rfl ?_
   refine zN ?_
   refine RunC.seq ?_
   obtain ⟨x6, hx3, h7_⟩ := olet_some h7_
   obtain ⟨e7, he4, h7_⟩ := obind_some h7_
   obtain ⟨x8, hx5, h7_⟩ := olet_some h7_
   refine RunC.regionW ?_
   refine zM (r := ptr [i64 a0, sl a1.length (a1.map i64), sl a2.length (a2.map i64), sl a3.length (a3.map f32)]) rfl rfl rfl rfl rfl ?_
   refine zL (r := ptr [i64 a0, sl a1.length (a1.map i64), sl a2.length (a2.map i64), sl a3.length (a3.map f32)]) rfl rfl rfl (LOp.nilCheck_ptr rfl rfl) ?_
   refine zL (r := ptr [sl a1.length (a1.map i64), sl a2.length (a2.map i64), sl a3.length (a3.map f32)]) rfl rfl rfl (LOp.fap und30 rfl siz22 rfl rfl rfl) ?_
   refine zL (r := sl a1.length (a1.map i64)) rfl rfl rfl (LOp.load1 agg22 rfl rfl) ?_
   refine zM (r := i64 v4) rfl rfl rfl rfl rfl ?_
   refine zL (r := i64 x6) rfl rfl rfl (LOp.eqr (LOp.add rfl rfl rfl) (congrArg (ik .i64) hx3)) ?_
   refine zL (r := ptr [i64 e7]) rfl rfl rfl (LOp.le (LOp.ix (f := i64) und22 siz2 rfl rfl rfl rfl he4) ALe.ptr) ?_
   refine zL (r := i64 e7) rfl rfl rfl (LOp.load1 agg2 rfl rfl) ?_
   refine zL (r := i64 x8) rfl rfl rfl (LOp.eqr (LOp.sub rfl rfl rfl) (congrArg (ik .i64) hx5)) ?_
   refine zA (r := i64 x8) rfl rfl rfl rfl rfl ?_
   refine zN ?_
   refine RunC.wl (τ' := [(0, ptr [i64 a0, sl a1.length (a1.map i64), sl a2.length (a2.map i64), sl a3.length (a3.map f32)]), (1, sl a4.length (a4.map f32)), (5, oref 0 u1 0 L3.length), (6, i64 v4), (7, f32 e5), (8, i64 x8)]) (Γ' := [⟨u1, some (L3.map f32)⟩, ⟨u2, none⟩]) ⟨aR, aR, aR, aR, aR, aR, trivial⟩ ⟨⟨rfl, .inr rfl⟩, ⟨rfl, .inl rfl⟩, trivial⟩ ?_
   refine RunC.seq ?_
   refine RunC.seq ?_
   obtain ⟨e9, he6, h7_⟩ := obind_some h7_
   refine RunC.regionW ?_
   refine zM (r := ptr [i64 a0, sl a1.length (a1.map i64), sl a2.length (a2.map i64), sl a3.length (a3.map f32)]) rfl rfl rfl rfl rfl ?_
   refine zL (r := ptr [i64 a0, sl a1.length (a1.map i64), sl a2.length (a2.map i64), sl a3.length (a3.map f32)]) rfl rfl rfl (LOp.nilCheck_ptr rfl rfl) ?_
   refine zL (r := ptr [sl a1.length (a1.map i64), sl a2.length (a2.map i64), sl a3.length (a3.map f32)]) rfl rfl rfl (LOp.fap und30 rfl siz22 rfl rfl rfl) ?_
   refine zL (r := sl a1.length (a1.map i64)) rfl rfl rfl (LOp.load1 agg22 rfl rfl) ?_
   refine zM (r := i64 v4) rfl rfl rfl rfl rfl ?_
   refine zL (r := ptr [i64 e9]) rfl rfl rfl (LOp.le (LOp.ix (f := i64) und22 siz2 rfl rfl rfl rfl he6) ALe.ptr) ?_
   refine zL (r := i64 e9) rfl rfl rfl (LOp.load1 agg2 rfl rfl) ?_
   refine zA (r := i64 e9) rfl rfl rfl rfl rfl ?_
   refine zN ?_
   obtain ⟨z8, hz_8, h7_⟩ := obind_some h7_
   refine RunC.cutN (fun τ Γ => ∃ (y18 : F), WeakLe τ [(0, ptr [i64 a0, sl a1.length (a1.map i64), sl a2.length (a2.map i64), sl a3.length (a3.map f32)]), (1, sl a4.length (a4.map f32)), (5, oref 0 u1 0 L3.length), (6, i64 v4), (7, f32 y18), (8, i64 x8)] ∧ DeadLe Γ [⟨u1, some (L3.map f32)⟩, ⟨u2, none⟩] ∧ z8 = .inl y18) ?_ ?_
   ·refine RunC.block (RunC.loop (RunL.loopM (x := z8) (s_l05Solve_s2 a2 a3 L3 x8) (fun (s : F × Int) τ Γ => WeakLe τ [(0, ptr [i64 a0, sl a1.length (a1.map i64), sl a2.length (a2.map i64), sl a3.length (a3.map f32)]), (1, sl a4.length (a4.map f32)), (5, oref 0 u1 0 L3.length), (6, i64 v4), (7, f32 s.1), (8, i64 x8), (9, i64 s.2)] ∧ DeadLe Γ [⟨u1, some (L3.map f32)⟩, ⟨u2, none⟩]) ?_ _ _ _ hz_8 ⟨⟨aR, aR, aR, aR, aR, aR, aR, trivial⟩, ⟨⟨rfl, .inr rfl⟩, ⟨rfl, .inl rfl⟩, trivial⟩⟩))
    rintro ⟨y10, v11⟩ τ8 Γ8 y8_ ⟨hw8, hd8⟩ h8_ ho8 hr8
    refine RunC.wl (τ' := [(0, ptr [i64 a0, sl a1.length (a1.map i64), sl a2.length (a2.map i64), sl a3.length (a3.map f32)]), (1, sl a4.length (a4.map f32)), (5, oref 0 u1 0 L3.length), (6, i64 v4), (7, f32 y10), (8, i64 x8), (9, i64 v11)]) (Γ' := [⟨u1, some (L3.map f32)⟩, ⟨u2, none⟩]) hw8 hd8 ?_
    replace h8_ : s_l05Solve_b2 a2 a3 L3 x8 y10 v11 = some y8_ := h8_
    unfold s_l05Solve_b2 at h8_
    refine RunC.seq ?_
    refine RunC.seq ?_
    rcases bsel_some h8_ with ⟨hc7, h8_⟩ | ⟨hc7, h8_⟩
    ·refine RunC.regionW ?_
     refine zM (r := i64 v11) rfl rfl rfl rfl rfl ?_
     refine zM (r := i64 x8) rfl rfl rfl rfl rfl ?_
     refine zL (r := b true) rfl rfl rfl (LOp.eqb (LOp.lss rfl rfl rfl) hc7) ?_
     refine zN ?_
     refine RunC.cond_true rfl rfl ?_
     refine RunC.skip ?_
     refine RunC.seq ?_
     refine RunC.block ?_
     obtain ⟨e12, he8, h8_⟩ := obind_some h8_
     obtain ⟨e13, he9, h8_⟩ := obind_some h8_
     obtain ⟨e14, he10, h8_⟩ := obind_some h8_
     obtain ⟨x15, hx11, h8_⟩ := olet_some h8_
     obtain ⟨x16, hx12, h8_⟩ := olet_some h8_
     refine RunC.region_draw (Γ' := [⟨u1, some (L3.map f32)⟩, ⟨u2, none⟩]) 21 mixed 
      (TR.l (r := f32 y10) rfl rfl (LOp.move rfl rfl) <|
      (TR.l (r := ptr [i64 a0, sl a1.length (a1.map i64), sl a2.length (a2.map i64), sl a3.length (a3.map f32)]) rfl rfl (LOp.move rfl rfl) <|
      (TR.l (r := ptr [i64 a0, sl a1.length (a1.map i64), sl a2.length (a2.map i64), sl a3.length (a3.map f32)]) rfl rfl (LOp.nilCheck_ptr rfl rfl) <|
      (TR.l (r := ptr [sl a3.length (a3.map f32)]) rfl rfl (LOp.fap und30 rfl siz23 rfl rfl rfl) <|
      (TR.l (r := sl a3.length (a3.map f32)) rfl rfl (LOp.load1 agg23 rfl rfl) <|
      (TR.l (r := i64 v11) rfl rfl (LOp.move rfl rfl) <|
      (TR.l (r := ptr [f32 e12]) rfl rfl (LOp.le (LOp.ix (f := f32) und23 siz26 rfl rfl rfl rfl he8) ALe.ptr) <|
      (TR.l (r := f32 e12) rfl rfl (LOp.load1 agg26 rfl rfl) <|
      (TR.l (r := oref 0 u1 0 L3.length) rfl rfl (LOp.move rfl rfl) <|
      (TR.l (r := ptr [i64 a0, sl a1.length (a1.map i64), sl a2.length (a2.map i64), sl a3.length (a3.map f32)]) rfl rfl (LOp.move rfl rfl) <|
      (TR.l (r := ptr [i64 a0, sl a1.length (a1.map i64), sl a2.length (a2.map i64), sl a3.length (a3.map f32)]) rfl rfl (LOp.nilCheck_ptr rfl rfl) <|
      (TR.l (r := ptr [sl a2.length (a2.map i64), sl a3.length (a3.map f32)]) rfl rfl (LOp.fap und30 rfl siz22 rfl rfl rfl) <|
      (TR.l (r := sl a2.length (a2.map i64)) rfl rfl (LOp.load1 agg22 rfl rfl) <|
      (TR.l (r := i64 v11) rfl rfl (LOp.move rfl rfl) <|
      (TR.l (r := ptr [i64 e13]) rfl rfl (LOp.le (LOp.ix (f := i64) und22 siz2 rfl rfl rfl rfl he9) ALe.ptr) <|
      (TR.l (r := i64 e13) rfl rfl (LOp.load1 agg2 rfl rfl) <|
      (TR.d (r := optr 0 u1 e13.toNat) (fs := []) rfl rfl (TOp.ixo und23 siz26 rfl rfl rfl (at_in he10 rfl) rfl) <|
      (TR.d (r := f32 e14) (fs := []) rfl rfl (TOp.load1_o rfl (at_cell he10) agg26 rfl rfl) <|
      (TR.d (r := f32 x15) (fs := []) rfl rfl (TOp.eqr (TOp.fop (.inr (.inr (.inl rfl))) rfl (OpF.tmp rfl) (OpF.tmp rfl)) (congrArg (f .f32) hx11)) <|
      (TR.d (r := f32 x16) (fs := []) rfl rfl (TOp.eqr (TOp.fop (.inr (.inl rfl)) rfl (OpF.tmp rfl) (OpF.tmp rfl)) (congrArg (f .f32) hx12)) <|
      (TR.l (r := f32 x16) rfl rfl (LOp.assign rfl rfl) <|
      TR.nil))))))))))))))))))))) rfl (by kernel_rfl) rfl fills_nil rfl ?_
     iterate 21 refine ROps.dropS ?_
     refine ROps.drop0 ?_
     refine zN ?_
     refine RunC.wl (τ' := [(0, ptr [i64 a0, sl a1.length (a1.map i64), sl a2.length (a2.map i64), sl a3.length (a3.map f32)]), (1, sl a4.length (a4.map f32)), (5, oref 0 u1 0 L3.length), (6, i64 v4), (7, f32 x16), (8, i64 x8), (9, i64 v11)]) (Γ' := [⟨u1, some (L3.map f32)⟩, ⟨u2, none⟩]) ⟨aR, aR, aR, aR, aR, aR, aR, trivial⟩ ⟨⟨rfl, .inr rfl⟩, ⟨rfl, .inl rfl⟩, trivial⟩ ?_
     obtain ⟨x17, hx13, h8_⟩ := olet_some h8_
     refine RunC.regionW ?_
     refine zM (r := i64 v11) rfl rfl rfl rfl rfl ?_
     refine zL (r := i64 x17) rfl rfl rfl (LOp.eqr (LOp.add rfl rfl rfl) (congrArg (ik .i64) hx13)) ?_
     refine zA (r := i64 x17) rfl rfl rfl rfl rfl ?_
     refine zN ?_
     cases Option.some.inj h8_
     exact ⟨_, rfl, ⟨aR, aR, aR, aR, aR, aR, aR, trivial⟩, ⟨⟨rfl, .inr rfl⟩, ⟨rfl, .inl rfl⟩, trivial⟩⟩
    ·refine RunC.regionW ?_
     refine zM (r := i64 v11) rfl rfl rfl rfl rfl ?_
     refine zM (r := i64 x8) rfl rfl rfl rfl rfl ?_
     refine zL (r := b false) rfl rfl rfl (LOp.eqb (LOp.lss rfl rfl rfl) hc7) ?_
     refine zN ?_
     refine RunC.cond_false rfl rfl ?_
     refine RunC.exit ?_
     cases Option.some.inj h8_
     have hx := ho8 _ rfl
     exact ⟨y10, ⟨aR, aR, aR, aR, aR, aR, trivial⟩, ⟨⟨rfl, .inr rfl⟩, ⟨rfl, .inl rfl⟩, trivial⟩, hx⟩
   ·rintro τ9 Γ9 ⟨y18, hw9, hd9, rfl⟩
    refine RunC.wl hw9 hd9 ?_
    replace h7_ : s_l05Solve_k2 a3 L3 v4 x8 y18 = some y7_ := h7_
    unfold s_l05Solve_k2 at h7_
    obtain ⟨e19, he14, h7_⟩ := obind_some h7_
    obtain ⟨x20, hx15, h7_⟩ := olet_some h7_
    obtain ⟨hm16, h7_⟩ := need_some h7_
    refine RunC.regionW ?_
    refine zM (r := oref 0 u1 0 L3.length) rfl rfl rfl rfl rfl ?_
    refine zM (r := f32 y18) rfl rfl rfl rfl rfl ?_
    refine zM (r := ptr [i64 a0, sl a1.length (a1.map i64), sl a2.length (a2.map i64), sl a3.length (a3.map f32)]) rfl rfl rfl rfl rfl ?_
    refine zL (r := ptr [i64 a0, sl a1.length (a1.map i64), sl a2.length (a2.map i64), sl a3.length (a3.map f32)]) rfl rfl rfl (LOp.nilCheck_ptr rfl rfl) ?_
    refine zL (r := ptr [sl a3.length (a3.map f32)]) rfl rfl rfl (LOp.fap und30 rfl siz23 rfl rfl rfl) ?_
    refine zL (r := sl a3.length (a3.map f32)) rfl rfl rfl (LOp.load1 agg23 rfl rfl) ?_
    refine zM (r := i64 x8) rfl rfl rfl rfl rfl ?_
    refine zL (r := ptr [f32 e19]) rfl rfl rfl (LOp.le (LOp.ix (f := f32) und23 siz26 rfl rfl rfl rfl he14) ALe.ptr) ?_
    refine zL (r := f32 e19) rfl rfl rfl (LOp.load1 agg26 rfl rfl) ?_
    refine ROps.d (r := f32 x20) (fs := []) (Γ' := [⟨u1, some (L3.map f32)⟩, ⟨u2, none⟩]) rfl rfl rfl (TOp.eqr (TOp.fop (.inr (.inr (.inr rfl))) rfl (OpF.tmp rfl) (OpF.tmp rfl)) (congrArg (f .f32) hx15)) rfl ?_
    refine ROps.d (r := oref 1 (u2 + 1) 0 1) (fs := [(1, (([x20] : List F).map f32))]) (Γ' := [⟨u1, some (L3.map f32)⟩, ⟨(u2 + 1), some (([x20] : List F).map f32)⟩]) rfl rfl rfl (TOp.buildSlice_o (g := ⟨u2, none⟩) (za := f32 (some 0)) (qs := [(0, [f32 x20])]) 1 rfl und23 siz26 zer26 rfl zel26 rfl rfl ⟨rfl, ⟨_, ALe.refl _, rfl⟩, trivial⟩ rfl) rfl ?_
    refine ROps.app (f := f32) (xs := L3) (ys := ([x20] : List F)) (Γ' := [⟨(u1 + 1), some ((L3 ++ ([x20] : List F)).map f32)⟩, ⟨(u2 + 1), some (([x20] : List F).map f32)⟩]) rfl pun23 inf26 rfl rfl rfl rfl rfl rfl rfl rfl rfl (by simp) (ReadAs.own rfl (by simp)) (ones_map (fun _ => rfl)) (ap_by hm16) (ap_mx hm16) rfl ?_
    refine zA (r := oref 0 (u1 + 1) 0 (L3.length + 1)) rfl rfl rfl rfl rfl ?_
    refine zN ?_
    refine RunC.wl (τ' := [(0, ptr [i64 a0, sl a1.length (a1.map i64), sl a2.length (a2.map i64), sl a3.length (a3.map f32)]), (1, sl a4.length (a4.map f32)), (5, oref 0 (u1 + 1) 0 (L3.length + 1)), (6, i64 v4)]) (Γ' := [⟨(u1 + 1), some ((L3 ++ ([x20] : List F)).map f32)⟩, ⟨(u2 + 1), none⟩]) ⟨aR, aR, aR, aR, trivial⟩ ⟨⟨rfl, .inr rfl⟩, ⟨rfl, .inl rfl⟩, trivial⟩ ?_
    obtain ⟨x21, hx17, h7_⟩ := olet_some h7_
    refine RunC.regionW ?_
    refine zM (r := i64 v4) rfl rfl rfl rfl rfl ?_
    refine zL (r := i64 x21) rfl rfl rfl (LOp.eqr (LOp.add rfl rfl rfl) (congrArg (ik .i64) hx17)) ?_
    refine zA (r := i64 x21) rfl rfl rfl rfl rfl ?_
    refine zN ?_
    cases Option.some.inj h7_
    exact ⟨_, rfl, (u1 + 1), (u2 + 1), ⟨aR, aR, (ALe.eq (by rw [(app_len rfl rfl)] <;> rfl)), aR, trivial⟩, ⟨⟨rfl, .inr rfl⟩, ⟨rfl, .inl rfl⟩, trivial⟩⟩
  ·refine RunC.regionW ?_
   refine zM (r := i64 v4) rfl rfl rfl rfl rfl ?_
   refine zM (r := ptr [i64 a0, sl a1.length (a1.map i64), sl a2.length (a2.map i64), sl a3.length (a3.map f32)]) rfl rfl rfl rfl rfl ?_
   refine zL (r := ptr [i64 a0, sl a1.length (a1.map i64), sl a2.length (a2.map i64), sl a3.length (a3.map f32)]) rfl rfl rfl (LOp.nilCheck_ptr rfl rfl) ?_
   refine zL (r := ptr [i64 a0, sl a1.length (a1.map i64), sl a2.length (a2.map i64), sl a3.length (a3.map f32)]) rfl rfl rfl (LOp.fap und30 rfl siz2 rfl rfl rfl) ?_
   refine zL (r := i64 a0) rfl rfl rfl (LOp.load1 agg2 rfl rfl) ?_
   refine zL (r := b false) rfl rfl rfl (LOp.eqb (LOp.lss rfl rfl rfl) hc1) ?_
   refine zN ?_
   refine RunC.cond_false rfl rfl ?_
   refine RunC.exit ?_
   cases Option.some.inj h7_
   have hx := ho7 _ rfl
   exact ⟨L3, u1, u2, ⟨aR, aR, trivial⟩, ⟨⟨rfl, .inr rfl⟩, ⟨rfl, .inl rfl⟩, trivial⟩, hx⟩
 ·rintro τ10 Γ10 ⟨L24, u22, u23, hw10, hd10, rfl⟩
  refine RunC.wl hw10 hd10 ?_
  replace h : s_l05Solve_k3 a0 a1 a2 a3 L24 = some q0 := h
  unfold s_l05Solve_k3 at h
  refine RunC.seq ?_
  refine RunC.seq ?_
  obtain ⟨x25, hx18, h⟩ := olet_some h
  refine RunC.regionW ?_
  refine zM (r := ptr [i64 a0, sl a1.length (a1.map i64), sl a2.length (a2.map i64), sl a3.length (a3.map f32)]) rfl rfl rfl rfl rfl ?_
  refine zL (r := ptr [i64 a0, sl a1.length (a1.map i64), sl a2.length (a2.map i64), sl a3.length (a3.map f32)]) rfl rfl rfl (LOp.nilCheck_ptr rfl rfl) ?_
  refine zL (r := ptr [i64 a0, sl a1.length (a1.map i64), sl a2.length (a2.map i64), sl a3.length (a3.map f32)]) rfl rfl rfl (LOp.fap und30 rfl siz2 rfl rfl rfl) ?_
  refine zL (r := i64 a0) rfl rfl rfl (LOp.load1 agg2 rfl rfl) ?_
  refine zL (r := i64 x25) rfl rfl rfl (LOp.eqr (LOp.sub rfl rfl rfl) (congrArg (ik .i64) hx18)) ?_
  refine zA (r := i64 x25) rfl rfl rfl rfl rfl ?_
  refine zN ?_
  obtain ⟨z11, hz_11, h⟩ := obind_some h
  refine RunC.cutN (fun τ Γ => ∃ (L52 : List F), L52.length = L24.length ∧ WeakLe τ [(5, oref 0 u22 0 L24.length)] ∧ DeadLe Γ [⟨u22, some (L52.map f32)⟩, ⟨u23, none⟩] ∧ z11 = .inl L52) ?_ ?_
  ·refine RunC.block (RunC.loop (RunL.loopM (x := z11) (s_l05Solve_s6 a1 a2 a3) (fun (s : (List F) × Int) τ Γ => s.1.length = L24.length ∧ WeakLe τ [(0, ptr [i64 a0, sl a1.length (a1.map i64), sl a2.length (a2.map i64), sl a3.length (a3.map f32)]), (5, oref 0 u22 0 L24.length), (10, i64 s.2)] ∧ DeadLe Γ [⟨u22, some (s.1.map f32)⟩, ⟨u23, none⟩]) ?_ _ _ _ hz_11 ⟨rfl, ⟨aR, aR, aR, trivial⟩, ⟨⟨rfl, .inr rfl⟩, ⟨rfl, .inl rfl⟩, trivial⟩⟩))
   rintro ⟨L26, v28⟩ τ11 Γ11 y11_ ⟨hl27, hw11, hd11⟩ h11_ ho11 hr11
   refine RunC.wl (τ' := [(0, ptr [i64 a0, sl a1.length (a1.map i64), sl a2.length (a2.map i64), sl a3.length (a3.map f32)]), (5, oref 0 u22 0 L24.length), (10, i64 v28)]) (Γ' := [⟨u22, some (L26.map f32)⟩, ⟨u23, none⟩]) hw11 hd11 ?_
   replace hl27 : L26.length = L24.length := hl27
   replace h11_ : s_l05Solve_b6 a1 a2 a3 L26 v28 = some y11_ := h11_
   unfold s_l05Solve_b6 at h11_
   refine RunC.seq ?_
   refine RunC.seq ?_
   rcases bsel_some h11_ with ⟨hc19, h11_⟩ | ⟨hc19, h11_⟩
   ·refine RunC.regionW ?_
    refine zM (r := i64 v28) rfl rfl rfl rfl rfl ?_
    refine zL (r := b true) rfl rfl rfl (LOp.eqb (LOp.geq rfl rfl rfl) hc19) ?_
    refine zN ?_
    refine RunC.cond_true rfl rfl ?_
    refine RunC.skip ?_
    refine RunC.seq ?_
    refine RunC.block ?_
    refine RunC.seq ?_
    obtain ⟨x29, hx20, h11_⟩ := olet_some h11_
    obtain ⟨e30, he21, h11_⟩ := obind_some h11_
    obtain ⟨x31, hx22, h11_⟩ := olet_some h11_
    refine RunC.regionW ?_
    refine zM (r := ptr [i64 a0, sl a1.length (a1.map i64), sl a2.length (a2.map i64), sl a3.length (a3.map f32)]) rfl rfl rfl rfl rfl ?_
    refine zL (r := ptr [i64 a0, sl a1.length (a1.map i64), sl a2.length (a2.map i64), sl a3.length (a3.map f32)]) rfl rfl rfl (LOp.nilCheck_ptr rfl rfl) ?_
    refine zL (r := ptr [sl a1.length (a1.map i64), sl a2.length (a2.map i64), sl a3.length (a3.map f32)]) rfl rfl rfl (LOp.fap und30 rfl siz22 rfl rfl rfl) ?_
    refine zL (r := sl a1.length (a1.map i64)) rfl rfl rfl (LOp.load1 agg22 rfl rfl) ?_
    refine zM (r := i64 v28) rfl rfl rfl rfl rfl ?_
    refine zL (r := i64 x29) rfl rfl rfl (LOp.eqr (LOp.add rfl rfl rfl) (congrArg (ik .i64) hx20)) ?_
    refine zL (r := ptr [i64 e30]) rfl rfl rfl (LOp.le (LOp.ix (f := i64) und22 siz2 rfl rfl rfl rfl he21) ALe.ptr) ?_
    refine zL (r := i64 e30) rfl rfl rfl (LOp.load1 agg2 rfl rfl) ?_
    refine zL (r := i64 x31) rfl rfl rfl (LOp.eqr (LOp.sub rfl rfl rfl) (congrArg (ik .i64) hx22)) ?_
    refine zA (r := i64 x31) rfl rfl rfl rfl rfl ?_
    refine zN ?_
    refine RunC.seq ?_
    obtain ⟨e32, he23, h11_⟩ := obind_some h11_
    obtain ⟨e33, he24, h11_⟩ := obind_some h11_
    obtain ⟨x34, hx25, h11_⟩ := olet_some h11_
    obtain ⟨L35, he26, h11_⟩ := obind_some h11_
    refine RunC.region_draw (Γ' := [⟨u22, some (L26.map f32)⟩, ⟨u23, none⟩]) 15 mixed 
     (TR.l (r := oref 0 u22 0 L24.length) rfl rfl (LOp.move rfl rfl) <|
     (TR.l (r := i64 v28) rfl rfl (LOp.move rfl rfl) <|
     (TR.l (r := oref 0 u22 0 L24.length) rfl rfl (LOp.move rfl rfl) <|
     (TR.l (r := i64 v28) rfl rfl (LOp.move rfl rfl) <|
     (TR.d (r := optr 0 u22 v28.toNat) (fs := []) rfl rfl (TOp.ixo und23 siz26 rfl rfl rfl (at_in he23 hl27) rfl) <|
     (TR.d (r := f32 e32) (fs := []) rfl rfl (TOp.load1_o rfl (at_cell he23) agg26 rfl rfl) <|
     (TR.l (r := ptr [i64 a0, sl a1.length (a1.map i64), sl a2.length (a2.map i64), sl a3.length (a3.map f32)]) rfl rfl (LOp.move rfl rfl) <|
     (TR.l (r := ptr [i64 a0, sl a1.length (a1.map i64), sl a2.length (a2.map i64), sl a3.length (a3.map f32)]) rfl rfl (LOp.nilCheck_ptr rfl rfl) <|
     (TR.l (r := ptr [sl a3.length (a3.map f32)]) rfl rfl (LOp.fap und30 rfl siz23 rfl rfl rfl) <|
     (TR.l (r := sl a3.length (a3.map f32)) rfl rfl (LOp.load1 agg23 rfl rfl) <|
     (TR.l (r := i64 x31) rfl rfl (LOp.move rfl rfl) <|
     (TR.l (r := ptr [f32 e33]) rfl rfl (LOp.le (LOp.ix (f := f32) und23 siz26 rfl rfl rfl rfl he24) ALe.ptr) <|
     (TR.l (r := f32 e33) rfl rfl (LOp.load1 agg26 rfl rfl) <|
     (TR.d (r := f32 x34) (fs := []) rfl rfl (TOp.eqr (TOp.fop (.inr (.inr (.inr rfl))) rfl (OpF.tmp rfl) (OpF.tmp rfl)) (congrArg (f .f32) hx25)) <|
     (TR.d (r := optr 0 u22 v28.toNat) (fs := []) rfl rfl (TOp.ixo und23 siz26 rfl rfl rfl (set_in he26 hl27) rfl) <|
     TR.nil))))))))))))))) rfl (by kernel_rfl) rfl fills_nil rfl ?_
    iterate 15 refine ROps.dropS ?_
    refine ROps.drop0 ?_
    refine ROps.st (f := f32) (i := v28) (Γ' := [⟨u22, some (L35.map f32)⟩, ⟨u23, none⟩]) rfl siz26 rfl rfl rfl aR rfl rfl rfl he26 rfl ?_
    refine zN ?_
    refine RunC.wl (τ' := [(0, ptr [i64 a0, sl a1.length (a1.map i64), sl a2.length (a2.map i64), sl a3.length (a3.map f32)]), (5, oref 0 u22 0 L24.length), (10, i64 v28), (11, i64 x31)]) (Γ' := [⟨u22, some (L35.map f32)⟩, ⟨u23, none⟩]) ⟨aR, aR, aR, aR, trivial⟩ ⟨⟨rfl, .inr rfl⟩, ⟨rfl, .inl rfl⟩, trivial⟩ ?_
    refine RunC.seq ?_
    obtain ⟨e36, he27, h11_⟩ := obind_some h11_
    refine RunC.regionW ?_
    refine zM (r := ptr [i64 a0, sl a1.length (a1.map i64), sl a2.length (a2.map i64), sl a3.length (a3.map f32)]) rfl rfl rfl rfl rfl ?_
    refine zL (r := ptr [i64 a0, sl a1.length (a1.map i64), sl a2.length (a2.map i64), sl a3.length (a3.map f32)]) rfl rfl rfl (LOp.nilCheck_ptr rfl rfl) ?_
    refine zL (r := ptr [sl a1.length (a1.map i64), sl a2.length (a2.map i64), sl a3.length (a3.map f32)]) rfl rfl rfl (LOp.fap und30 rfl siz22 rfl rfl rfl) ?_
    refine zL (r := sl a1.length (a1.map i64)) rfl rfl rfl (LOp.load1 agg22 rfl rfl) ?_
    refine zM (r := i64 v28) rfl rfl rfl rfl rfl ?_
    refine zL (r := ptr [i64 e36]) rfl rfl rfl (LOp.le (LOp.ix (f := i64) und22 siz2 rfl rfl rfl rfl he27) ALe.ptr) ?_
    refine zL (r := i64 e36) rfl rfl rfl (LOp.load1 agg2 rfl rfl) ?_
    refine zA (r := i64 e36) rfl rfl rfl rfl rfl ?_
    refine zN ?_
    obtain ⟨z12, hz_12, h11_⟩ := obind_some h11_
    refine RunC.cutN (fun τ Γ => ∃ (L49 : List F), L49.length = L24.length ∧ WeakLe τ [(0, ptr [i64 a0, sl a1.length (a1.map i64), sl a2.length (a2.map i64), sl a3.length (a3.map f32)]), (5, oref 0 u22 0 L24.length), (10, i64 v28)] ∧ DeadLe Γ [⟨u22, some (L49.map f32)⟩, ⟨u23, none⟩] ∧ z12 = .inl L49) ?_ ?_
    ·refine RunC.block (RunC.loop (RunL.loopM (x := z12) (s_l05Solve_s5 a2 a3 v28 x31) (fun (s : (List F) × Int) τ Γ => s.1.length = L24.length ∧ WeakLe τ [(0, ptr [i64 a0, sl a1.length (a1.map i64), sl a2.length (a2.map i64), sl a3.length (a3.map f32)]), (5, oref 0 u22 0 L24.length), (10, i64 v28), (11, i64 x31), (12, i64 s.2)] ∧ DeadLe Γ [⟨u22, some (s.1.map f32)⟩, ⟨u23, none⟩]) ?_ _ _ _ hz_12 ⟨((setAt?_len he26).trans hl27), ⟨aR, aR, aR, aR, aR, trivial⟩, ⟨⟨rfl, .inr rfl⟩, ⟨rfl, .inl rfl⟩, trivial⟩⟩))
     rintro ⟨L37, v39⟩ τ12 Γ12 y12_ ⟨hl38, hw12, hd12⟩ h12_ ho12 hr12
     refine RunC.wl (τ' := [(0, ptr [i64 a0, sl a1.length (a1.map i64), sl a2.length (a2.map i64), sl a3.length (a3.map f32)]), (5, oref 0 u22 0 L24.length), (10, i64 v28), (11, i64 x31), (12, i64 v39)]) (Γ' := [⟨u22, some (L37.map f32)⟩, ⟨u23, none⟩]) hw12 hd12 ?_
     replace hl38 : L37.length = L24.length := hl38
     replace h12_ : s_l05Solve_b5 a2 a3 v28 x31 L37 v39 = some y12_ := h12_
     unfold s_l05Solve_b5 at h12_
     refine RunC.seq ?_
     refine RunC.seq ?_
     rcases bsel_some h12_ with ⟨hc28, h12_⟩ | ⟨hc28, h12_⟩
     ·refine RunC.regionW ?_
      refine zM (r := i64 v39) rfl rfl rfl rfl rfl ?_
      refine zM (r := i64 x31) rfl rfl rfl rfl rfl ?_
      refine zL (r := b true) rfl rfl rfl (LOp.eqb (LOp.lss rfl rfl rfl) hc28) ?_
      refine zN ?_
      refine RunC.cond_true rfl rfl ?_
      refine RunC.skip ?_
      refine RunC.seq ?_
      refine RunC.block ?_
      obtain ⟨e40, he29, h12_⟩ := obind_some h12_
      obtain ⟨e41, he30, h12_⟩ := obind_some h12_
      obtain ⟨e42, he31, h12_⟩ := obind_some h12_
      obtain ⟨e43, he32, h12_⟩ := obind_some h12_
      obtain ⟨e44, he33, h12_⟩ := obind_some h12_
      obtain ⟨x45, hx34, h12_⟩ := olet_some h12_
      obtain ⟨x46, hx35, h12_⟩ := olet_some h12_
      obtain ⟨L47, he36, h12_⟩ := obind_some h12_
      refine RunC.region_draw (Γ' := [⟨u22, some (L37.map f32)⟩, ⟨u23, none⟩]) 32 mixed 
       (TR.l (r := oref 0 u22 0 L24.length) rfl rfl (LOp.move rfl rfl) <|
       (TR.l (r := ptr [i64 a0, sl a1.length (a1.map i64), sl a2.length (a2.map i64), sl a3.length (a3.map f32)]) rfl rfl (LOp.move rfl rfl) <|
       (TR.l (r := ptr [i64 a0, sl a1.length (a1.map i64), sl a2.length (a2.map i64), sl a3.length (a3.map f32)]) rfl rfl (LOp.nilCheck_ptr rfl rfl) <|
       (TR.l (r := ptr [sl a2.length (a2.map i64), sl a3.length (a3.map f32)]) rfl rfl (LOp.fap und30 rfl siz22 rfl rfl rfl) <|
       (TR.l (r := sl a2.length (a2.map i64)) rfl rfl (LOp.load1 agg22 rfl rfl) <|
       (TR.l (r := i64 v39) rfl rfl (LOp.move rfl rfl) <|
       (TR.l (r := ptr [i64 e40]) rfl rfl (LOp.le (LOp.ix (f := i64) und22 siz2 rfl rfl rfl rfl he29) ALe.ptr) <|
       (TR.l (r := i64 e40) rfl rfl (LOp.load1 agg2 rfl rfl) <|
       (TR.l (r := oref 0 u22 0 L24.length) rfl rfl (LOp.move rfl rfl) <|
       (TR.l (r := ptr [i64 a0, sl a1.length (a1.map i64), sl a2.length (a2.map i64), sl a3.length (a3.map f32)]) rfl rfl (LOp.move rfl rfl) <|
       (TR.l (r := ptr [i64 a0, sl a1.length (a1.map i64), sl a2.length (a2.map i64), sl a3.length (a3.map f32)]) rfl rfl (LOp.nilCheck_ptr rfl rfl) <|
       (TR.l (r := ptr [sl a2.length (a2.map i64), sl a3.length (a3.map f32)]) rfl rfl (LOp.fap und30 rfl siz22 rfl rfl rfl) <|
       (TR.l (r := sl a2.length (a2.map i64)) rfl rfl (LOp.load1 agg22 rfl rfl) <|
       (TR.l (r := i64 v39) rfl rfl (LOp.move rfl rfl) <|
       (TR.l (r := ptr [i64 e41]) rfl rfl (LOp.le (LOp.ix (f := i64) und22 siz2 rfl rfl rfl rfl he30) ALe.ptr) <|
       (TR.l (r := i64 e41) rfl rfl (LOp.load1 agg2 rfl rfl) <|
       (TR.d (r := optr 0 u22 e41.toNat) (fs := []) rfl rfl (TOp.ixo und23 siz26 rfl rfl rfl (at_in he31 hl38) rfl) <|
       (TR.d (r := f32 e42) (fs := []) rfl rfl (TOp.load1_o rfl (at_cell he31) agg26 rfl rfl) <|
       (TR.l (r := ptr [i64 a0, sl a1.length (a1.map i64), sl a2.length (a2.map i64), sl a3.length (a3.map f32)]) rfl rfl (LOp.move rfl rfl) <|
       (TR.l (r := ptr [i64 a0, sl a1.length (a1.map i64), sl a2.length (a2.map i64), sl a3.length (a3.map f32)]) rfl rfl (LOp.nilCheck_ptr rfl rfl) <|
       (TR.l (r := ptr [sl a3.length (a3.map f32)]) rfl rfl (LOp.fap und30 rfl siz23 rfl rfl rfl) <|
       (TR.l (r := sl a3.length (a3.map f32)) rfl rfl (LOp.load1 agg23 rfl rfl) <|
       (TR.l (r := i64 v39) rfl rfl (LOp.move rfl rfl) <|
       (TR.l (r := ptr [f32 e43]) rfl rfl (LOp.le (LOp.ix (f := f32) und23 siz26 rfl rfl rfl rfl he32) ALe.ptr) <|
       (TR.l (r := f32 e43) rfl rfl (LOp.load1 agg26 rfl rfl) <|
       (TR.l (r := oref 0 u22 0 L24.length) rfl rfl (LOp.move rfl rfl) <|
       (TR.l (r := i64 v28) rfl rfl (LOp.move rfl rfl) <|
       (TR.d (r := optr 0 u22 v28.toNat) (fs := []) rfl rfl (TOp.ixo und23 siz26 rfl rfl rfl (at_in he33 hl38) rfl) <|
       (TR.d (r := f32 e44) (fs := []) rfl rfl (TOp.load1_o rfl (at_cell he33) agg26 rfl rfl) <|
       (TR.d (r := f32 x45) (fs := []) rfl rfl (TOp.eqr (TOp.fop (.inr (.inr (.inl rfl))) rfl (OpF.tmp rfl) (OpF.tmp rfl)) (congrArg (f .f32) hx34)) <|
       (TR.d (r := f32 x46) (fs := []) rfl rfl (TOp.eqr (TOp.fop (.inr (.inl rfl)) rfl (OpF.tmp rfl) (OpF.tmp rfl)) (congrArg (f .f32) hx35)) <|
       (TR.d (r := optr 0 u22 e40.toNat) (fs := []) rfl rfl (TOp.ixo und23 siz26 rfl rfl rfl (set_in he36 hl38) rfl) <|
       TR.nil)))))))))))))))))))))))))))))))) rfl (by kernel_rfl) rfl fills_nil rfl ?_
      iterate 32 refine ROps.dropS ?_
      refine ROps.drop0 ?_
      refine ROps.st (f := f32) (i := e40) (Γ' := [⟨u22, some (L47.map f32)⟩, ⟨u23, none⟩]) rfl siz26 rfl rfl rfl aR rfl rfl rfl he36 rfl ?_
      refine zN ?_
      refine RunC.wl (τ' := [(0, ptr [i64 a0, sl a1.length (a1.map i64), sl a2.length (a2.map i64), sl a3.length (a3.map f32)]), (5, oref 0 u22 0 L24.length), (10, i64 v28), (11, i64 x31), (12, i64 v39)]) (Γ' := [⟨u22, some (L47.map f32)⟩, ⟨u23, none⟩]) ⟨aR, aR, aR, aR, aR, trivial⟩ ⟨⟨rfl, .inr rfl⟩, ⟨rfl, .inl rfl⟩, trivial⟩ ?_
      obtain ⟨x48, hx37, h12_⟩ := olet_some h12_
      refine RunC.regionW ?_
      refine zM (r := i64 v39) rfl rfl rfl rfl rfl ?_
      refine zL (r := i64 x48) rfl rfl rfl (LOp.eqr (LOp.add rfl rfl rfl) (congrArg (ik .i64) hx37)) ?_
      refine zA (r := i64 x48) rfl rfl rfl rfl rfl ?_
      refine zN ?_
      cases Option.some.inj h12_
      exact ⟨_, rfl, ((setAt?_len he36).trans hl38), ⟨aR, aR, aR, aR, aR, trivial⟩, ⟨⟨rfl, .inr rfl⟩, ⟨rfl, .inl rfl⟩, trivial⟩⟩
     ·refine RunC.regionW ?_
      refine zM (r := i64 v39) rfl rfl rfl rfl rfl ?_
      refine zM (r := i64 x31) rfl rfl rfl rfl rfl ?_
      refine zL (r := b false) rfl rfl rfl (LOp.eqb (LOp.lss rfl rfl rfl) hc28) ?_
      refine zN ?_
      refine RunC.cond_false rfl rfl ?_
      refine RunC.exit ?_
      cases Option.some.inj h12_
      have hx := ho12 _ rfl
      exact ⟨L37, hl38, ⟨aR, aR, aR, trivial⟩, ⟨⟨rfl, .inr rfl⟩, ⟨rfl, .inl rfl⟩, trivial⟩, hx⟩
    ·rintro τ13 Γ13 ⟨L49, hl50, hw13, hd13, rfl⟩
     refine RunC.wl hw13 hd13 ?_
     replace h11_ : s_l05Solve_k5 v28 L49 = some y11_ := h11_
     unfold s_l05Solve_k5 at h11_
     obtain ⟨x51, hx38, h11_⟩ := olet_some h11_
     refine RunC.regionW ?_
     refine zM (r := i64 v28) rfl rfl rfl rfl rfl ?_
     refine zL (r := i64 x51) rfl rfl rfl (LOp.eqr (LOp.sub rfl rfl rfl) (congrArg (ik .i64) hx38)) ?_
     refine zA (r := i64 x51) rfl rfl rfl rfl rfl ?_
     refine zN ?_
     cases Option.some.inj h11_
     exact ⟨_, rfl, hl50, ⟨aR, aR, aR, trivial⟩, ⟨⟨rfl, .inr rfl⟩, ⟨rfl, .inl rfl⟩, trivial⟩⟩
   ·refine RunC.regionW ?_
    refine zM (r := i64 v28) rfl rfl rfl rfl rfl ?_
    refine zL (r := b false) rfl rfl rfl (LOp.eqb (LOp.geq rfl rfl rfl) hc19) ?_
    refine zN ?_
    refine RunC.cond_false rfl rfl ?_
    refine RunC.exit ?_
    cases Option.some.inj h11_
    have hx := ho11 _ rfl
    exact ⟨L26, hl27, ⟨aR, trivial⟩, ⟨⟨rfl, .inr rfl⟩, ⟨rfl, .inl rfl⟩, trivial⟩, hx⟩
  ·rintro τ14 Γ14 ⟨L52, hl53, hw14, hd14, rfl⟩
   refine RunC.wl hw14 hd14 ?_
   replace h : s_l05Solve_k6 L52 = some q0 := h
   unfold s_l05Solve_k6 at h
   refine zQ ?_
   refine zM (r := oref 0 u22 0 L24.length) rfl rfl rfl rfl rfl ?_
   refine zA (r := oref 0 u22 0 L24.length) rfl rfl rfl rfl rfl ?_
   refine zN ?_
   refine RunC.ret ?_
   have hq := Option.some.inj h
   subst q0
   exact bodyQ.mk (r' := oref 0 u22 0 L52.length) [(0, u22)] (.inr rfl) rfl (show List.Nodup [0] from by decide) (by simp [ren, rens, sigma]) rfl (Res.eq (Res.one rfl (RV.tmp rfl)) (by rw [(show L52.length = L24.length from hl53)] <;> rfl)) (SelL.arr0 (f := f32) (fun _ => rfl) rfl trivial)
noncomputable def s_l02Dot_b1 (a0 : List F) (a1 : List F) (y1 : F) (v2 : Int) : Option (LR (F × Int) (F) (F)) :=
 bsel (decide (v2 < (a0.length : Int))) (
  obind (at? a0 v2) fun (e3 : F) =>
  obind (at? a1 v2) fun (e4 : F) =>
  olet (fop .mul .f32 e3 e4) fun (x5 : F) =>
  olet (fop .add .f32 y1 x5) fun (x6 : F) =>
  olet (IntKind.i64.wrap (v2 + 1)) fun (x7 : Int) =>
  some (LR.next (x6, x7))) (
  some (LR.out y1))
noncomputable def s_l02Dot_s1 (a0 : List F) (a1 : List F) : (F × Int) → Option (LR (F × Int) (F) (F)) := fun s => s_l02Dot_b1 a0 a1 s.1 s.2
noncomputable def s_l02Dot_k1 (y8 : F) : Option (F) :=
 some y8
noncomputable def s_l02Dot (a0 : List F) (a1 : List F) : Option (F) :=
 obind (loopM (s_l02Dot_s1 a0 a1) (some 0, 0)) fun z => osum z (fun e => s_l02Dot_k1 e) (fun r => some r)
theorem s_l02Dot_ok (a0 : List F) (a1 : List F) (q0 : F) (h : s_l02Dot a0 a1 = some q0) : Ev Try.prog 81 [sl a0.length (a0.map f32), sl a1.length (a1.map f32)] [] (f32 q0) [] := by
 refine Ev.start Try.func81 rfl rfl 0 (τ := [(0, sl a0.length (a0.map f32)), (1, sl a1.length (a1.map f32))]) rfl (Γ' := []) rfl (n := 51) rfl (g := 0) rfl (fun _ => rfl) ?_
 unfold s_l02Dot at h
 refine zQ ?_
 refine zL (r := f32 (some 0)) rfl rfl rfl (LOp.le (LOp.assign rfl rfl) (ALe.fl (by kernel_rfl) (by kernel_rfl))) ?_
 refine zN ?_
 refine zQ ?_
 refine zL (r := f32 (some 0)) rfl rfl rfl (LOp.le (LOp.assign rfl rfl) (ALe.fl (by kernel_rfl) (by kernel_rfl))) ?_
 refine zN ?_
 refine RunC.seq ?_
 refine zQ ?_
 refine zA (r := i64 0) rfl rfl rfl rfl rfl ?_
 refine zN ?_
 obtain ⟨z2, hz_2, h⟩ := obind_some h
 refine RunC.cutN (fun τ Γ => ∃ (y8 : F), WeakLe τ [(5, f32 y8)] ∧ DeadLe Γ [] ∧ z2 = .inl y8) ?_ ?_
 ·refine RunC.block (RunC.loop (RunL.loopM (x := z2) (s_l02Dot_s1 a0 a1) (fun (s : F × Int) τ Γ => WeakLe τ [(0, sl a0.length (a0.map f32)), (1, sl a1.length (a1.map f32)), (5, f32 s.1), (6, i64 s.2)] ∧ DeadLe Γ []) ?_ _ _ _ hz_2 ⟨⟨aR, aR, aR, aR, trivial⟩, trivial⟩))
  rintro ⟨y1, v2⟩ τ2 Γ2 y2_ ⟨hw2, hd2⟩ h2_ ho2 hr2
  refine RunC.wl (τ' := [(0, sl a0.length (a0.map f32)), (1, sl a1.length (a1.map f32)), (5, f32 y1), (6, i64 v2)]) (Γ' := []) hw2 hd2 ?_
  replace h2_ : s_l02Dot_b1 a0 a1 y1 v2 = some y2_ := h2_
  unfold s_l02Dot_b1 at h2_
  refine RunC.seq ?_
  refine RunC.seq ?_
  rcases bsel_some h2_ with ⟨hc1, h2_⟩ | ⟨hc1, h2_⟩
  ·refine RunC.regionW ?_
   refine zM (r := i64 v2) rfl rfl rfl rfl rfl ?_
   refine zM (r := sl a0.length (a0.map f32)) rfl rfl rfl rfl rfl ?_
   refine zL (r := i64 (a0.length : Int)) rfl rfl rfl (LOp.len_sl und23 rfl rfl) ?_
   refine zL (r := b true) rfl rfl rfl (LOp.eqb (LOp.lss rfl rfl rfl) hc1) ?_
   refine zN ?_
   refine RunC.cond_true rfl rfl ?_
   refine RunC.skip ?_
   refine RunC.seq ?_
   refine RunC.block ?_
   obtain ⟨e3, he2, h2_⟩ := obind_some h2_
   obtain ⟨e4, he3, h2_⟩ := obind_some h2_
   obtain ⟨x5, hx4, h2_⟩ := olet_some h2_
   obtain ⟨x6, hx5, h2_⟩ := olet_some h2_
   refine RunC.region_draw (Γ' := []) 12 mixed 
    (TR.l (r := f32 y1) rfl rfl (LOp.move rfl rfl) <|
    (TR.l (r := sl a0.length (a0.map f32)) rfl rfl (LOp.move rfl rfl) <|
    (TR.l (r := i64 v2) rfl rfl (LOp.move rfl rfl) <|
    (TR.l (r := ptr [f32 e3]) rfl rfl (LOp.le (LOp.ix (f := f32) und23 siz26 rfl rfl rfl rfl he2) ALe.ptr) <|
    (TR.l (r := f32 e3) rfl rfl (LOp.load1 agg26 rfl rfl) <|
    (TR.l (r := sl a1.length (a1.map f32)) rfl rfl (LOp.move rfl rfl) <|
    (TR.l (r := i64 v2) rfl rfl (LOp.move rfl rfl) <|
    (TR.l (r := ptr [f32 e4]) rfl rfl (LOp.le (LOp.ix (f := f32) und23 siz26 rfl rfl rfl rfl he3) ALe.ptr) <|
    (TR.l (r := f32 e4) rfl rfl (LOp.load1 agg26 rfl rfl) <|
    (TR.d (r := f32 x5) (fs := []) rfl rfl (TOp.eqr (TOp.fop (.inr (.inr (.inl rfl))) rfl (OpF.tmp rfl) (OpF.tmp rfl)) (congrArg (f .f32) hx4)) <|
    (TR.d (r := f32 x6) (fs := []) rfl rfl (TOp.eqr (TOp.fop (.inl rfl) rfl (OpF.tmp rfl) (OpF.tmp rfl)) (congrArg (f .f32) hx5)) <|
    (TR.l (r := f32 x6) rfl rfl (LOp.assign rfl rfl) <|
    TR.nil)))))))))))) rfl (by kernel_rfl) rfl fills_nil rfl ?_
   iterate 12 refine ROps.dropS ?_
   refine ROps.drop0 ?_
   refine zN ?_
   refine RunC.wl (τ' := [(0, sl a0.length (a0.map f32)), (1, sl a1.length (a1.map f32)), (5, f32 x6), (6, i64 v2)]) (Γ' := []) ⟨aR, aR, aR, aR, trivial⟩ trivial ?_
   obtain ⟨x7, hx6, h2_⟩ := olet_some h2_
   refine RunC.regionW ?_
   refine zM (r := i64 v2) rfl rfl rfl rfl rfl ?_
   refine zL (r := i64 x7) rfl rfl rfl (LOp.eqr (LOp.add rfl rfl rfl) (congrArg (ik .i64) hx6)) ?_
   refine zA (r := i64 x7) rfl rfl rfl rfl rfl ?_
   refine zN ?_
   cases Option.some.inj h2_
   exact ⟨_, rfl, ⟨aR, aR, aR, aR, trivial⟩, trivial⟩
  ·refine RunC.regionW ?_
   refine zM (r := i64 v2) rfl rfl rfl rfl rfl ?_
   refine zM (r := sl a0.length (a0.map f32)) rfl rfl rfl rfl rfl ?_
   refine zL (r := i64 (a0.length : Int)) rfl rfl rfl (LOp.len_sl und23 rfl rfl) ?_
   refine zL (r := b false) rfl rfl rfl (LOp.eqb (LOp.lss rfl rfl rfl) hc1) ?_
   refine zN ?_
   refine RunC.cond_false rfl rfl ?_
   refine RunC.exit ?_
   cases Option.some.inj h2_
   have hx := ho2 _ rfl
   exact ⟨y1, ⟨aR, trivial⟩, trivial, hx⟩
 ·rintro τ3 Γ3 ⟨y8, hw3, hd3, rfl⟩
  refine RunC.wl hw3 hd3 ?_
  replace h : s_l02Dot_k1 y8 = some q0 := h
  unfold s_l02Dot_k1 at h
  refine zQ ?_
  refine zM (r := f32 y8) rfl rfl rfl rfl rfl ?_
  refine zA (r := f32 y8) rfl rfl rfl rfl rfl ?_
  refine zN ?_
  refine RunC.ret ?_
  have hq := Option.some.inj h
  subst q0
  exact bodyQ.pure (.inr rfl) rfl (Res.one rfl (RV.tmp rfl))
noncomputable def x_math_Sqrt (a0 : F) : Option (F) :=
 olet (fsqrt a0) fun (x1 : F) =>
 some x1
theorem x_math_Sqrt_ok (a0 : F) (q0 : F) (h : x_math_Sqrt a0 = some q0) : Ev Try.prog 101 [f64 a0] [] (f64 q0) [] := by
 refine Ev.start Try.func101 rfl rfl 0 (τ := [(0, f64 a0)]) rfl (Γ' := []) rfl (n := 11) rfl (g := 0) rfl (fun _ => rfl) ?_
 unfold x_math_Sqrt at h
 refine zQ ?_
 refine zL (r := f64 (some 0)) rfl rfl rfl (LOp.le (LOp.assign rfl rfl) (ALe.fl (by kernel_rfl) (by kernel_rfl))) ?_
 refine zN ?_
 refine RunC.seq ?_
 obtain ⟨x1, hx1, h⟩ := olet_some h
 refine RunC.regionW ?_
 refine zM (r := f64 a0) rfl rfl rfl rfl rfl ?_
 refine ROps.d (r := f64 x1) (fs := []) (Γ' := []) rfl rfl rfl (TOp.eqr (TOp.fsqrt ext128 rfl (OpF.tmp rfl)) (congrArg (f .f64) hx1)) rfl ?_
 refine zA (r := f64 x1) rfl rfl rfl rfl rfl ?_
 refine zN ?_
 refine RunC.ret ?_
 have hq := Option.some.inj h
 subst q0
 exact bodyQ.pure (.inr rfl) rfl (Res.one rfl (RV.tmp rfl))
noncomputable def s_l01Narrow (a0 : F) : Option (F) :=
 obind (fnarrow a0) fun (y1 : F) =>
 some y1
theorem s_l01Narrow_ok (a0 : F) (q0 : F) (h : s_l01Narrow a0 = some q0) : Ev Try.prog 100 [f64 a0] [] (f32 q0) [] := by
 refine Ev.start Try.func100 rfl rfl 0 (τ := [(0, f64 a0)]) rfl (Γ' := []) rfl (n := 11) rfl (g := 0) rfl (fun _ => rfl) ?_
 unfold s_l01Narrow at h
 refine zQ ?_
 refine zL (r := f32 (some 0)) rfl rfl rfl (LOp.le (LOp.assign rfl rfl) (ALe.fl (by kernel_rfl) (by kernel_rfl))) ?_
 refine zN ?_
 refine RunC.seq ?_
 obtain ⟨y1, hy1, h⟩ := obind_some h
 refine RunC.regionW ?_
 refine zM (r := f64 a0) rfl rfl rfl rfl rfl ?_
 refine ROps.d (r := f32 y1) (fs := []) (Γ' := []) rfl rfl rfl (TOp.narrow (src := 62) (dst := 26) ⟨_, pun62⟩ pun26 rfl (OpF.tmp rfl) hy1) rfl ?_
 refine zA (r := f32 y1) rfl rfl rfl rfl rfl ?_
 refine zN ?_
 refine RunC.ret ?_
 have hq := Option.some.inj h
 subst q0
 exact bodyQ.pure (.inr rfl) rfl (Res.one rfl (RV.tmp rfl))
noncomputable def s_l01Sqrt (a0 : F) : Option (F) :=
 olet (fwiden a0) fun (x1 : F) =>
 obind (x_math_Sqrt x1) fun (r2 : F) =>
 obind (s_l01Narrow r2) fun (r3 : F) =>
 some r3
theorem s_l01Sqrt_ok (a0 : F) (q0 : F) (h : s_l01Sqrt a0 = some q0) : Ev Try.prog 48 [f32 a0] [] (f32 q0) [] := by
 refine Ev.start Try.func48 rfl rfl 0 (τ := [(0, f32 a0)]) rfl (Γ' := []) rfl (n := 15) rfl (g := 0) rfl (fun _ => rfl) ?_
 unfold s_l01Sqrt at h
 refine zQ ?_
 refine zL (r := f32 (some 0)) rfl rfl rfl (LOp.le (LOp.assign rfl rfl) (ALe.fl (by kernel_rfl) (by kernel_rfl))) ?_
 refine zN ?_
 refine RunC.seq ?_
 obtain ⟨x1, hx1, h⟩ := olet_some h
 obtain ⟨r2, hf2, h⟩ := obind_some h
 obtain ⟨r3, hf3, h⟩ := obind_some h
 refine RunC.regionW ?_
 refine zM (r := f32 a0) rfl rfl rfl rfl rfl ?_
 refine ROps.d (r := f64 x1) (fs := []) (Γ' := []) rfl rfl rfl (TOp.eqr (TOp.widen (src := 26) (dst := 62) ⟨_, pun26⟩ pun62 rfl (OpF.tmp rfl)) (congrArg (f .f64) hx1)) rfl ?_
 refine ROps.d (r := f64 r2) (fs := []) (Γ' := []) rfl rfl rfl (TOp.callB (CallAs.func ent101 rfl rfl) (Bors.cons (Bor.pure rfl) Bors.nil) rfl rfl (x_math_Sqrt_ok x1 r2 hf2)) rfl ?_
 refine ROps.d (r := f32 r3) (fs := []) (Γ' := []) rfl rfl rfl (TOp.callB (CallAs.func ent100 rfl rfl) (Bors.cons (Bor.pure rfl) Bors.nil) rfl rfl (s_l01Narrow_ok r2 r3 hf3)) rfl ?_
 refine zA (r := f32 r3) rfl rfl rfl rfl rfl ?_
 refine zN ?_
 refine RunC.ret ?_
 have hq := Option.some.inj h
 subst q0
 exact bodyQ.pure (.inr rfl) rfl (Res.one rfl (RV.tmp rfl))
noncomputable def s_l05Norm (a0 : List F) : Option (F) :=
 obind (s_l02Dot a0 a0) fun (r1 : F) =>
 obind (s_l01Sqrt r1) fun (r2 : F) =>
 some r2
theorem s_l05Norm_ok (a0 : List F) (q0 : F) (h : s_l05Norm a0 = some q0) : Ev Try.prog 82 [sl a0.length (a0.map f32)] [] (f32 q0) [] := by
 refine Ev.start Try.func82 rfl rfl 0 (τ := [(0, sl a0.length (a0.map f32))]) rfl (Γ' := []) rfl (n := 15) rfl (g := 0) rfl (fun _ => rfl) ?_
 unfold s_l05Norm at h
 refine zQ ?_
 refine zL (r := f32 (some 0)) rfl rfl rfl (LOp.le (LOp.assign rfl rfl) (ALe.fl (by kernel_rfl) (by kernel_rfl))) ?_
 refine zN ?_
 refine RunC.seq ?_
 obtain ⟨r1, hf1, h⟩ := obind_some h
 obtain ⟨r2, hf2, h⟩ := obind_some h
 refine RunC.regionW ?_
 refine zM (r := sl a0.length (a0.map f32)) rfl rfl rfl rfl rfl ?_
 refine zM (r := sl a0.length (a0.map f32)) rfl rfl rfl rfl rfl ?_
 refine ROps.d (r := f32 r1) (fs := []) (Γ' := []) rfl rfl rfl (TOp.callB (CallAs.func ent81 rfl rfl) (Bors.cons (Bor.sl (fun _ => rfl)) (Bors.cons (Bor.sl (fun _ => rfl)) Bors.nil)) rfl rfl (s_l02Dot_ok a0 a0 r1 hf1)) rfl ?_
 refine ROps.d (r := f32 r2) (fs := []) (Γ' := []) rfl rfl rfl (TOp.callB (CallAs.func ent48 rfl rfl) (Bors.cons (Bor.pure rfl) Bors.nil) rfl rfl (s_l01Sqrt_ok r1 r2 hf2)) rfl ?_
 refine zA (r := f32 r2) rfl rfl rfl rfl rfl ?_
 refine zN ?_
 refine RunC.ret ?_
 have hq := Option.some.inj h
 subst q0
 exact bodyQ.pure (.inr rfl) rfl (Res.one rfl (RV.tmp rfl))
noncomputable def s_l05Times_b2 (a1 : List Int) (a2 : List Int) (a3 : List F) (a4 : List F) (v4 : Int) (y6 : F) (v7 : Int) : Option (LR (F × Int) (F) ((List F))) :=
 olet (IntKind.i64.wrap (v4 + 1)) fun (x8 : Int) =>
 obind (at? a1 x8) fun (e9 : Int) =>
 bsel (decide (v7 < e9)) (
  obind (at? a3 v7) fun (e10 : F) =>
  obind (at? a2 v7) fun (e11 : Int) =>
  obind (at? a4 e11) fun (e12 : F) =>
  olet (fop .mul .f32 e10 e12) fun (x13 : F) =>
  olet (fop .add .f32 y6 x13) fun (x14 : F) =>
  olet (IntKind.i64.wrap (v7 + 1)) fun (x15 : Int) =>
  some (LR.next (x14, x15))) (
  some (LR.out y6))
noncomputable def s_l05Times_s2 (a1 : List Int) (a2 : List Int) (a3 : List F) (a4 : List F) (v4 : Int) : (F × Int) → Option (LR (F × Int) (F) ((List F))) := fun s => s_l05Times_b2 a1 a2 a3 a4 v4 s.1 s.2
noncomputable def s_l05Times_k2 (L3 : List F) (v4 : Int) (y16 : F) : Option (LR ((List F) × Int) ((List F)) ((List F))) :=
 need (apok 4 L3.length 1) <|
 olet (IntKind.i64.wrap (v4 + 1)) fun (x17 : Int) =>
 some (LR.next ((L3 ++ ([y16] : List F)), x17))
noncomputable def s_l05Times_b3 (a0 : Int) (a1 : List Int) (a2 : List Int) (a3 : List F) (a4 : List F) (L3 : List F) (v4 : Int) : Option (LR ((List F) × Int) ((List F)) ((List F))) :=
 bsel (decide (v4 < a0)) (
  obind (at? a1 v4) fun (e5 : Int) =>
  obind (loopM (s_l05Times_s2 a1 a2 a3 a4 v4) (some 0, e5)) fun z => osum z (fun e => s_l05Times_k2 L3 v4 e) (fun r => some (LR.ret r))) (
  some (LR.out L3))
noncomputable def s_l05Times_s3 (a0 : Int) (a1 : List Int) (a2 : List Int) (a3 : List F) (a4 : List F) : ((List F) × Int) → Option (LR ((List F) × Int) ((List F)) ((List F))) := fun s => s_l05Times_b3 a0 a1 a2 a3 a4 s.1 s.2
noncomputable def s_l05Times_k3 (L20 : List F) : Option ((List F)) :=
 some L20
noncomputable def s_l05Times (a0 : Int) (a1 : List Int) (a2 : List Int) (a3 : List F) (a4 : List F) : Option ((List F)) :=
 obind (loopM (s_l05Times_s3 a0 a1 a2 a3 a4) (([] : List F), 0)) fun z => osum z (fun e => s_l05Times_k3 e) (fun r => some r)
theorem s_l05Times_ok (a0 : Int) (a1 : List Int) (a2 : List Int) (a3 : List F) (a4 : List F) (q0 : List F) (h : s_l05Times a0 a1 a2 a3 a4 = some q0) : Ev Try.prog 83 [ptr [i64 a0, sl a1.length (a1.map i64), sl a2.length (a2.map i64), sl a3.length (a3.map f32)], sl a4.length (a4.map f32)] [] (oref 0 0 0 q0.length) [⟨0, some (q0.map f32)⟩] := by
 refine Ev.start Try.func83 rfl rfl 2 (τ := [(0, ptr [i64 a0, sl a1.length (a1.map i64), sl a2.length (a2.map i64), sl a3.length (a3.map f32)]), (1, sl a4.length (a4.map f32))]) rfl (Γ' := [⟨0, none⟩, ⟨0, none⟩]) rfl (n := 125) rfl (g := 0) rfl (fun _ => rfl) ?_
 unfold s_l05Times at h
 refine zQ ?_
 refine zA (r := nilsl) rfl rfl rfl rfl rfl ?_
 refine zN ?_
 refine zQ ?_
 refine ROps.d (r := oref 0 1 0 0) (fs := [(0, (([] : List F).map f32))]) (Γ' := [⟨1, some (([] : List F).map f32)⟩, ⟨0, none⟩]) rfl rfl rfl (TOp.buildSlice_o (g := ⟨0, none⟩) (za := f32 (some 0)) (qs := []) 0 rfl und23 siz26 zer26 rfl zel26 rfl rfl trivial rfl) rfl ?_
 refine zA (r := oref 0 1 0 0) rfl rfl rfl rfl rfl ?_
 refine zN ?_
 refine RunC.seq ?_
 refine zQ ?_
 refine zA (r := i64 0) rfl rfl rfl rfl rfl ?_
 refine zN ?_
 obtain ⟨z4, hz_4, h⟩ := obind_some h
 refine RunC.cutN (fun τ Γ => ∃ (L20 : List F) (u18 : Nat) (u19 : Nat), WeakLe τ [(5, oref 0 u18 0 L20.length)] ∧ DeadLe Γ [⟨u18, some (L20.map f32)⟩, ⟨u19, none⟩] ∧ z4 = .inl L20) ?_ ?_
 ·refine RunC.block (RunC.loop (RunL.loopM (x := z4) (s_l05Times_s3 a0 a1 a2 a3 a4) (fun (s : (List F) × Int) τ Γ => ∃ (u1 : Nat) (u2 : Nat), WeakLe τ [(0, ptr [i64 a0, sl a1.length (a1.map i64), sl a2.length (a2.map i64), sl a3.length (a3.map f32)]), (1, sl a4.length (a4.map f32)), (5, oref 0 u1 0 s.1.length), (6, i64 s.2)] ∧ DeadLe Γ [⟨u1, some (s.1.map f32)⟩, ⟨u2, none⟩]) ?_ _ _ _ hz_4 ⟨1, 0, ⟨aR, aR, aR, aR, trivial⟩, ⟨⟨rfl, .inr rfl⟩, ⟨rfl, .inl rfl⟩, trivial⟩⟩))
  rintro ⟨L3, v4⟩ τ4 Γ4 y4_ ⟨u1, u2, hw4, hd4⟩ h4_ ho4 hr4
  refine RunC.wl (τ' := [(0, ptr [i64 a0, sl a1.length (a1.map i64), sl a2.length (a2.map i64), sl a3.length (a3.map f32)]), (1, sl a4.length (a4.map f32)), (5, oref 0 u1 0 L3.length), (6, i64 v4)]) (Γ' := [⟨u1, some (L3.map f32)⟩, ⟨u2, none⟩]) hw4 hd4 ?_
  replace h4_ : s_l05Times_b3 a0 a1 a2 a3 a4 L3 v4 = some y4_ := h4_
  unfold s_l05Times_b3 at h4_
  refine RunC.seq ?_
  refine RunC.seq ?_
  rcases bsel_some h4_ with ⟨hc1, h4_⟩ | ⟨hc1, h4_⟩
  ·refine RunC.regionW ?_
   refine zM (r := i64 v4) rfl rfl rfl rfl rfl ?_
   refine zM (r := ptr [i64 a0, sl a1.length (a1.map i64), sl a2.length (a2.map i64), sl a3.length (a3.map f32)]) rfl rfl rfl rfl rfl ?_
   refine zL (r := ptr [i64 a0, sl a1.length (a1.map i64), sl a2.length (a2.map i64), sl a3.length (a3.map f32)]) rfl rfl rfl (LOp.nilCheck_ptr rfl rfl) ?_
   refine zL (r := ptr [i64 a0, sl a1.length (a1.map i64), sl a2.length (a2.map i64), sl a3.length (a3.map f32)]) rfl rfl rfl (LOp.fap und30 rfl siz2 rfl rfl rfl) ?_
   refine zL (r := i64 a0) rfl rfl rfl (LOp.load1 agg2 rfl rfl) ?_
   refine zL (r := b true) rfl rfl rfl (LOp.eqb (LOp.lss rfl rfl rfl) hc1) ?_
   refine zN ?_
   refine RunC.cond_true rfl rfl ?_
   refine RunC.skip ?_
   refine RunC.seq ?_
   refine RunC.block ?_
   refine zQ ?_
   refine zL (r := f32 (some 0)) rfl rfl rfl (LOp.le (LOp.assign rfl rfl) (ALe.fl (by kernel_rfl) (by kernel_rfl))) ?_
   refine zN ?_
   refine RunC.seq ?_
   refine RunC.seq ?_
   obtain ⟨e5, he2, h4_⟩ := obind_some h4_
   refine RunC.regionW ?_
   refine zM (r := ptr [i64 a0, sl a1.length (a1.map i64), sl a2.length (a2.map i64), sl a3.length (a3.map f32)]) rfl rfl rfl rfl rfl ?_
   refine zL (r := ptr [i64 a0, sl a1.length (a1.map i64), sl a2.length (a2.map i64), sl a3.length (a3.map f32)]) rfl rfl rfl (LOp.nilCheck_ptr rfl rfl) ?_
   refine zL (r := ptr [sl a1.length (a1.map i64), sl a2.length (a2.map i64), sl a3.length (a3.map f32)]) rfl rfl rfl (LOp.fap und30 rfl siz22 rfl rfl rfl) ?_
   refine zL (r := sl a1.length (a1.map i64)) rfl rfl rfl (LOp.load1 agg22 rfl rfl) ?_
   refine zM (r := i64 v4) rfl rfl rfl rfl rfl ?_
   refine zL (r := ptr [i64 e5]) rfl rfl rfl (LOp.le (LOp.ix (f := i64) und22 siz2 rfl rfl rfl rfl he2) ALe.ptr) ?_
   refine zL (r := i64 e5) rfl rfl rfl (LOp.load1 agg2 rfl rfl) ?_
   refine zA (r := i64 e5) rfl rfl rfl rfl rfl ?_
   refine zN ?_
   refine RunC.wl (τ' := [(0, ptr [i64 a0, sl a1.length (a1.map i64), sl a2.length (a2.map i64), sl a3.length (a3.map f32)]), (1, sl a4.length (a4.map f32)), (5, oref 0 u1 0 L3.length), (6, i64 v4), (7, f32 (some 0)), (8, i64 e5)]) (Γ' := [⟨u1, some (L3.map f32)⟩, ⟨u2, none⟩]) ⟨aR, aR, aR, aR, aR, aR, trivial⟩ ⟨⟨rfl, .inr rfl⟩, ⟨rfl, .inl rfl⟩, trivial⟩ ?_
   obtain ⟨z5, hz_5, h4_⟩ := obind_some h4_
   refine RunC.cutN (fun τ Γ => ∃ (y16 : F), WeakLe τ [(0, ptr [i64 a0, sl a1.length (a1.map i64), sl a2.length (a2.map i64), sl a3.length (a3.map f32)]), (1, sl a4.length (a4.map f32)), (5, oref 0 u1 0 L3.length), (6, i64 v4), (7, f32 y16)] ∧ DeadLe Γ [⟨u1, some (L3.map f32)⟩, ⟨u2, none⟩] ∧ z5 = .inl y16) ?_ ?_
   ·refine RunC.block (RunC.loop (RunL.loopM (x := z5) (s_l05Times_s2 a1 a2 a3 a4 v4) (fun (s : F × Int) τ Γ => WeakLe τ [(0, ptr [i64 a0, sl a1.length (a1.map i64), sl a2.length (a2.map i64), sl a3.length (a3.map f32)]), (1, sl a4.length (a4.map f32)), (5, oref 0 u1 0 L3.length), (6, i64 v4), (7, f32 s.1), (8, i64 s.2)] ∧ DeadLe Γ [⟨u1, some (L3.map f32)⟩, ⟨u2, none⟩]) ?_ _ _ _ hz_5 ⟨⟨aR, aR, aR, aR, aR, aR, trivial⟩, ⟨⟨rfl, .inr rfl⟩, ⟨rfl, .inl rfl⟩, trivial⟩⟩))
    rintro ⟨y6, v7⟩ τ5 Γ5 y5_ ⟨hw5, hd5⟩ h5_ ho5 hr5
    refine RunC.wl (τ' := [(0, ptr [i64 a0, sl a1.length (a1.map i64), sl a2.length (a2.map i64), sl a3.length (a3.map f32)]), (1, sl a4.length (a4.map f32)), (5, oref 0 u1 0 L3.length), (6, i64 v4), (7, f32 y6), (8, i64 v7)]) (Γ' := [⟨u1, some (L3.map f32)⟩, ⟨u2, none⟩]) hw5 hd5 ?_
    replace h5_ : s_l05Times_b2 a1 a2 a3 a4 v4 y6 v7 = some y5_ := h5_
    unfold s_l05Times_b2 at h5_
    refine RunC.seq ?_
    refine RunC.seq ?_
    obtain ⟨x8, hx3, h5_⟩ := olet_some h5_
    obtain ⟨e9, he4, h5_⟩ := obind_some h5_
    rcases bsel_some h5_ with ⟨hc5, h5_⟩ | ⟨hc5, h5_⟩
    ·refine RunC.regionW ?_
     refine zM (r := i64 v7) rfl rfl rfl rfl rfl ?_
     refine zM (r := ptr [i64 a0, sl a1.length (a1.map i64), sl a2.length (a2.map i64), sl a3.length (a3.map f32)]) rfl rfl rfl rfl rfl ?_
     refine zL (r := ptr [i64 a0, sl a1.length (a1.map i64), sl a2.length (a2.map i64), sl a3.length (a3.map f32)]) rfl rfl rfl (LOp.nilCheck_ptr rfl rfl) ?_
     refine zL (r := ptr [sl a1.length (a1.map i64), sl a2.length (a2.map i64), sl a3.length (a3.map f32)]) rfl rfl rfl (LOp.fap und30 rfl siz22 rfl rfl rfl) ?_
     refine zL (r := sl a1.length (a1.map i64)) rfl rfl rfl (LOp.load1 agg22 rfl rfl) ?_
     refine zM (r := i64 v4) rfl rfl rfl rfl rfl ?_
     refine zL (r := i64 x8) rfl rfl rfl (LOp.eqr (LOp.add rfl rfl rfl) (congrArg (ik .i64) hx3)) ?_
     refine zL (r := ptr [i64 e9]) rfl rfl rfl (LOp.le (LOp.ix (f := i64) und22 siz2 rfl rfl rfl rfl he4) ALe.ptr) ?_
     refine zL (r := i64 e9) rfl rfl rfl (LOp.load1 agg2 rfl rfl) ?_
     refine zL (r := b true) rfl rfl rfl (LOp.eqb (LOp.lss rfl rfl rfl) hc5) ?_
     refine zN ?_
     refine RunC.cond_true rfl rfl ?_
     refine RunC.skip ?_
     refine RunC.seq ?_
     refine RunC.block ?_
     obtain ⟨e10, he6, h5_⟩ := obind_some h5_
     obtain ⟨e11, he7, h5_⟩ := obind_some h5_
     obtain ⟨e12, he8, h5_⟩ := obind_some h5_
     obtain ⟨x13, hx9, h5_⟩ := olet_some h5_
     obtain ⟨x14, hx10, h5_⟩ := olet_some h5_
     refine RunC.region_draw (Γ' := [⟨u1, some (L3.map f32)⟩, ⟨u2, none⟩]) 21 mixed 
      (TR.l (r := f32 y6) rfl rfl (LOp.move rfl rfl) <|
      (TR.l (r := ptr [i64 a0, sl a1.length (a1.map i64), sl a2.length (a2.map i64), sl a3.length (a3.map f32)]) rfl rfl (LOp.move rfl rfl) <|
      (TR.l (r := ptr [i64 a0, sl a1.length (a1.map i64), sl a2.length (a2.map i64), sl a3.length (a3.map f32)]) rfl rfl (LOp.nilCheck_ptr rfl rfl) <|
      (TR.l (r := ptr [sl a3.length (a3.map f32)]) rfl rfl (LOp.fap und30 rfl siz23 rfl rfl rfl) <|
      (TR.l (r := sl a3.length (a3.map f32)) rfl rfl (LOp.load1 agg23 rfl rfl) <|
      (TR.l (r := i64 v7) rfl rfl (LOp.move rfl rfl) <|
      (TR.l (r := ptr [f32 e10]) rfl rfl (LOp.le (LOp.ix (f := f32) und23 siz26 rfl rfl rfl rfl he6) ALe.ptr) <|
      (TR.l (r := f32 e10) rfl rfl (LOp.load1 agg26 rfl rfl) <|
      (TR.l (r := sl a4.length (a4.map f32)) rfl rfl (LOp.move rfl rfl) <|
      (TR.l (r := ptr [i64 a0, sl a1.length (a1.map i64), sl a2.length (a2.map i64), sl a3.length (a3.map f32)]) rfl rfl (LOp.move rfl rfl) <|
      (TR.l (r := ptr [i64 a0, sl a1.length (a1.map i64), sl a2.length (a2.map i64), sl a3.length (a3.map f32)]) rfl rfl (LOp.nilCheck_ptr rfl rfl) <|
      (TR.l (r := ptr [sl a2.length (a2.map i64), sl a3.length (a3.map f32)]) rfl rfl (LOp.fap und30 rfl siz22 rfl rfl rfl) <|
      (TR.l (r := sl a2.length (a2.map i64)) rfl rfl (LOp.load1 agg22 rfl rfl) <|
      (TR.l (r := i64 v7) rfl rfl (LOp.move rfl rfl) <|
      (TR.l (r := ptr [i64 e11]) rfl rfl (LOp.le (LOp.ix (f := i64) und22 siz2 rfl rfl rfl rfl he7) ALe.ptr) <|
      (TR.l (r := i64 e11) rfl rfl (LOp.load1 agg2 rfl rfl) <|
      (TR.l (r := ptr [f32 e12]) rfl rfl (LOp.le (LOp.ix (f := f32) und23 siz26 rfl rfl rfl rfl he8) ALe.ptr) <|
      (TR.l (r := f32 e12) rfl rfl (LOp.load1 agg26 rfl rfl) <|
      (TR.d (r := f32 x13) (fs := []) rfl rfl (TOp.eqr (TOp.fop (.inr (.inr (.inl rfl))) rfl (OpF.tmp rfl) (OpF.tmp rfl)) (congrArg (f .f32) hx9)) <|
      (TR.d (r := f32 x14) (fs := []) rfl rfl (TOp.eqr (TOp.fop (.inl rfl) rfl (OpF.tmp rfl) (OpF.tmp rfl)) (congrArg (f .f32) hx10)) <|
      (TR.l (r := f32 x14) rfl rfl (LOp.assign rfl rfl) <|
      TR.nil))))))))))))))))))))) rfl (by kernel_rfl) rfl fills_nil rfl ?_
     iterate 21 refine ROps.dropS ?_
     refine ROps.drop0 ?_
     refine zN ?_
     refine RunC.wl (τ' := [(0, ptr [i64 a0, sl a1.length (a1.map i64), sl a2.length (a2.map i64), sl a3.length (a3.map f32)]), (1, sl a4.length (a4.map f32)), (5, oref 0 u1 0 L3.length), (6, i64 v4), (7, f32 x14), (8, i64 v7)]) (Γ' := [⟨u1, some (L3.map f32)⟩, ⟨u2, none⟩]) ⟨aR, aR, aR, aR, aR, aR, trivial⟩ ⟨⟨rfl, .inr rfl⟩, ⟨rfl, .inl rfl⟩, trivial⟩ ?_
     obtain ⟨x15, hx11, h5_⟩ := olet_some h5_
     refine RunC.regionW ?_
     refine zM (r := i64 v7) rfl rfl rfl rfl rfl ?_
     refine zL (r := i64 x15) rfl rfl rfl (LOp.eqr (LOp.add rfl rfl rfl) (congrArg (ik .i64) hx11)) ?_
     refine zA (r := i64 x15) rfl rfl rfl rfl rfl ?_
     refine zN ?_
     cases Option.some.inj h5_
     exact ⟨_, rfl, ⟨aR, aR, aR, aR, aR, aR, trivial⟩, ⟨⟨rfl, .inr rfl⟩, ⟨rfl, .inl rfl⟩, trivial⟩⟩
    ·refine RunC.regionW ?_
     refine zM (r := i64 v7) rfl rfl rfl rfl rfl ?_
     refine zM (r := ptr [i64 a0, sl a1.length (a1.map i64), sl a2.length (a2.map i64), sl a3.length (a3.map f32)]) rfl rfl rfl rfl rfl ?_
     refine zL (r := ptr [i64 a0, sl a1.length (a1.map i64), sl a2.length (a2.map i64), sl a3.length (a3.map f32)]) rfl rfl rfl (LOp.nilCheck_ptr rfl rfl) ?_
     refine zL (r := ptr [sl a1.length (a1.map i64), sl a2.length (a2.map i64), sl a3.length (a3.map f32)]) rfl rfl rfl (LOp.fap und30 rfl siz22 rfl rfl rfl) ?_
     refine zL (r := sl a1.length (a1.map i64)) rfl rfl rfl (LOp.load1 agg22 rfl rfl) ?_
     refine zM (r := i64 v4) rfl rfl rfl rfl rfl ?_
     refine zL (r := i64 x8) rfl rfl rfl (LOp.eqr (LOp.add rfl rfl rfl) (congrArg (ik .i64) hx3)) ?_
     refine zL (r := ptr [i64 e9]) rfl rfl rfl (LOp.le (LOp.ix (f := i64) und22 siz2 rfl rfl rfl rfl he4) ALe.ptr) ?_
     refine zL (r := i64 e9) rfl rfl rfl (LOp.load1 agg2 rfl rfl) ?_
     refine zL (r := b false) rfl rfl rfl (LOp.eqb (LOp.lss rfl rfl rfl) hc5) ?_
     refine zN ?_
     refine RunC.cond_false rfl rfl ?_
     refine RunC.exit ?_
     cases Option.some.inj h5_
     have hx := ho5 _ rfl
     exact ⟨y6, ⟨aR, aR, aR, aR, aR, trivial⟩, ⟨⟨rfl, .inr rfl⟩, ⟨rfl, .inl rfl⟩, trivial⟩, hx⟩
   ·rintro τ6 Γ6 ⟨y16, hw6, hd6, rfl⟩
    refine RunC.wl hw6 hd6 ?_
    replace h4_ : s_l05Times_k2 L3 v4 y16 = some y4_ := h4_
    unfold s_l05Times_k2 at h4_
    obtain ⟨hm12, h4_⟩ := need_some h4_
    refine RunC.regionW ?_
    refine zM (r := oref 0 u1 0 L3.length) rfl rfl rfl rfl rfl ?_
    refine zM (r := f32 y16) rfl rfl rfl rfl rfl ?_
    refine ROps.d (r := oref 1 (u2 + 1) 0 1) (fs := [(1, (([y16] : List F).map f32))]) (Γ' := [⟨u1, some (L3.map f32)⟩, ⟨(u2 + 1), some (([y16] : List F).map f32)⟩]) rfl rfl rfl (TOp.buildSlice_o (g := ⟨u2, none⟩) (za := f32 (some 0)) (qs := [(0, [f32 y16])]) 1 rfl und23 siz26 zer26 rfl zel26 rfl rfl ⟨rfl, ⟨_, ALe.refl _, rfl⟩, trivial⟩ rfl) rfl ?_
    refine ROps.app (f := f32) (xs := L3) (ys := ([y16] : List F)) (Γ' := [⟨(u1 + 1), some ((L3 ++ ([y16] : List F)).map f32)⟩, ⟨(u2 + 1), some (([y16] : List F).map f32)⟩]) rfl pun23 inf26 rfl rfl rfl rfl rfl rfl rfl rfl rfl (by simp) (ReadAs.own rfl (by simp)) (ones_map (fun _ => rfl)) (ap_by hm12) (ap_mx hm12) rfl ?_
    refine zA (r := oref 0 (u1 + 1) 0 (L3.length + 1)) rfl rfl rfl rfl rfl ?_
    refine zN ?_
    refine RunC.wl (τ' := [(0, ptr [i64 a0, sl a1.length (a1.map i64), sl a2.length (a2.map i64), sl a3.length (a3.map f32)]), (1, sl a4.length (a4.map f32)), (5, oref 0 (u1 + 1) 0 (L3.length + 1)), (6, i64 v4)]) (Γ' := [⟨(u1 + 1), some ((L3 ++ ([y16] : List F)).map f32)⟩, ⟨(u2 + 1), none⟩]) ⟨aR, aR, aR, aR, trivial⟩ ⟨⟨rfl, .inr rfl⟩, ⟨rfl, .inl rfl⟩, trivial⟩ ?_
    obtain ⟨x17, hx13, h4_⟩ := olet_some h4_
    refine RunC.regionW ?_
    refine zM (r := i64 v4) rfl rfl rfl rfl rfl ?_
    refine zL (r := i64 x17) rfl rfl rfl (LOp.eqr (LOp.add rfl rfl rfl) (congrArg (ik .i64) hx13)) ?_
    refine zA (r := i64 x17) rfl rfl rfl rfl rfl ?_
    refine zN ?_
    cases Option.some.inj h4_
    exact ⟨_, rfl, (u1 + 1), (u2 + 1), ⟨aR, aR, (ALe.eq (by rw [(app_len rfl rfl)] <;> rfl)), aR, trivial⟩, ⟨⟨rfl, .inr rfl⟩, ⟨rfl, .inl rfl⟩, trivial⟩⟩
  ·refine RunC.regionW ?_
   refine zM (r := i64 v4) rfl rfl rfl rfl rfl ?_
   refine zM (r := ptr [i64 a0, sl a1.length (a1.map i64), sl a2.length (a2.map i64), sl a3.length (a3.map f32)]) rfl rfl rfl rfl rfl ?_
   refine zL (r := ptr [i64 a0, sl a1.length (a1.map i64), sl a2.length (a2.map i64), sl a3.length (a3.map f32)]) rfl rfl rfl (LOp.nilCheck_ptr rfl rfl) ?_
   refine zL (r := ptr [i64 a0, sl a1.length (a1.map i64), sl a2.length (a2.map i64), sl a3.length (a3.map f32)]) rfl rfl rfl (LOp.fap und30 rfl siz2 rfl rfl rfl) ?_
   refine zL (r := i64 a0) rfl rfl rfl (LOp.load1 agg2 rfl rfl) ?_
   refine zL (r := b false) rfl rfl rfl (LOp.eqb (LOp.lss rfl rfl rfl) hc1) ?_
   refine zN ?_
   refine RunC.cond_false rfl rfl ?_
   refine RunC.exit ?_
   cases Option.some.inj h4_
   have hx := ho4 _ rfl
   exact ⟨L3, u1, u2, ⟨aR, trivial⟩, ⟨⟨rfl, .inr rfl⟩, ⟨rfl, .inl rfl⟩, trivial⟩, hx⟩
 ·rintro τ7 Γ7 ⟨L20, u18, u19, hw7, hd7, rfl⟩
  refine RunC.wl hw7 hd7 ?_
  replace h : s_l05Times_k3 L20 = some q0 := h
  unfold s_l05Times_k3 at h
  refine zQ ?_
  refine zM (r := oref 0 u18 0 L20.length) rfl rfl rfl rfl rfl ?_
  refine zA (r := oref 0 u18 0 L20.length) rfl rfl rfl rfl rfl ?_
  refine zN ?_
  refine RunC.ret ?_
  have hq := Option.some.inj h
  subst q0
  exact bodyQ.mk (r' := oref 0 u18 0 L20.length) [(0, u18)] (.inr rfl) rfl (show List.Nodup [0] from by decide) (by simp [ren, rens, sigma]) rfl (Res.one rfl (RV.tmp rfl)) (SelL.arr0 (f := f32) (fun _ => rfl) rfl trivial)
end Go.Proofs.Ytcoookgeialmnaa
