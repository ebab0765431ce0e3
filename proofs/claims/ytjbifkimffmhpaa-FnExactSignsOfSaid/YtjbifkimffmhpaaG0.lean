/- Generated. -/
import Derived.Test.YtjbifkimffmhpaaTys
namespace Go.Proofs.Ytjbifkimffmhpaa
open Go Go.AM
set_option maxRecDepth 20000
set_option maxHeartbeats 4000000
set_option linter.unusedVariables false
set_option linter.unusedSimpArgs false
noncomputable def w_szFloat32S (a0 : List F) (a1 : Int) : Option (Int) :=
  olet (IntKind.i64.wrap (a1 - (a0.length : Int))) fun (x1 : Int) =>
  bsel (decide (x1 < 0)) (
    some (-1)) (
    some x1)
theorem w_szFloat32S_ok (a0 : List F) (a1 : Int) (q0 : Int) (h : w_szFloat32S a0 a1 = some q0) : Ev Try.prog 36 [AV.sl a0.length (a0.map AV.f32), AV.i64 a1] [] (AV.i64 q0) [] := by
  refine Ev.start Try.func36 rfl rfl 0 (τ := [(0, AV.sl a0.length (a0.map AV.f32)), (1, AV.i64 a1)]) rfl (Γ' := []) rfl (n := 25) rfl (g := 0) rfl (fun _ => rfl) ?_
  unfold w_szFloat32S at h
  refine RunC.seq ?_
  refine RunC.regionW ?_
  refine ROps.l (r := AV.i64 0) rfl rfl rfl (LOp.assign rfl rfl) ?_
  refine ROps.nil ?_
  refine RunC.seq ?_
  obtain ⟨x1, hx1, h⟩ := olet_some h
  refine RunC.regionW ?_
  refine ROps.l (r := AV.i64 a1) rfl rfl rfl (LOp.move rfl rfl) ?_
  refine ROps.l (r := AV.sl a0.length (a0.map AV.f32)) rfl rfl rfl (LOp.move rfl rfl) ?_
  refine ROps.l (r := AV.i64 (a0.length : Int)) rfl rfl rfl (LOp.len_sl und22 rfl rfl) ?_
  refine ROps.l (r := AV.i64 x1) rfl rfl rfl (LOp.eqr (LOp.sub rfl rfl rfl) (congrArg (AV.ik .i64) hx1)) ?_
  refine ROps.l (r := AV.i64 x1) rfl rfl rfl (LOp.assign rfl rfl) ?_
  refine ROps.nil ?_
  refine RunC.seq ?_
  refine RunC.seq ?_
  rcases bsel_some h with ⟨hc2, h⟩ | ⟨hc2, h⟩
  · refine RunC.regionW ?_
    refine ROps.l (r := AV.i64 x1) rfl rfl rfl (LOp.move rfl rfl) ?_
    refine ROps.l (r := AV.b true) rfl rfl rfl (LOp.eqb (LOp.lss rfl rfl rfl) hc2) ?_
    refine ROps.nil ?_
    refine RunC.cond_true rfl rfl ?_
    refine RunC.seq ?_
    refine RunC.regionW ?_
    refine ROps.l (r := AV.i64 (-1)) rfl rfl rfl (LOp.assign rfl rfl) ?_
    refine ROps.nil ?_
    refine RunC.ret ?_
    have hq := Option.some.inj h
    subst q0
    exact bodyQ.pure (.inr rfl) rfl (Res.one rfl (RV.tmp rfl))
  · refine RunC.regionW ?_
    refine ROps.l (r := AV.i64 x1) rfl rfl rfl (LOp.move rfl rfl) ?_
    refine ROps.l (r := AV.b false) rfl rfl rfl (LOp.eqb (LOp.lss rfl rfl rfl) hc2) ?_
    refine ROps.nil ?_
    refine RunC.cond_false rfl rfl ?_
    refine RunC.skip ?_
    refine RunC.seq ?_
    refine RunC.regionW ?_
    refine ROps.l (r := AV.i64 x1) rfl rfl rfl (LOp.move rfl rfl) ?_
    refine ROps.l (r := AV.i64 x1) rfl rfl rfl (LOp.assign rfl rfl) ?_
    refine ROps.nil ?_
    refine RunC.ret ?_
    have hq := Option.some.inj h
    subst q0
    exact bodyQ.pure (.inr rfl) rfl (Res.one rfl (RV.tmp rfl))
noncomputable def w_szMatrix (a0 : Int) (a1 : Int) (a2 : List F) (a3 : Int) : Option (Int) :=
  obind (w_szFloat32S a2 a3) fun (r1 : Int) =>
  bsel (decide (r1 < 0)) (
    some (-1)) (
    some r1)
theorem w_szMatrix_ok (a0 : Int) (a1 : Int) (a2 : List F) (a3 : Int) (q0 : Int) (h : w_szMatrix a0 a1 a2 a3 = some q0) : Ev Try.prog 9 [AV.agg [AV.i64 a0, AV.i64 a1, AV.sl a2.length (a2.map AV.f32)], AV.i64 a3] [] (AV.i64 q0) [] := by
  refine Ev.start Try.func9 rfl rfl 0 (τ := [(0, AV.agg [AV.i64 a0, AV.i64 a1, AV.sl a2.length (a2.map AV.f32)]), (1, AV.i64 a3)]) rfl (Γ' := []) rfl (n := 25) rfl (g := 0) rfl (fun _ => rfl) ?_
  unfold w_szMatrix at h
  refine RunC.seq ?_
  refine RunC.regionW ?_
  refine ROps.d (r := AV.ptr [AV.i64 a0, AV.i64 a1, AV.sl a2.length (a2.map AV.f32)]) (fs := []) (Γ' := []) rfl rfl rfl (TOp.box_s rfl rfl rfl) rfl ?_
  refine ROps.l (r := AV.i64 0) rfl rfl rfl (LOp.assign rfl rfl) ?_
  refine ROps.nil ?_
  refine RunC.seq ?_
  obtain ⟨r1, hf1, h⟩ := obind_some h
  refine RunC.regionW ?_
  refine ROps.l (r := AV.ptr [AV.sl a2.length (a2.map AV.f32)]) rfl rfl rfl (LOp.fap und24 rfl siz22 rfl rfl rfl) ?_
  refine ROps.l (r := AV.sl a2.length (a2.map AV.f32)) rfl rfl rfl (LOp.load1 agg22 rfl rfl) ?_
  refine ROps.l (r := AV.i64 a3) rfl rfl rfl (LOp.move rfl rfl) ?_
  refine ROps.d (r := AV.i64 r1) (fs := []) (Γ' := []) rfl rfl rfl (TOp.callB (CallAs.func ent36 rfl rfl) (Bors.cons (Bor.sl (fun _ => rfl)) (Bors.cons (Bor.pure rfl) Bors.nil)) rfl rfl (w_szFloat32S_ok a2 a3 r1 hf1)) rfl ?_
  refine ROps.l (r := AV.i64 r1) rfl rfl rfl (LOp.assign rfl rfl) ?_
  refine ROps.nil ?_
  refine RunC.seq ?_
  refine RunC.seq ?_
  rcases bsel_some h with ⟨hc2, h⟩ | ⟨hc2, h⟩
  · refine RunC.regionW ?_
    refine ROps.l (r := AV.i64 r1) rfl rfl rfl (LOp.move rfl rfl) ?_
    refine ROps.l (r := AV.b true) rfl rfl rfl (LOp.eqb (LOp.lss rfl rfl rfl) hc2) ?_
    refine ROps.nil ?_
    refine RunC.cond_true rfl rfl ?_
    refine RunC.seq ?_
    refine RunC.regionW ?_
    refine ROps.l (r := AV.i64 (-1)) rfl rfl rfl (LOp.assign rfl rfl) ?_
    refine ROps.nil ?_
    refine RunC.ret ?_
    have hq := Option.some.inj h
    subst q0
    exact bodyQ.pure (.inr rfl) rfl (Res.one rfl (RV.tmp rfl))
  · refine RunC.regionW ?_
    refine ROps.l (r := AV.i64 r1) rfl rfl rfl (LOp.move rfl rfl) ?_
    refine ROps.l (r := AV.b false) rfl rfl rfl (LOp.eqb (LOp.lss rfl rfl rfl) hc2) ?_
    refine ROps.nil ?_
    refine RunC.cond_false rfl rfl ?_
    refine RunC.skip ?_
    refine RunC.seq ?_
    refine RunC.regionW ?_
    refine ROps.l (r := AV.i64 r1) rfl rfl rfl (LOp.move rfl rfl) ?_
    refine ROps.l (r := AV.i64 r1) rfl rfl rfl (LOp.assign rfl rfl) ?_
    refine ROps.nil ?_
    refine RunC.ret ?_
    have hq := Option.some.inj h
    subst q0
    exact bodyQ.pure (.inr rfl) rfl (Res.one rfl (RV.tmp rfl))
noncomputable def w_toFloat32S_b1 (a0 : List F) (L1 : List F) (v3 : Int) : Option (LR ((List F) × Int) ((List F)) ((List F))) :=
  bsel (decide (v3 < (a0.length : Int))) (
    obind (at? a0 v3) fun (e4 : F) =>
    obind (setAt? L1 v3 e4) fun (L5 : List F) =>
    olet (IntKind.i64.wrap (v3 + 1)) fun (x6 : Int) =>
    some (LR.next (L5, x6))) (
    some (LR.out L1))
noncomputable def w_toFloat32S_s1 (a0 : List F) : ((List F) × Int) → Option (LR ((List F) × Int) ((List F)) ((List F))) := fun s => w_toFloat32S_b1 a0 s.1 s.2
noncomputable def w_toFloat32S_k1 (L7 : List F) : Option ((List F)) :=
  some L7
noncomputable def w_toFloat32S (a0 : List F) : Option ((List F)) :=
  need (mkok 4 (a0.length : Int)) <|
  obind (loopM (w_toFloat32S_s1 a0) ((List.replicate (a0.length : Int).toNat (some 0)), 0)) fun z => osum z (fun e => w_toFloat32S_k1 e) (fun r => some r)
theorem w_toFloat32S_ok (a0 : List F) (q0 : List F) (h : w_toFloat32S a0 = some q0) : Ev Try.prog 44 [AV.sl a0.length (a0.map AV.f32)] [] (AV.oref 0 0 0 q0.length) [⟨0, some (q0.map AV.f32)⟩] := by
  refine Ev.start Try.func44 rfl rfl 1 (τ := [(0, AV.sl a0.length (a0.map AV.f32))]) rfl (Γ' := [⟨0, none⟩]) rfl (n := 45) rfl (g := 0) rfl (fun _ => rfl) ?_
  unfold w_toFloat32S at h
  refine RunC.seq ?_
  refine RunC.regionW ?_
  refine ROps.l (r := AV.nilsl) rfl rfl rfl (LOp.assign rfl rfl) ?_
  refine ROps.nil ?_
  refine RunC.seq ?_
  obtain ⟨hm1, h⟩ := need_some h
  refine RunC.regionW ?_
  refine ROps.l (r := AV.sl a0.length (a0.map AV.f32)) rfl rfl rfl (LOp.move rfl rfl) ?_
  refine ROps.l (r := AV.i64 (a0.length : Int)) rfl rfl rfl (LOp.len_sl und22 rfl rfl) ?_
  refine ROps.d (r := AV.oref 0 1 0 ((a0.length : Int).toNat)) (fs := [(0, ((List.replicate (a0.length : Int).toNat (some 0)).map AV.f32))]) (Γ' := [⟨1, some ((List.replicate (a0.length : Int).toNat (some 0)).map AV.f32)⟩]) rfl rfl rfl (TOp.mkS (g := ⟨0, none⟩) (t := 22) (e := 25) (by_ := 4) (f := AV.f32) (zv := some 0) 0 rfl und22 tin25 rfl siz25 zer25 rfl zel25 rfl rfl rfl hm1) rfl ?_
  refine ROps.l (r := AV.oref 0 1 0 ((a0.length : Int).toNat)) rfl rfl rfl (LOp.assign rfl rfl) ?_
  refine ROps.nil ?_
  refine RunC.seq ?_
  refine RunC.seq ?_
  refine RunC.regionW ?_
  refine ROps.l (r := AV.i64 0) rfl rfl rfl (LOp.assign rfl rfl) ?_
  refine ROps.nil ?_
  obtain ⟨z2, hz_2, h⟩ := obind_some h
  refine RunC.cutN (fun τ Γ => ∃ (L7 : List F), L7.length = (a0.length : Int).toNat ∧ WeakLe τ [(3, AV.oref 0 1 0 ((a0.length : Int).toNat))] ∧ DeadLe Γ [⟨1, some (L7.map AV.f32)⟩] ∧ z2 = .inl L7) ?_ ?_
  · refine RunC.block (RunC.loop (RunL.loopM (x := z2) (w_toFloat32S_s1 a0) (fun (s : (List F) × Int) τ Γ => s.1.length = (a0.length : Int).toNat ∧ WeakLe τ [(0, AV.sl a0.length (a0.map AV.f32)), (3, AV.oref 0 1 0 ((a0.length : Int).toNat)), (4, AV.i64 s.2)] ∧ DeadLe Γ [⟨1, some (s.1.map AV.f32)⟩]) ?_ _ _ _ hz_2 ⟨List.length_replicate, ⟨(ALe.refl _), (ALe.refl _), (ALe.refl _), trivial⟩, ⟨⟨rfl, .inr rfl⟩, trivial⟩⟩))
    rintro ⟨L1, v3⟩ τ2 Γ2 y2_ ⟨hl2, hw2, hd2⟩ h2_ ho2 hr2
    refine RunC.wl (τ' := [(0, AV.sl a0.length (a0.map AV.f32)), (3, AV.oref 0 1 0 ((a0.length : Int).toNat)), (4, AV.i64 v3)]) (Γ' := [⟨1, some (L1.map AV.f32)⟩]) hw2 hd2 ?_
    replace hl2 : L1.length = (a0.length : Int).toNat := hl2
    replace h2_ : w_toFloat32S_b1 a0 L1 v3 = some y2_ := h2_
    unfold w_toFloat32S_b1 at h2_
    refine RunC.seq ?_
    refine RunC.seq ?_
    rcases bsel_some h2_ with ⟨hc2, h2_⟩ | ⟨hc2, h2_⟩
    · refine RunC.regionW ?_
      refine ROps.l (r := AV.i64 v3) rfl rfl rfl (LOp.move rfl rfl) ?_
      refine ROps.l (r := AV.sl a0.length (a0.map AV.f32)) rfl rfl rfl (LOp.move rfl rfl) ?_
      refine ROps.l (r := AV.i64 (a0.length : Int)) rfl rfl rfl (LOp.len_sl und22 rfl rfl) ?_
      refine ROps.l (r := AV.b true) rfl rfl rfl (LOp.eqb (LOp.lss rfl rfl rfl) hc2) ?_
      refine ROps.nil ?_
      refine RunC.cond_true rfl rfl ?_
      refine RunC.skip ?_
      refine RunC.seq ?_
      refine RunC.block ?_
      obtain ⟨e4, he3, h2_⟩ := obind_some h2_
      obtain ⟨L5, he4, h2_⟩ := obind_some h2_
      refine RunC.regionW ?_
      refine ROps.l (r := AV.oref 0 1 0 ((a0.length : Int).toNat)) rfl rfl rfl (LOp.move rfl rfl) ?_
      refine ROps.l (r := AV.i64 v3) rfl rfl rfl (LOp.move rfl rfl) ?_
      refine ROps.l (r := AV.sl a0.length (a0.map AV.f32)) rfl rfl rfl (LOp.move rfl rfl) ?_
      refine ROps.l (r := AV.i64 v3) rfl rfl rfl (LOp.move rfl rfl) ?_
      refine ROps.l (r := AV.ptr [AV.f32 e4]) rfl rfl rfl (LOp.le (LOp.ix (f := AV.f32) und22 siz25 rfl rfl rfl rfl he3) ALe.ptr) ?_
      refine ROps.l (r := AV.f32 e4) rfl rfl rfl (LOp.load1 agg25 rfl rfl) ?_
      refine ROps.d (r := AV.optr 0 1 v3.toNat) (fs := []) (Γ' := [⟨1, some (L1.map AV.f32)⟩]) rfl rfl rfl (TOp.ixo und22 siz25 rfl rfl rfl (set_in he4 hl2) rfl) rfl ?_
      refine ROps.st (f := AV.f32) (i := v3) (Γ' := [⟨1, some (L5.map AV.f32)⟩]) rfl siz25 rfl rfl rfl (ALe.refl _) rfl rfl rfl he4 rfl ?_
      refine ROps.nil ?_
      obtain ⟨x6, hx5, h2_⟩ := olet_some h2_
      refine RunC.regionW ?_
      refine ROps.l (r := AV.i64 v3) rfl rfl rfl (LOp.move rfl rfl) ?_
      refine ROps.l (r := AV.i64 x6) rfl rfl rfl (LOp.eqr (LOp.add rfl rfl rfl) (congrArg (AV.ik .i64) hx5)) ?_
      refine ROps.l (r := AV.i64 x6) rfl rfl rfl (LOp.assign rfl rfl) ?_
      refine ROps.nil ?_
      cases Option.some.inj h2_
      exact ⟨_, rfl, ((setAt?_len he4).trans hl2), ⟨(ALe.refl _), (ALe.refl _), (ALe.refl _), trivial⟩, ⟨⟨rfl, .inr rfl⟩, trivial⟩⟩
    · refine RunC.regionW ?_
      refine ROps.l (r := AV.i64 v3) rfl rfl rfl (LOp.move rfl rfl) ?_
      refine ROps.l (r := AV.sl a0.length (a0.map AV.f32)) rfl rfl rfl (LOp.move rfl rfl) ?_
      refine ROps.l (r := AV.i64 (a0.length : Int)) rfl rfl rfl (LOp.len_sl und22 rfl rfl) ?_
      refine ROps.l (r := AV.b false) rfl rfl rfl (LOp.eqb (LOp.lss rfl rfl rfl) hc2) ?_
      refine ROps.nil ?_
      refine RunC.cond_false rfl rfl ?_
      refine RunC.exit ?_
      cases Option.some.inj h2_
      have hx := ho2 _ rfl
      exact ⟨L1, hl2, ⟨(ALe.refl _), trivial⟩, ⟨⟨rfl, .inr rfl⟩, trivial⟩, hx⟩
  · rintro τ3 Γ3 ⟨L7, hl8, hw3, hd3, rfl⟩
    refine RunC.wl (τ' := [(3, AV.oref 0 1 0 ((a0.length : Int).toNat))]) (Γ' := [⟨1, some (L7.map AV.f32)⟩]) hw3 hd3 ?_
    replace h : w_toFloat32S_k1 L7 = some q0 := h
    unfold w_toFloat32S_k1 at h
    refine RunC.seq ?_
    refine RunC.regionW ?_
    refine ROps.l (r := AV.oref 0 1 0 ((a0.length : Int).toNat)) rfl rfl rfl (LOp.move rfl rfl) ?_
    refine ROps.l (r := AV.oref 0 1 0 ((a0.length : Int).toNat)) rfl rfl rfl (LOp.assign rfl rfl) ?_
    refine ROps.nil ?_
    refine RunC.ret ?_
    have hq := Option.some.inj h
    subst q0
    exact bodyQ.mk (r' := AV.oref 0 1 0 L7.length) [(0, 1)] (.inr rfl) rfl (show List.Nodup [0] from by decide) rfl rfl (Res.eq (Res.one rfl (RV.tmp rfl)) (by rw [(show L7.length = (a0.length : Int).toNat from hl8)] <;> rfl)) (SelL.arr0 (f := AV.f32) (fun _ => rfl) rfl trivial)
noncomputable def w_toMatrix (a0 : Int) (a1 : Int) (a2 : List F) : Option (Int × Int × (List F)) :=
  obind (w_toFloat32S a2) fun (r1 : List F) =>
  some (a0, a1, r1)
theorem w_toMatrix_ok (a0 : Int) (a1 : Int) (a2 : List F) (q0 : Int) (q1 : Int) (q2 : List F) (h : w_toMatrix a0 a1 a2 = some (q0, q1, q2)) : Ev Try.prog 11 [AV.agg [AV.i64 a0, AV.i64 a1, AV.sl a2.length (a2.map AV.f32)]] [] (AV.agg [AV.i64 q0, AV.i64 q1, AV.oref 0 0 0 q2.length]) [⟨0, some (q2.map AV.f32)⟩] := by
  refine Ev.start Try.func11 rfl rfl 3 (τ := [(0, AV.agg [AV.i64 a0, AV.i64 a1, AV.sl a2.length (a2.map AV.f32)])]) rfl (Γ' := [⟨0, none⟩, ⟨0, none⟩, ⟨0, none⟩]) rfl (n := 31) rfl (g := 0) rfl (fun _ => rfl) ?_
  unfold w_toMatrix at h
  refine RunC.seq ?_
  refine RunC.regionW ?_
  refine ROps.d (r := AV.ptr [AV.i64 a0, AV.i64 a1, AV.sl a2.length (a2.map AV.f32)]) (fs := []) (Γ' := [⟨0, none⟩, ⟨0, none⟩, ⟨0, none⟩]) rfl rfl rfl (TOp.box_s rfl rfl rfl) rfl ?_
  refine ROps.d (r := AV.optr 0 1 0) (fs := [(0, [AV.i64 0, AV.i64 0, AV.nilsl])]) (Γ' := [⟨1, some [AV.i64 0, AV.i64 0, AV.nilsl]⟩, ⟨0, none⟩, ⟨0, none⟩]) rfl rfl rfl (TOp.alloc_o (g := ⟨0, none⟩) 0 rfl zer27 zok27 rfl) rfl ?_
  refine ROps.nil ?_
  refine RunC.seq ?_
  refine RunC.regionW ?_
  refine ROps.d (r := AV.optr 1 1 0) (fs := [(1, [AV.i64 0, AV.i64 0, AV.nilsl])]) (Γ' := [⟨1, some [AV.i64 0, AV.i64 0, AV.nilsl]⟩, ⟨1, some [AV.i64 0, AV.i64 0, AV.nilsl]⟩, ⟨0, none⟩]) rfl rfl rfl (TOp.alloc_o (g := ⟨0, none⟩) 1 rfl zer27 zok27 rfl) rfl ?_
  refine ROps.nil ?_
  refine RunC.seq ?_
  refine RunC.regionW ?_
  refine ROps.l (r := AV.ptr [AV.i64 a0, AV.i64 a1, AV.sl a2.length (a2.map AV.f32)]) rfl rfl rfl (LOp.fap und24 rfl siz2 rfl rfl rfl) ?_
  refine ROps.l (r := AV.i64 a0) rfl rfl rfl (LOp.load1 agg2 rfl rfl) ?_
  refine ROps.l (r := AV.optr 1 1 0) rfl rfl rfl (LOp.fao und27 rfl siz2 rfl rfl rfl) ?_
  refine ROps.store_le (r := AV.i64 a0) (l' := [AV.i64 a0, AV.i64 0, AV.nilsl]) (Γ' := [⟨1, some [AV.i64 0, AV.i64 0, AV.nilsl]⟩, ⟨1, some [AV.i64 a0, AV.i64 0, AV.nilsl]⟩, ⟨0, none⟩]) rfl siz2 rfl rfl rfl (ALe.refl _) rfl rfl rfl rfl (Nat.le_of_ble_eq_true rfl) rfl rfl ?_
  refine ROps.nil ?_
  refine RunC.seq ?_
  refine RunC.regionW ?_
  refine ROps.l (r := AV.ptr [AV.i64 a1, AV.sl a2.length (a2.map AV.f32)]) rfl rfl rfl (LOp.fap und24 rfl siz2 rfl rfl rfl) ?_
  refine ROps.l (r := AV.i64 a1) rfl rfl rfl (LOp.load1 agg2 rfl rfl) ?_
  refine ROps.l (r := AV.optr 1 1 1) rfl rfl rfl (LOp.fao und27 rfl siz2 rfl rfl rfl) ?_
  refine ROps.store_le (r := AV.i64 a1) (l' := [AV.i64 a0, AV.i64 a1, AV.nilsl]) (Γ' := [⟨1, some [AV.i64 0, AV.i64 0, AV.nilsl]⟩, ⟨1, some [AV.i64 a0, AV.i64 a1, AV.nilsl]⟩, ⟨0, none⟩]) rfl siz2 rfl rfl rfl (ALe.refl _) rfl rfl rfl rfl (Nat.le_of_ble_eq_true rfl) rfl rfl ?_
  refine ROps.nil ?_
  refine RunC.seq ?_
  obtain ⟨r1, hf1, h⟩ := obind_some h
  refine RunC.regionW ?_
  refine ROps.l (r := AV.ptr [AV.sl a2.length (a2.map AV.f32)]) rfl rfl rfl (LOp.fap und24 rfl siz22 rfl rfl rfl) ?_
  refine ROps.l (r := AV.sl a2.length (a2.map AV.f32)) rfl rfl rfl (LOp.load1 agg22 rfl rfl) ?_
  refine ROps.d (r := AV.oref 2 1 0 r1.length) (fs := [(2, (r1.map AV.f32))]) (Γ' := [⟨1, some [AV.i64 0, AV.i64 0, AV.nilsl]⟩, ⟨1, some [AV.i64 a0, AV.i64 a1, AV.nilsl]⟩, ⟨1, some (r1.map AV.f32)⟩]) rfl rfl rfl (TOp.callBN (ls := [(r1.map AV.f32)]) [2] (CallAs.func ent44 rfl rfl) (Bors.cons (Bor.sl (fun _ => rfl)) Bors.nil) rfl (w_toFloat32S_ok a2 r1 hf1) (and_all (lts0_map (f := AV.f32) (fun _ => rfl) _) rfl) (and_all (noss_map (f := AV.f32) (fun _ => rfl) _) rfl) rfl (by decide) (ns_of ⟨⟨_, rfl⟩, trivial⟩)) rfl ?_
  refine ROps.l (r := AV.optr 1 1 2) rfl rfl rfl (LOp.fao und27 rfl siz22 rfl rfl rfl) ?_
  refine ROps.store_le (r := AV.oref 2 1 0 r1.length) (l' := [AV.i64 a0, AV.i64 a1, AV.oref 2 1 0 r1.length]) (Γ' := [⟨1, some [AV.i64 0, AV.i64 0, AV.nilsl]⟩, ⟨1, some [AV.i64 a0, AV.i64 a1, AV.oref 2 1 0 r1.length]⟩, ⟨1, some (r1.map AV.f32)⟩]) rfl siz22 rfl rfl rfl (ALe.refl _) rfl rfl rfl rfl (Nat.le_of_ble_eq_true rfl) rfl rfl ?_
  refine ROps.nil ?_
  refine RunC.seq ?_
  refine RunC.regionW ?_
  refine ROps.d (r := AV.agg [AV.i64 a0, AV.i64 a1, AV.oref 2 1 0 r1.length]) (fs := []) (Γ' := [⟨1, some [AV.i64 0, AV.i64 0, AV.nilsl]⟩, ⟨1, some [AV.i64 a0, AV.i64 a1, AV.oref 2 1 0 r1.length]⟩, ⟨1, some (r1.map AV.f32)⟩]) rfl rfl rfl (TOp.loadAgg_o rfl agg27 siz27 rfl rfl rfl rfl) rfl ?_
  refine ROps.store_le (r := AV.agg [AV.i64 a0, AV.i64 a1, AV.oref 2 1 0 r1.length]) (l' := [AV.i64 a0, AV.i64 a1, AV.oref 2 1 0 r1.length]) (Γ' := [⟨1, some [AV.i64 a0, AV.i64 a1, AV.oref 2 1 0 r1.length]⟩, ⟨1, some [AV.i64 a0, AV.i64 a1, AV.oref 2 1 0 r1.length]⟩, ⟨1, some (r1.map AV.f32)⟩]) rfl siz27 rfl rfl rfl (ALe.refl _) rfl rfl rfl rfl (Nat.le_of_ble_eq_true rfl) rfl rfl ?_
  refine ROps.nil ?_
  refine RunC.ret ?_
  have hq := Option.some.inj h
  obtain ⟨hq0, hq⟩ := Prod.mk.inj hq
  obtain ⟨hq1, hq⟩ := Prod.mk.inj hq
  subst q0
  subst q1
  subst q2
  exact bodyQ.mk (r' := AV.agg [AV.i64 a0, AV.i64 a1, AV.oref 2 1 0 r1.length]) [(2, 1)] (.inr rfl) rfl (show List.Nodup [2] from by decide) rfl rfl (Res.one rfl (RV.cell agg27 siz27 rfl rfl rfl rfl)) (SelL.arr0 (f := AV.f32) (fun _ => rfl) rfl trivial)
noncomputable def s_l00In (a0 : Int) (a1 : Int) (a2 : Int) : Option (Bool) :=
  bsel (decide (a1 ≤ a0)) (
    some (decide (a0 ≤ a2))) (
    some false)
theorem s_l00In_ok (a0 : Int) (a1 : Int) (a2 : Int) (q0 : Bool) (h : s_l00In a0 a1 a2 = some q0) : Ev Try.prog 39 [AV.i64 a0, AV.i64 a1, AV.i64 a2] [] (AV.b q0) [] := by
  refine Ev.start Try.func39 rfl rfl 0 (τ := [(0, AV.i64 a0), (1, AV.i64 a1), (2, AV.i64 a2)]) rfl (Γ' := []) rfl (n := 31) rfl (g := 0) rfl (fun _ => rfl) ?_
  unfold s_l00In at h
  refine RunC.seq ?_
  refine RunC.regionW ?_
  refine ROps.l (r := AV.b false) rfl rfl rfl (LOp.assign rfl rfl) ?_
  refine ROps.nil ?_
  refine RunC.seq ?_
  rcases bsel_some h with ⟨hc1, h⟩ | ⟨hc1, h⟩
  · refine RunC.regionW ?_
    refine ROps.l (r := AV.i64 a0) rfl rfl rfl (LOp.move rfl rfl) ?_
    refine ROps.l (r := AV.i64 a1) rfl rfl rfl (LOp.move rfl rfl) ?_
    refine ROps.l (r := AV.b true) rfl rfl rfl (LOp.eqb (LOp.geq rfl rfl rfl) hc1) ?_
    refine ROps.l (r := AV.b true) rfl rfl rfl (LOp.move rfl rfl) ?_
    refine ROps.l (r := AV.i64 a0) rfl rfl rfl (LOp.move rfl rfl) ?_
    refine ROps.l (r := AV.i64 a2) rfl rfl rfl (LOp.move rfl rfl) ?_
    refine ROps.l (r := AV.b (decide (a0 ≤ a2))) rfl rfl rfl (LOp.leq rfl rfl rfl) ?_
    refine ROps.l (r := AV.b (decide (a0 ≤ a2))) rfl rfl rfl (LOp.pick_true rfl rfl rfl) ?_
    refine ROps.l (r := AV.b (decide (a0 ≤ a2))) rfl rfl rfl (LOp.assign rfl rfl) ?_
    refine ROps.nil ?_
    refine RunC.ret ?_
    have hq := Option.some.inj h
    subst q0
    exact bodyQ.pure (.inr rfl) rfl (Res.one rfl (RV.tmp rfl))
  · refine RunC.regionW ?_
    refine ROps.l (r := AV.i64 a0) rfl rfl rfl (LOp.move rfl rfl) ?_
    refine ROps.l (r := AV.i64 a1) rfl rfl rfl (LOp.move rfl rfl) ?_
    refine ROps.l (r := AV.b false) rfl rfl rfl (LOp.eqb (LOp.geq rfl rfl rfl) hc1) ?_
    refine ROps.l (r := AV.b false) rfl rfl rfl (LOp.move rfl rfl) ?_
    refine ROps.s rfl rfl rfl ?_
    refine ROps.s rfl rfl rfl ?_
    refine ROps.s rfl rfl rfl ?_
    refine ROps.l (r := AV.b false) rfl rfl rfl (LOp.pick_false rfl rfl rfl) ?_
    refine ROps.l (r := AV.b false) rfl rfl rfl (LOp.assign rfl rfl) ?_
    refine ROps.nil ?_
    refine RunC.ret ?_
    have hq := Option.some.inj h
    subst q0
    exact bodyQ.pure (.inr rfl) rfl (Res.one rfl (RV.tmp rfl))
noncomputable def s_l02Sides (a0 : Int) (a1 : Int) : Option (Bool) :=
  obind (s_l00In a0 1 12) fun (r1 : Bool) =>
  bsel r1 (
    obind (s_l00In a1 1 12) fun (r2 : Bool) =>
    some r2) (
    some false)
theorem s_l02Sides_ok (a0 : Int) (a1 : Int) (q0 : Bool) (h : s_l02Sides a0 a1 = some q0) : Ev Try.prog 87 [AV.i64 a0, AV.i64 a1] [] (AV.b q0) [] := by
  refine Ev.start Try.func87 rfl rfl 0 (τ := [(0, AV.i64 a0), (1, AV.i64 a1)]) rfl (Γ' := []) rfl (n := 23) rfl (g := 0) rfl (fun _ => rfl) ?_
  unfold s_l02Sides at h
  refine RunC.seq ?_
  refine RunC.regionW ?_
  refine ROps.l (r := AV.b false) rfl rfl rfl (LOp.assign rfl rfl) ?_
  refine ROps.nil ?_
  refine RunC.seq ?_
  obtain ⟨r1, hf1, h⟩ := obind_some h
  rcases bsel_some h with ⟨hc2, h⟩ | ⟨hc2, h⟩
  · obtain ⟨r2, hf3, h⟩ := obind_some h
    refine RunC.regionW ?_
    refine ROps.l (r := AV.i64 a0) rfl rfl rfl (LOp.move rfl rfl) ?_
    refine ROps.d (r := AV.b true) (fs := []) (Γ' := []) rfl rfl rfl (TOp.eqb (TOp.callB (CallAs.func ent39 rfl rfl) (Bors.cons (Bor.pure rfl) (Bors.cons (Bor.pure rfl) (Bors.cons (Bor.pure rfl) Bors.nil))) rfl rfl (s_l00In_ok a0 1 12 r1 hf1)) hc2) rfl ?_
    refine ROps.l (r := AV.b true) rfl rfl rfl (LOp.move rfl rfl) ?_
    refine ROps.l (r := AV.i64 a1) rfl rfl rfl (LOp.move rfl rfl) ?_
    refine ROps.d (r := AV.b r2) (fs := []) (Γ' := []) rfl rfl rfl (TOp.callB (CallAs.func ent39 rfl rfl) (Bors.cons (Bor.pure rfl) (Bors.cons (Bor.pure rfl) (Bors.cons (Bor.pure rfl) Bors.nil))) rfl rfl (s_l00In_ok a1 1 12 r2 hf3)) rfl ?_
    refine ROps.l (r := AV.b r2) rfl rfl rfl (LOp.pick_true rfl rfl rfl) ?_
    refine ROps.l (r := AV.b r2) rfl rfl rfl (LOp.assign rfl rfl) ?_
    refine ROps.nil ?_
    refine RunC.ret ?_
    have hq := Option.some.inj h
    subst q0
    exact bodyQ.pure (.inr rfl) rfl (Res.one rfl (RV.tmp rfl))
  · refine RunC.regionW ?_
    refine ROps.l (r := AV.i64 a0) rfl rfl rfl (LOp.move rfl rfl) ?_
    refine ROps.d (r := AV.b false) (fs := []) (Γ' := []) rfl rfl rfl (TOp.eqb (TOp.callB (CallAs.func ent39 rfl rfl) (Bors.cons (Bor.pure rfl) (Bors.cons (Bor.pure rfl) (Bors.cons (Bor.pure rfl) Bors.nil))) rfl rfl (s_l00In_ok a0 1 12 r1 hf1)) hc2) rfl ?_
    refine ROps.l (r := AV.b false) rfl rfl rfl (LOp.move rfl rfl) ?_
    refine ROps.s rfl rfl rfl ?_
    refine ROps.s rfl rfl rfl ?_
    refine ROps.l (r := AV.b false) rfl rfl rfl (LOp.pick_false rfl rfl rfl) ?_
    refine ROps.l (r := AV.b false) rfl rfl rfl (LOp.assign rfl rfl) ?_
    refine ROps.nil ?_
    refine RunC.ret ?_
    have hq := Option.some.inj h
    subst q0
    exact bodyQ.pure (.inr rfl) rfl (Res.one rfl (RV.tmp rfl))
noncomputable def s_l01Finite (a0 : F) : Option (Bool) :=
  olet (fop .sub .f32 a0 a0) fun (x1 : F) =>
  some (feq .f32 x1 (some 0))
theorem s_l01Finite_ok (a0 : F) (q0 : Bool) (h : s_l01Finite a0 = some q0) : Ev Try.prog 58 [AV.f32 a0] [] (AV.b q0) [] := by
  refine Ev.start Try.func58 rfl rfl 0 (τ := [(0, AV.f32 a0)]) rfl (Γ' := []) rfl (n := 15) rfl (g := 0) rfl (fun _ => rfl) ?_
  unfold s_l01Finite at h
  refine RunC.seq ?_
  refine RunC.regionW ?_
  refine ROps.l (r := AV.b false) rfl rfl rfl (LOp.assign rfl rfl) ?_
  refine ROps.nil ?_
  refine RunC.seq ?_
  obtain ⟨x1, hx1, h⟩ := olet_some h
  refine RunC.regionW ?_
  refine ROps.l (r := AV.f32 a0) rfl rfl rfl (LOp.move rfl rfl) ?_
  refine ROps.l (r := AV.f32 a0) rfl rfl rfl (LOp.move rfl rfl) ?_
  refine ROps.d (r := AV.f32 x1) (fs := []) (Γ' := []) rfl rfl rfl (TOp.eqr (TOp.fop (.inr (.inl rfl)) rfl (OpF.tmp rfl) (OpF.tmp rfl)) (congrArg (AV.f .f32) hx1)) rfl ?_
  refine ROps.l (r := AV.b (feq .f32 x1 (some 0))) rfl rfl rfl (LOp.feq rfl (OpF.tmp rfl) (OpF.const rfl (by kernel_rfl) (by kernel_rfl))) ?_
  refine ROps.l (r := AV.b (feq .f32 x1 (some 0))) rfl rfl rfl (LOp.assign rfl rfl) ?_
  refine ROps.nil ?_
  refine RunC.ret ?_
  have hq := Option.some.inj h
  subst q0
  exact bodyQ.pure (.inr rfl) rfl (Res.one rfl (RV.tmp rfl))
noncomputable def s_l02Finite_b1 (a0 : List F) (v1 : Int) : Option (LR (Int) (Unit) (Bool)) :=
  bsel (decide (v1 < (a0.length : Int))) (
    obind (at? a0 v1) fun (e2 : F) =>
    obind (s_l01Finite e2) fun (r3 : Bool) =>
    bsel r3 (
      olet (IntKind.i64.wrap (v1 + 1)) fun (x4 : Int) =>
      some (LR.next x4)) (
      some (LR.ret false))) (
    some (LR.out ()))
noncomputable def s_l02Finite_s1 (a0 : List F) : (Int) → Option (LR (Int) (Unit) (Bool)) := fun s => s_l02Finite_b1 a0 s
noncomputable def s_l02Finite_k1  : Option (Bool) :=
  some true
noncomputable def s_l02Finite (a0 : List F) : Option (Bool) :=
  obind (loopM (s_l02Finite_s1 a0) 0) fun z => osum z (fun _ => s_l02Finite_k1) (fun r => some r)
theorem s_l02Finite_ok (a0 : List F) (q0 : Bool) (h : s_l02Finite a0 = some q0) : Ev Try.prog 88 [AV.sl a0.length (a0.map AV.f32)] [] (AV.b q0) [] := by
  refine Ev.start Try.func88 rfl rfl 0 (τ := [(0, AV.sl a0.length (a0.map AV.f32))]) rfl (Γ' := []) rfl (n := 33) rfl (g := 0) rfl (fun _ => rfl) ?_
  unfold s_l02Finite at h
  refine RunC.seq ?_
  refine RunC.regionW ?_
  refine ROps.l (r := AV.b false) rfl rfl rfl (LOp.assign rfl rfl) ?_
  refine ROps.nil ?_
  refine RunC.seq ?_
  refine RunC.seq ?_
  refine RunC.regionW ?_
  refine ROps.l (r := AV.i64 0) rfl rfl rfl (LOp.assign rfl rfl) ?_
  refine ROps.nil ?_
  obtain ⟨z2, hz_2, h⟩ := obind_some h
  refine RunC.cutN (fun τ Γ => WeakLe τ [] ∧ DeadLe Γ [] ∧ z2 = .inl ()) ?_ ?_
  · refine RunC.block (RunC.loop (RunL.loopM (x := z2) (s_l02Finite_s1 a0) (fun (s : Int) τ Γ => WeakLe τ [(0, AV.sl a0.length (a0.map AV.f32)), (3, AV.i64 s)] ∧ DeadLe Γ []) ?_ _ _ _ hz_2 ⟨⟨(ALe.refl _), (ALe.refl _), trivial⟩, trivial⟩))
    rintro v1 τ2 Γ2 y2_ ⟨hw2, hd2⟩ h2_ ho2 hr2
    refine RunC.wl (τ' := [(0, AV.sl a0.length (a0.map AV.f32)), (3, AV.i64 v1)]) (Γ' := []) hw2 hd2 ?_
    replace h2_ : s_l02Finite_b1 a0 v1 = some y2_ := h2_
    unfold s_l02Finite_b1 at h2_
    refine RunC.seq ?_
    refine RunC.seq ?_
    rcases bsel_some h2_ with ⟨hc1, h2_⟩ | ⟨hc1, h2_⟩
    · refine RunC.regionW ?_
      refine ROps.l (r := AV.i64 v1) rfl rfl rfl (LOp.move rfl rfl) ?_
      refine ROps.l (r := AV.sl a0.length (a0.map AV.f32)) rfl rfl rfl (LOp.move rfl rfl) ?_
      refine ROps.l (r := AV.i64 (a0.length : Int)) rfl rfl rfl (LOp.len_sl und22 rfl rfl) ?_
      refine ROps.l (r := AV.b true) rfl rfl rfl (LOp.eqb (LOp.lss rfl rfl rfl) hc1) ?_
      refine ROps.nil ?_
      refine RunC.cond_true rfl rfl ?_
      refine RunC.skip ?_
      refine RunC.seq ?_
      refine RunC.block ?_
      refine RunC.seq ?_
      obtain ⟨e2, he2, h2_⟩ := obind_some h2_
      obtain ⟨r3, hf3, h2_⟩ := obind_some h2_
      rcases bsel_some h2_ with ⟨hc4, h2_⟩ | ⟨hc4, h2_⟩
      · refine RunC.regionW ?_
        refine ROps.l (r := AV.sl a0.length (a0.map AV.f32)) rfl rfl rfl (LOp.move rfl rfl) ?_
        refine ROps.l (r := AV.i64 v1) rfl rfl rfl (LOp.move rfl rfl) ?_
        refine ROps.l (r := AV.ptr [AV.f32 e2]) rfl rfl rfl (LOp.le (LOp.ix (f := AV.f32) und22 siz25 rfl rfl rfl rfl he2) ALe.ptr) ?_
        refine ROps.l (r := AV.f32 e2) rfl rfl rfl (LOp.load1 agg25 rfl rfl) ?_
        refine ROps.d (r := AV.b true) (fs := []) (Γ' := []) rfl rfl rfl (TOp.eqb (TOp.callB (CallAs.func ent58 rfl rfl) (Bors.cons (Bor.pure rfl) Bors.nil) rfl rfl (s_l01Finite_ok e2 r3 hf3)) hc4) rfl ?_
        refine ROps.l (r := AV.b false) rfl rfl rfl (LOp.eqb (LOp.not rfl rfl) rfl) ?_
        refine ROps.nil ?_
        refine RunC.cond_false rfl rfl ?_
        refine RunC.skip ?_
        obtain ⟨x4, hx5, h2_⟩ := olet_some h2_
        refine RunC.regionW ?_
        refine ROps.l (r := AV.i64 v1) rfl rfl rfl (LOp.move rfl rfl) ?_
        refine ROps.l (r := AV.i64 x4) rfl rfl rfl (LOp.eqr (LOp.add rfl rfl rfl) (congrArg (AV.ik .i64) hx5)) ?_
        refine ROps.l (r := AV.i64 x4) rfl rfl rfl (LOp.assign rfl rfl) ?_
        refine ROps.nil ?_
        cases Option.some.inj h2_
        exact ⟨_, rfl, ⟨(ALe.refl _), (ALe.refl _), trivial⟩, trivial⟩
      · refine RunC.regionW ?_
        refine ROps.l (r := AV.sl a0.length (a0.map AV.f32)) rfl rfl rfl (LOp.move rfl rfl) ?_
        refine ROps.l (r := AV.i64 v1) rfl rfl rfl (LOp.move rfl rfl) ?_
        refine ROps.l (r := AV.ptr [AV.f32 e2]) rfl rfl rfl (LOp.le (LOp.ix (f := AV.f32) und22 siz25 rfl rfl rfl rfl he2) ALe.ptr) ?_
        refine ROps.l (r := AV.f32 e2) rfl rfl rfl (LOp.load1 agg25 rfl rfl) ?_
        refine ROps.d (r := AV.b false) (fs := []) (Γ' := []) rfl rfl rfl (TOp.eqb (TOp.callB (CallAs.func ent58 rfl rfl) (Bors.cons (Bor.pure rfl) Bors.nil) rfl rfl (s_l01Finite_ok e2 r3 hf3)) hc4) rfl ?_
        refine ROps.l (r := AV.b true) rfl rfl rfl (LOp.eqb (LOp.not rfl rfl) rfl) ?_
        refine ROps.nil ?_
        refine RunC.cond_true rfl rfl ?_
        refine RunC.seq ?_
        refine RunC.regionW ?_
        refine ROps.l (r := AV.b false) rfl rfl rfl (LOp.assign rfl rfl) ?_
        refine ROps.nil ?_
        refine RunC.ret ?_
        cases Option.some.inj h2_
        have hx3_ := hr2 _ rfl
        subst hx3_
        have hq := Option.some.inj h
        subst q0
        exact bodyQ.pure (.inr rfl) rfl (Res.one rfl (RV.tmp rfl))
    · refine RunC.regionW ?_
      refine ROps.l (r := AV.i64 v1) rfl rfl rfl (LOp.move rfl rfl) ?_
      refine ROps.l (r := AV.sl a0.length (a0.map AV.f32)) rfl rfl rfl (LOp.move rfl rfl) ?_
      refine ROps.l (r := AV.i64 (a0.length : Int)) rfl rfl rfl (LOp.len_sl und22 rfl rfl) ?_
      refine ROps.l (r := AV.b false) rfl rfl rfl (LOp.eqb (LOp.lss rfl rfl rfl) hc1) ?_
      refine ROps.nil ?_
      refine RunC.cond_false rfl rfl ?_
      refine RunC.exit ?_
      cases Option.some.inj h2_
      have hx := ho2 _ rfl
      exact ⟨trivial, trivial, hx⟩
  · rintro τ4 Γ4 ⟨hw4, hd4, rfl⟩
    refine RunC.wl (τ' := []) (Γ' := []) hw4 hd4 ?_
    replace h : s_l02Finite_k1 = some q0 := h
    unfold s_l02Finite_k1 at h
    refine RunC.seq ?_
    refine RunC.regionW ?_
    refine ROps.l (r := AV.b true) rfl rfl rfl (LOp.assign rfl rfl) ?_
    refine ROps.nil ?_
    refine RunC.ret ?_
    have hq := Option.some.inj h
    subst q0
    exact bodyQ.pure (.inr rfl) rfl (Res.one rfl (RV.tmp rfl))
noncomputable def s_l02Is (a0 : Int) (a1 : Int) (a2 : List F) : Option (Bool) :=
  obind (s_l02Sides a0 a1) fun (r1 : Bool) =>
  bsel r1 (
    olet (IntKind.i64.wrap (a0 * a1)) fun (x2 : Int) =>
    bsel (decide ((a2.length : Int) = x2)) (
      obind (s_l02Finite a2) fun (r3 : Bool) =>
      some r3) (
      some false)) (
    some false)
theorem s_l02Is_ok (a0 : Int) (a1 : Int) (a2 : List F) (q0 : Bool) (h : s_l02Is a0 a1 a2 = some q0) : Ev Try.prog 37 [AV.ptr [AV.i64 a0, AV.i64 a1, AV.sl a2.length (a2.map AV.f32)]] [] (AV.b q0) [] := by
  refine Ev.start Try.func37 rfl rfl 0 (τ := [(0, AV.ptr [AV.i64 a0, AV.i64 a1, AV.sl a2.length (a2.map AV.f32)])]) rfl (Γ' := []) rfl (n := 73) rfl (g := 0) rfl (fun _ => rfl) ?_
  unfold s_l02Is at h
  refine RunC.seq ?_
  refine RunC.regionW ?_
  refine ROps.l (r := AV.b false) rfl rfl rfl (LOp.assign rfl rfl) ?_
  refine ROps.nil ?_
  refine RunC.seq ?_
  obtain ⟨r1, hf1, h⟩ := obind_some h
  rcases bsel_some h with ⟨hc2, h⟩ | ⟨hc2, h⟩
  · obtain ⟨x2, hx3, h⟩ := olet_some h
    rcases bsel_some h with ⟨hc4, h⟩ | ⟨hc4, h⟩
    · obtain ⟨r3, hf5, h⟩ := obind_some h
      refine RunC.region_draw (Γ' := []) 34 mixed 
        (TR.l (r := AV.ptr [AV.i64 a0, AV.i64 a1, AV.sl a2.length (a2.map AV.f32)]) rfl rfl (LOp.move rfl rfl) <|
        (TR.l (r := AV.ptr [AV.i64 a0, AV.i64 a1, AV.sl a2.length (a2.map AV.f32)]) rfl rfl (LOp.nilCheck_ptr rfl rfl) <|
        (TR.l (r := AV.ptr [AV.i64 a0, AV.i64 a1, AV.sl a2.length (a2.map AV.f32)]) rfl rfl (LOp.fap und27 rfl siz2 rfl rfl rfl) <|
        (TR.l (r := AV.i64 a0) rfl rfl (LOp.load1 agg2 rfl rfl) <|
        (TR.l (r := AV.ptr [AV.i64 a0, AV.i64 a1, AV.sl a2.length (a2.map AV.f32)]) rfl rfl (LOp.move rfl rfl) <|
        (TR.l (r := AV.ptr [AV.i64 a0, AV.i64 a1, AV.sl a2.length (a2.map AV.f32)]) rfl rfl (LOp.nilCheck_ptr rfl rfl) <|
        (TR.l (r := AV.ptr [AV.i64 a1, AV.sl a2.length (a2.map AV.f32)]) rfl rfl (LOp.fap und27 rfl siz2 rfl rfl rfl) <|
        (TR.l (r := AV.i64 a1) rfl rfl (LOp.load1 agg2 rfl rfl) <|
        (TR.d (r := AV.b true) (fs := []) rfl rfl (TOp.eqb (TOp.callB (CallAs.func ent87 rfl rfl) (Bors.cons (Bor.pure rfl) (Bors.cons (Bor.pure rfl) Bors.nil)) rfl rfl (s_l02Sides_ok a0 a1 r1 hf1)) hc2) <|
        (TR.l (r := AV.b true) rfl rfl (LOp.move rfl rfl) <|
        (TR.l (r := AV.ptr [AV.i64 a0, AV.i64 a1, AV.sl a2.length (a2.map AV.f32)]) rfl rfl (LOp.move rfl rfl) <|
        (TR.l (r := AV.ptr [AV.i64 a0, AV.i64 a1, AV.sl a2.length (a2.map AV.f32)]) rfl rfl (LOp.nilCheck_ptr rfl rfl) <|
        (TR.l (r := AV.ptr [AV.sl a2.length (a2.map AV.f32)]) rfl rfl (LOp.fap und27 rfl siz22 rfl rfl rfl) <|
        (TR.l (r := AV.sl a2.length (a2.map AV.f32)) rfl rfl (LOp.load1 agg22 rfl rfl) <|
        (TR.l (r := AV.i64 (a2.length : Int)) rfl rfl (LOp.len_sl und22 rfl rfl) <|
        (TR.l (r := AV.ptr [AV.i64 a0, AV.i64 a1, AV.sl a2.length (a2.map AV.f32)]) rfl rfl (LOp.move rfl rfl) <|
        (TR.l (r := AV.ptr [AV.i64 a0, AV.i64 a1, AV.sl a2.length (a2.map AV.f32)]) rfl rfl (LOp.nilCheck_ptr rfl rfl) <|
        (TR.l (r := AV.ptr [AV.i64 a0, AV.i64 a1, AV.sl a2.length (a2.map AV.f32)]) rfl rfl (LOp.fap und27 rfl siz2 rfl rfl rfl) <|
        (TR.l (r := AV.i64 a0) rfl rfl (LOp.load1 agg2 rfl rfl) <|
        (TR.l (r := AV.ptr [AV.i64 a0, AV.i64 a1, AV.sl a2.length (a2.map AV.f32)]) rfl rfl (LOp.move rfl rfl) <|
        (TR.l (r := AV.ptr [AV.i64 a0, AV.i64 a1, AV.sl a2.length (a2.map AV.f32)]) rfl rfl (LOp.nilCheck_ptr rfl rfl) <|
        (TR.l (r := AV.ptr [AV.i64 a1, AV.sl a2.length (a2.map AV.f32)]) rfl rfl (LOp.fap und27 rfl siz2 rfl rfl rfl) <|
        (TR.l (r := AV.i64 a1) rfl rfl (LOp.load1 agg2 rfl rfl) <|
        (TR.l (r := AV.i64 x2) rfl rfl (LOp.eqr (LOp.mul rfl rfl rfl) (congrArg (AV.ik .i64) hx3)) <|
        (TR.l (r := AV.b true) rfl rfl (LOp.eqb (LOp.eql rfl rfl rfl) hc4) <|
        (TR.l (r := AV.b true) rfl rfl (LOp.pick_true rfl rfl rfl) <|
        (TR.l (r := AV.b true) rfl rfl (LOp.move rfl rfl) <|
        (TR.l (r := AV.ptr [AV.i64 a0, AV.i64 a1, AV.sl a2.length (a2.map AV.f32)]) rfl rfl (LOp.move rfl rfl) <|
        (TR.l (r := AV.ptr [AV.i64 a0, AV.i64 a1, AV.sl a2.length (a2.map AV.f32)]) rfl rfl (LOp.nilCheck_ptr rfl rfl) <|
        (TR.l (r := AV.ptr [AV.sl a2.length (a2.map AV.f32)]) rfl rfl (LOp.fap und27 rfl siz22 rfl rfl rfl) <|
        (TR.l (r := AV.sl a2.length (a2.map AV.f32)) rfl rfl (LOp.load1 agg22 rfl rfl) <|
        (TR.d (r := AV.b r3) (fs := []) rfl rfl (TOp.callB (CallAs.func ent88 rfl rfl) (Bors.cons (Bor.sl (fun _ => rfl)) Bors.nil) rfl rfl (s_l02Finite_ok a2 r3 hf5)) <|
        (TR.l (r := AV.b r3) rfl rfl (LOp.pick_true rfl rfl rfl) <|
        (TR.l (r := AV.b r3) rfl rfl (LOp.assign rfl rfl) <|
        TR.nil)))))))))))))))))))))))))))))))))) rfl (by kernel_rfl) rfl fills_nil rfl ?_
      iterate 34 refine ROps.dropS ?_
      refine ROps.drop0 ?_
      refine ROps.nil ?_
      refine RunC.ret ?_
      have hq := Option.some.inj h
      subst q0
      exact bodyQ.pure (.inr rfl) rfl (Res.one rfl (RV.tmp rfl))
    · refine RunC.region_draw (Γ' := []) 34 mixed 
        (TR.l (r := AV.ptr [AV.i64 a0, AV.i64 a1, AV.sl a2.length (a2.map AV.f32)]) rfl rfl (LOp.move rfl rfl) <|
        (TR.l (r := AV.ptr [AV.i64 a0, AV.i64 a1, AV.sl a2.length (a2.map AV.f32)]) rfl rfl (LOp.nilCheck_ptr rfl rfl) <|
        (TR.l (r := AV.ptr [AV.i64 a0, AV.i64 a1, AV.sl a2.length (a2.map AV.f32)]) rfl rfl (LOp.fap und27 rfl siz2 rfl rfl rfl) <|
        (TR.l (r := AV.i64 a0) rfl rfl (LOp.load1 agg2 rfl rfl) <|
        (TR.l (r := AV.ptr [AV.i64 a0, AV.i64 a1, AV.sl a2.length (a2.map AV.f32)]) rfl rfl (LOp.move rfl rfl) <|
        (TR.l (r := AV.ptr [AV.i64 a0, AV.i64 a1, AV.sl a2.length (a2.map AV.f32)]) rfl rfl (LOp.nilCheck_ptr rfl rfl) <|
        (TR.l (r := AV.ptr [AV.i64 a1, AV.sl a2.length (a2.map AV.f32)]) rfl rfl (LOp.fap und27 rfl siz2 rfl rfl rfl) <|
        (TR.l (r := AV.i64 a1) rfl rfl (LOp.load1 agg2 rfl rfl) <|
        (TR.d (r := AV.b true) (fs := []) rfl rfl (TOp.eqb (TOp.callB (CallAs.func ent87 rfl rfl) (Bors.cons (Bor.pure rfl) (Bors.cons (Bor.pure rfl) Bors.nil)) rfl rfl (s_l02Sides_ok a0 a1 r1 hf1)) hc2) <|
        (TR.l (r := AV.b true) rfl rfl (LOp.move rfl rfl) <|
        (TR.l (r := AV.ptr [AV.i64 a0, AV.i64 a1, AV.sl a2.length (a2.map AV.f32)]) rfl rfl (LOp.move rfl rfl) <|
        (TR.l (r := AV.ptr [AV.i64 a0, AV.i64 a1, AV.sl a2.length (a2.map AV.f32)]) rfl rfl (LOp.nilCheck_ptr rfl rfl) <|
        (TR.l (r := AV.ptr [AV.sl a2.length (a2.map AV.f32)]) rfl rfl (LOp.fap und27 rfl siz22 rfl rfl rfl) <|
        (TR.l (r := AV.sl a2.length (a2.map AV.f32)) rfl rfl (LOp.load1 agg22 rfl rfl) <|
        (TR.l (r := AV.i64 (a2.length : Int)) rfl rfl (LOp.len_sl und22 rfl rfl) <|
        (TR.l (r := AV.ptr [AV.i64 a0, AV.i64 a1, AV.sl a2.length (a2.map AV.f32)]) rfl rfl (LOp.move rfl rfl) <|
        (TR.l (r := AV.ptr [AV.i64 a0, AV.i64 a1, AV.sl a2.length (a2.map AV.f32)]) rfl rfl (LOp.nilCheck_ptr rfl rfl) <|
        (TR.l (r := AV.ptr [AV.i64 a0, AV.i64 a1, AV.sl a2.length (a2.map AV.f32)]) rfl rfl (LOp.fap und27 rfl siz2 rfl rfl rfl) <|
        (TR.l (r := AV.i64 a0) rfl rfl (LOp.load1 agg2 rfl rfl) <|
        (TR.l (r := AV.ptr [AV.i64 a0, AV.i64 a1, AV.sl a2.length (a2.map AV.f32)]) rfl rfl (LOp.move rfl rfl) <|
        (TR.l (r := AV.ptr [AV.i64 a0, AV.i64 a1, AV.sl a2.length (a2.map AV.f32)]) rfl rfl (LOp.nilCheck_ptr rfl rfl) <|
        (TR.l (r := AV.ptr [AV.i64 a1, AV.sl a2.length (a2.map AV.f32)]) rfl rfl (LOp.fap und27 rfl siz2 rfl rfl rfl) <|
        (TR.l (r := AV.i64 a1) rfl rfl (LOp.load1 agg2 rfl rfl) <|
        (TR.l (r := AV.i64 x2) rfl rfl (LOp.eqr (LOp.mul rfl rfl rfl) (congrArg (AV.ik .i64) hx3)) <|
        (TR.l (r := AV.b false) rfl rfl (LOp.eqb (LOp.eql rfl rfl rfl) hc4) <|
        (TR.l (r := AV.b false) rfl rfl (LOp.pick_true rfl rfl rfl) <|
        (TR.l (r := AV.b false) rfl rfl (LOp.move rfl rfl) <|
        (TR.s rfl rfl <|
        (TR.s rfl rfl <|
        (TR.s rfl rfl <|
        (TR.s rfl rfl <|
        (TR.s rfl rfl <|
        (TR.l (r := AV.b false) rfl rfl (LOp.pick_false rfl rfl rfl) <|
        (TR.l (r := AV.b false) rfl rfl (LOp.assign rfl rfl) <|
        TR.nil)))))))))))))))))))))))))))))))))) rfl (by kernel_rfl) rfl fills_nil rfl ?_
      iterate 34 refine ROps.dropS ?_
      refine ROps.drop0 ?_
      refine ROps.nil ?_
      refine RunC.ret ?_
      have hq := Option.some.inj h
      subst q0
      exact bodyQ.pure (.inr rfl) rfl (Res.one rfl (RV.tmp rfl))
  · refine RunC.region_draw (Γ' := []) 34 mixed 
      (TR.l (r := AV.ptr [AV.i64 a0, AV.i64 a1, AV.sl a2.length (a2.map AV.f32)]) rfl rfl (LOp.move rfl rfl) <|
      (TR.l (r := AV.ptr [AV.i64 a0, AV.i64 a1, AV.sl a2.length (a2.map AV.f32)]) rfl rfl (LOp.nilCheck_ptr rfl rfl) <|
      (TR.l (r := AV.ptr [AV.i64 a0, AV.i64 a1, AV.sl a2.length (a2.map AV.f32)]) rfl rfl (LOp.fap und27 rfl siz2 rfl rfl rfl) <|
      (TR.l (r := AV.i64 a0) rfl rfl (LOp.load1 agg2 rfl rfl) <|
      (TR.l (r := AV.ptr [AV.i64 a0, AV.i64 a1, AV.sl a2.length (a2.map AV.f32)]) rfl rfl (LOp.move rfl rfl) <|
      (TR.l (r := AV.ptr [AV.i64 a0, AV.i64 a1, AV.sl a2.length (a2.map AV.f32)]) rfl rfl (LOp.nilCheck_ptr rfl rfl) <|
      (TR.l (r := AV.ptr [AV.i64 a1, AV.sl a2.length (a2.map AV.f32)]) rfl rfl (LOp.fap und27 rfl siz2 rfl rfl rfl) <|
      (TR.l (r := AV.i64 a1) rfl rfl (LOp.load1 agg2 rfl rfl) <|
      (TR.d (r := AV.b false) (fs := []) rfl rfl (TOp.eqb (TOp.callB (CallAs.func ent87 rfl rfl) (Bors.cons (Bor.pure rfl) (Bors.cons (Bor.pure rfl) Bors.nil)) rfl rfl (s_l02Sides_ok a0 a1 r1 hf1)) hc2) <|
      (TR.l (r := AV.b false) rfl rfl (LOp.move rfl rfl) <|
      (TR.s rfl rfl <|
      (TR.s rfl rfl <|
      (TR.s rfl rfl <|
      (TR.s rfl rfl <|
      (TR.s rfl rfl <|
      (TR.s rfl rfl <|
      (TR.s rfl rfl <|
      (TR.s rfl rfl <|
      (TR.s rfl rfl <|
      (TR.s rfl rfl <|
      (TR.s rfl rfl <|
      (TR.s rfl rfl <|
      (TR.s rfl rfl <|
      (TR.s rfl rfl <|
      (TR.s rfl rfl <|
      (TR.l (r := AV.b false) rfl rfl (LOp.pick_false rfl rfl rfl) <|
      (TR.l (r := AV.b false) rfl rfl (LOp.move rfl rfl) <|
      (TR.s rfl rfl <|
      (TR.s rfl rfl <|
      (TR.s rfl rfl <|
      (TR.s rfl rfl <|
      (TR.s rfl rfl <|
      (TR.l (r := AV.b false) rfl rfl (LOp.pick_false rfl rfl rfl) <|
      (TR.l (r := AV.b false) rfl rfl (LOp.assign rfl rfl) <|
      TR.nil)))))))))))))))))))))))))))))))))) rfl (by kernel_rfl) rfl fills_nil rfl ?_
    iterate 34 refine ROps.dropS ?_
    refine ROps.drop0 ?_
    refine ROps.nil ?_
    refine RunC.ret ?_
    have hq := Option.some.inj h
    subst q0
    exact bodyQ.pure (.inr rfl) rfl (Res.one rfl (RV.tmp rfl))
noncomputable def s_l02Square (a0 : Int) (a1 : Int) (a2 : List F) : Option (Bool) :=
  obind (s_l02Is a0 a1 a2) fun (r1 : Bool) =>
  bsel r1 (
    some (decide (a0 = a1))) (
    some false)
theorem s_l02Square_ok (a0 : Int) (a1 : Int) (a2 : List F) (q0 : Bool) (h : s_l02Square a0 a1 a2 = some q0) : Ev Try.prog 55 [AV.ptr [AV.i64 a0, AV.i64 a1, AV.sl a2.length (a2.map AV.f32)]] [] (AV.b q0) [] := by
  refine Ev.start Try.func55 rfl rfl 0 (τ := [(0, AV.ptr [AV.i64 a0, AV.i64 a1, AV.sl a2.length (a2.map AV.f32)])]) rfl (Γ' := []) rfl (n := 33) rfl (g := 0) rfl (fun _ => rfl) ?_
  unfold s_l02Square at h
  refine RunC.seq ?_
  refine RunC.regionW ?_
  refine ROps.l (r := AV.b false) rfl rfl rfl (LOp.assign rfl rfl) ?_
  refine ROps.nil ?_
  refine RunC.seq ?_
  obtain ⟨r1, hf1, h⟩ := obind_some h
  rcases bsel_some h with ⟨hc2, h⟩ | ⟨hc2, h⟩
  · refine RunC.region_draw (Γ' := []) 14 mixed 
      (TR.l (r := AV.ptr [AV.i64 a0, AV.i64 a1, AV.sl a2.length (a2.map AV.f32)]) rfl rfl (LOp.move rfl rfl) <|
      (TR.d (r := AV.b true) (fs := []) rfl rfl (TOp.eqb (TOp.callB (CallAs.func ent37 rfl rfl) (Bors.cons (Bor.ptr (Bors.cons (Bor.pure rfl) (Bors.cons (Bor.pure rfl) (Bors.cons (Bor.sl (fun _ => rfl)) Bors.nil)))) Bors.nil) rfl rfl (s_l02Is_ok a0 a1 a2 r1 hf1)) hc2) <|
      (TR.l (r := AV.b true) rfl rfl (LOp.move rfl rfl) <|
      (TR.l (r := AV.ptr [AV.i64 a0, AV.i64 a1, AV.sl a2.length (a2.map AV.f32)]) rfl rfl (LOp.move rfl rfl) <|
      (TR.l (r := AV.ptr [AV.i64 a0, AV.i64 a1, AV.sl a2.length (a2.map AV.f32)]) rfl rfl (LOp.nilCheck_ptr rfl rfl) <|
      (TR.l (r := AV.ptr [AV.i64 a0, AV.i64 a1, AV.sl a2.length (a2.map AV.f32)]) rfl rfl (LOp.fap und27 rfl siz2 rfl rfl rfl) <|
      (TR.l (r := AV.i64 a0) rfl rfl (LOp.load1 agg2 rfl rfl) <|
      (TR.l (r := AV.ptr [AV.i64 a0, AV.i64 a1, AV.sl a2.length (a2.map AV.f32)]) rfl rfl (LOp.move rfl rfl) <|
      (TR.l (r := AV.ptr [AV.i64 a0, AV.i64 a1, AV.sl a2.length (a2.map AV.f32)]) rfl rfl (LOp.nilCheck_ptr rfl rfl) <|
      (TR.l (r := AV.ptr [AV.i64 a1, AV.sl a2.length (a2.map AV.f32)]) rfl rfl (LOp.fap und27 rfl siz2 rfl rfl rfl) <|
      (TR.l (r := AV.i64 a1) rfl rfl (LOp.load1 agg2 rfl rfl) <|
      (TR.l (r := AV.b (decide (a0 = a1))) rfl rfl (LOp.eql rfl rfl rfl) <|
      (TR.l (r := AV.b (decide (a0 = a1))) rfl rfl (LOp.pick_true rfl rfl rfl) <|
      (TR.l (r := AV.b (decide (a0 = a1))) rfl rfl (LOp.assign rfl rfl) <|
      TR.nil)))))))))))))) rfl (by kernel_rfl) rfl fills_nil rfl ?_
    iterate 14 refine ROps.dropS ?_
    refine ROps.drop0 ?_
    refine ROps.nil ?_
    refine RunC.ret ?_
    have hq := Option.some.inj h
    subst q0
    exact bodyQ.pure (.inr rfl) rfl (Res.one rfl (RV.tmp rfl))
  · refine RunC.region_draw (Γ' := []) 14 mixed 
      (TR.l (r := AV.ptr [AV.i64 a0, AV.i64 a1, AV.sl a2.length (a2.map AV.f32)]) rfl rfl (LOp.move rfl rfl) <|
      (TR.d (r := AV.b false) (fs := []) rfl rfl (TOp.eqb (TOp.callB (CallAs.func ent37 rfl rfl) (Bors.cons (Bor.ptr (Bors.cons (Bor.pure rfl) (Bors.cons (Bor.pure rfl) (Bors.cons (Bor.sl (fun _ => rfl)) Bors.nil)))) Bors.nil) rfl rfl (s_l02Is_ok a0 a1 a2 r1 hf1)) hc2) <|
      (TR.l (r := AV.b false) rfl rfl (LOp.move rfl rfl) <|
      (TR.s rfl rfl <|
      (TR.s rfl rfl <|
      (TR.s rfl rfl <|
      (TR.s rfl rfl <|
      (TR.s rfl rfl <|
      (TR.s rfl rfl <|
      (TR.s rfl rfl <|
      (TR.s rfl rfl <|
      (TR.s rfl rfl <|
      (TR.l (r := AV.b false) rfl rfl (LOp.pick_false rfl rfl rfl) <|
      (TR.l (r := AV.b false) rfl rfl (LOp.assign rfl rfl) <|
      TR.nil)))))))))))))) rfl (by kernel_rfl) rfl fills_nil rfl ?_
    iterate 14 refine ROps.dropS ?_
    refine ROps.drop0 ?_
    refine ROps.nil ?_
    refine RunC.ret ?_
    have hq := Option.some.inj h
    subst q0
    exact bodyQ.pure (.inr rfl) rfl (Res.one rfl (RV.tmp rfl))
noncomputable def s_l02Own (a0 : Int) (a1 : Int) (a2 : List F) : Option (Int × Int × (List F)) :=
  need (apok 4 0 a2.length) <|
  some (a0, a1, (([] : List F) ++ a2))
theorem s_l02Own_ok (a0 : Int) (a1 : Int) (a2 : List F) (q0 : Int) (q1 : Int) (q2 : List F) (h : s_l02Own a0 a1 a2 = some (q0, q1, q2)) : Ev Try.prog 40 [AV.ptr [AV.i64 a0, AV.i64 a1, AV.sl a2.length (a2.map AV.f32)]] [] (AV.agg [AV.i64 q0, AV.i64 q1, AV.oref 0 0 0 q2.length]) [⟨0, some (q2.map AV.f32)⟩] := by
  refine Ev.start Try.func40 rfl rfl 2 (τ := [(0, AV.ptr [AV.i64 a0, AV.i64 a1, AV.sl a2.length (a2.map AV.f32)])]) rfl (Γ' := [⟨0, none⟩, ⟨0, none⟩]) rfl (n := 37) rfl (g := 0) rfl (fun _ => rfl) ?_
  unfold s_l02Own at h
  refine RunC.seq ?_
  refine RunC.regionW ?_
  refine ROps.d (r := AV.optr 0 1 0) (fs := [(0, [AV.i64 0, AV.i64 0, AV.nilsl])]) (Γ' := [⟨1, some [AV.i64 0, AV.i64 0, AV.nilsl]⟩, ⟨0, none⟩]) rfl rfl rfl (TOp.alloc_o (g := ⟨0, none⟩) 0 rfl zer27 zok27 rfl) rfl ?_
  refine ROps.nil ?_
  refine RunC.seq ?_
  obtain ⟨hm1, h⟩ := need_some h
  refine RunC.region_draw (Γ' := [⟨1, some [AV.i64 0, AV.i64 0, AV.nilsl]⟩, ⟨1, some (([] : List F).map AV.f32)⟩]) 13 mixed 
    (TR.loose (r := AV.ptr [AV.i64 a0, AV.i64 a1, AV.sl a2.length (a2.map AV.f32)]) rfl rfl (LOp.move rfl rfl) <|
    (TR.loose (r := AV.ptr [AV.i64 a0, AV.i64 a1, AV.sl a2.length (a2.map AV.f32)]) rfl rfl (LOp.nilCheck_ptr rfl rfl) <|
    (TR.loose (r := AV.ptr [AV.i64 a0, AV.i64 a1, AV.sl a2.length (a2.map AV.f32)]) rfl rfl (LOp.fap und27 rfl siz2 rfl rfl rfl) <|
    (TR.loose (r := AV.i64 a0) rfl rfl (LOp.load1 agg2 rfl rfl) <|
    (TR.loose (r := AV.ptr [AV.i64 a0, AV.i64 a1, AV.sl a2.length (a2.map AV.f32)]) rfl rfl (LOp.move rfl rfl) <|
    (TR.loose (r := AV.ptr [AV.i64 a0, AV.i64 a1, AV.sl a2.length (a2.map AV.f32)]) rfl rfl (LOp.nilCheck_ptr rfl rfl) <|
    (TR.loose (r := AV.ptr [AV.i64 a1, AV.sl a2.length (a2.map AV.f32)]) rfl rfl (LOp.fap und27 rfl siz2 rfl rfl rfl) <|
    (TR.loose (r := AV.i64 a1) rfl rfl (LOp.load1 agg2 rfl rfl) <|
    (TR.d (r := AV.oref 1 1 0 0) (fs := [(1, (([] : List F).map AV.f32))]) rfl rfl (TOp.buildSlice_o (g := ⟨0, none⟩) (za := AV.f32 (some 0)) (qs := []) 1 rfl und22 siz25 zer25 rfl zel25 rfl rfl trivial rfl) <|
    (TR.l (r := AV.ptr [AV.i64 a0, AV.i64 a1, AV.sl a2.length (a2.map AV.f32)]) rfl rfl (LOp.move rfl rfl) <|
    (TR.l (r := AV.ptr [AV.i64 a0, AV.i64 a1, AV.sl a2.length (a2.map AV.f32)]) rfl rfl (LOp.nilCheck_ptr rfl rfl) <|
    (TR.l (r := AV.ptr [AV.sl a2.length (a2.map AV.f32)]) rfl rfl (LOp.fap und27 rfl siz22 rfl rfl rfl) <|
    (TR.l (r := AV.sl a2.length (a2.map AV.f32)) rfl rfl (LOp.load1 agg22 rfl rfl) <|
    TR.nil))))))))))))) rfl (by kernel_rfl) rfl (fills_of (by show List.Nodup [1]; decide) ⟨⟨_, rfl⟩, trivial⟩) rfl ?_
  iterate 13 refine ROps.dropS ?_
  refine ROps.drop0 ?_
  refine ROps.app (f := AV.f32) (xs := ([] : List F)) (ys := a2) (Γ' := [⟨1, some [AV.i64 0, AV.i64 0, AV.nilsl]⟩, ⟨2, some ((([] : List F) ++ a2).map AV.f32)⟩]) rfl pun22 inf25 rfl rfl rfl rfl rfl rfl rfl rfl rfl (by simp) (ReadAs.sl (by simp)) (ones_map (fun _ => rfl)) (ap_by hm1) (ap_mx hm1) rfl ?_
  refine ROps.l (r := AV.agg [AV.i64 a0, AV.i64 a1, AV.oref 1 2 0 (0 + a2.length)]) rfl rfl rfl (LOp.build (qs := [(0, [AV.i64 a0]), (1, [AV.i64 a1]), (2, [AV.oref 1 2 0 (0 + a2.length)])]) zer27 zok27 und27 plc27 rfl ⟨rfl, ⟨_, ALe.refl _, rfl⟩, ⟨rfl, ⟨_, ALe.refl _, rfl⟩, ⟨rfl, ⟨_, ALe.refl _, rfl⟩, trivial⟩⟩⟩ rfl) ?_
  refine ROps.store_le (r := AV.agg [AV.i64 a0, AV.i64 a1, AV.oref 1 2 0 (0 + a2.length)]) (l' := [AV.i64 a0, AV.i64 a1, AV.oref 1 2 0 (0 + a2.length)]) (Γ' := [⟨1, some [AV.i64 a0, AV.i64 a1, AV.oref 1 2 0 (0 + a2.length)]⟩, ⟨2, some ((([] : List F) ++ a2).map AV.f32)⟩]) rfl siz27 rfl rfl rfl (ALe.refl _) rfl rfl rfl rfl (Nat.le_of_ble_eq_true rfl) rfl rfl ?_
  refine ROps.nil ?_
  refine RunC.ret ?_
  have hq := Option.some.inj h
  obtain ⟨hq0, hq⟩ := Prod.mk.inj hq
  obtain ⟨hq1, hq⟩ := Prod.mk.inj hq
  subst q0
  subst q1
  subst q2
  exact bodyQ.mk (r' := AV.agg [AV.i64 a0, AV.i64 a1, AV.oref 1 2 0 ((([] : List F) ++ a2).length)]) [(1, 2)] (.inr rfl) rfl (show List.Nodup [1] from by decide) rfl rfl (Res.eq (Res.one rfl (RV.cell agg27 siz27 rfl rfl rfl rfl)) (by rw [(show (([] : List F) ++ a2).length = (0 + a2.length) from (app_len rfl rfl))] <;> rfl)) (SelL.arr0 (f := AV.f32) (fun _ => rfl) rfl trivial)
noncomputable def s_l02Fit (a0 : Int) (a1 : Int) (a2 : List F) (a3 : Int) (a4 : Int) (a5 : List F) : Option (Bool) :=
  obind (s_l02Is a0 a1 a2) fun (r1 : Bool) =>
  bsel r1 (
    obind (s_l02Is a3 a4 a5) fun (r2 : Bool) =>
    bsel r2 (
      some (decide (a1 = a3))) (
      some false)) (
    some false)
theorem s_l02Fit_ok (a0 : Int) (a1 : Int) (a2 : List F) (a3 : Int) (a4 : Int) (a5 : List F) (q0 : Bool) (h : s_l02Fit a0 a1 a2 a3 a4 a5 = some q0) : Ev Try.prog 98 [AV.ptr [AV.i64 a0, AV.i64 a1, AV.sl a2.length (a2.map AV.f32)], AV.ptr [AV.i64 a3, AV.i64 a4, AV.sl a5.length (a5.map AV.f32)]] [] (AV.b q0) [] := by
  refine Ev.start Try.func98 rfl rfl 0 (τ := [(0, AV.ptr [AV.i64 a0, AV.i64 a1, AV.sl a2.length (a2.map AV.f32)]), (1, AV.ptr [AV.i64 a3, AV.i64 a4, AV.sl a5.length (a5.map AV.f32)])]) rfl (Γ' := []) rfl (n := 45) rfl (g := 0) rfl (fun _ => rfl) ?_
  unfold s_l02Fit at h
  refine RunC.seq ?_
  refine RunC.regionW ?_
  refine ROps.l (r := AV.b false) rfl rfl rfl (LOp.assign rfl rfl) ?_
  refine ROps.nil ?_
  refine RunC.seq ?_
  obtain ⟨r1, hf1, h⟩ := obind_some h
  rcases bsel_some h with ⟨hc2, h⟩ | ⟨hc2, h⟩
  · obtain ⟨r2, hf3, h⟩ := obind_some h
    rcases bsel_some h with ⟨hc4, h⟩ | ⟨hc4, h⟩
    · refine RunC.region_draw (Γ' := []) 18 mixed 
        (TR.l (r := AV.ptr [AV.i64 a0, AV.i64 a1, AV.sl a2.length (a2.map AV.f32)]) rfl rfl (LOp.move rfl rfl) <|
        (TR.d (r := AV.b true) (fs := []) rfl rfl (TOp.eqb (TOp.callB (CallAs.func ent37 rfl rfl) (Bors.cons (Bor.ptr (Bors.cons (Bor.pure rfl) (Bors.cons (Bor.pure rfl) (Bors.cons (Bor.sl (fun _ => rfl)) Bors.nil)))) Bors.nil) rfl rfl (s_l02Is_ok a0 a1 a2 r1 hf1)) hc2) <|
        (TR.l (r := AV.b true) rfl rfl (LOp.move rfl rfl) <|
        (TR.l (r := AV.ptr [AV.i64 a3, AV.i64 a4, AV.sl a5.length (a5.map AV.f32)]) rfl rfl (LOp.move rfl rfl) <|
        (TR.d (r := AV.b true) (fs := []) rfl rfl (TOp.eqb (TOp.callB (CallAs.func ent37 rfl rfl) (Bors.cons (Bor.ptr (Bors.cons (Bor.pure rfl) (Bors.cons (Bor.pure rfl) (Bors.cons (Bor.sl (fun _ => rfl)) Bors.nil)))) Bors.nil) rfl rfl (s_l02Is_ok a3 a4 a5 r2 hf3)) hc4) <|
        (TR.l (r := AV.b true) rfl rfl (LOp.pick_true rfl rfl rfl) <|
        (TR.l (r := AV.b true) rfl rfl (LOp.move rfl rfl) <|
        (TR.l (r := AV.ptr [AV.i64 a0, AV.i64 a1, AV.sl a2.length (a2.map AV.f32)]) rfl rfl (LOp.move rfl rfl) <|
        (TR.l (r := AV.ptr [AV.i64 a0, AV.i64 a1, AV.sl a2.length (a2.map AV.f32)]) rfl rfl (LOp.nilCheck_ptr rfl rfl) <|
        (TR.l (r := AV.ptr [AV.i64 a1, AV.sl a2.length (a2.map AV.f32)]) rfl rfl (LOp.fap und27 rfl siz2 rfl rfl rfl) <|
        (TR.l (r := AV.i64 a1) rfl rfl (LOp.load1 agg2 rfl rfl) <|
        (TR.l (r := AV.ptr [AV.i64 a3, AV.i64 a4, AV.sl a5.length (a5.map AV.f32)]) rfl rfl (LOp.move rfl rfl) <|
        (TR.l (r := AV.ptr [AV.i64 a3, AV.i64 a4, AV.sl a5.length (a5.map AV.f32)]) rfl rfl (LOp.nilCheck_ptr rfl rfl) <|
        (TR.l (r := AV.ptr [AV.i64 a3, AV.i64 a4, AV.sl a5.length (a5.map AV.f32)]) rfl rfl (LOp.fap und27 rfl siz2 rfl rfl rfl) <|
        (TR.l (r := AV.i64 a3) rfl rfl (LOp.load1 agg2 rfl rfl) <|
        (TR.l (r := AV.b (decide (a1 = a3))) rfl rfl (LOp.eql rfl rfl rfl) <|
        (TR.l (r := AV.b (decide (a1 = a3))) rfl rfl (LOp.pick_true rfl rfl rfl) <|
        (TR.l (r := AV.b (decide (a1 = a3))) rfl rfl (LOp.assign rfl rfl) <|
        TR.nil)))))))))))))))))) rfl (by kernel_rfl) rfl fills_nil rfl ?_
      iterate 18 refine ROps.dropS ?_
      refine ROps.drop0 ?_
      refine ROps.nil ?_
      refine RunC.ret ?_
      have hq := Option.some.inj h
      subst q0
      exact bodyQ.pure (.inr rfl) rfl (Res.one rfl (RV.tmp rfl))
    · refine RunC.region_draw (Γ' := []) 18 mixed 
        (TR.l (r := AV.ptr [AV.i64 a0, AV.i64 a1, AV.sl a2.length (a2.map AV.f32)]) rfl rfl (LOp.move rfl rfl) <|
        (TR.d (r := AV.b true) (fs := []) rfl rfl (TOp.eqb (TOp.callB (CallAs.func ent37 rfl rfl) (Bors.cons (Bor.ptr (Bors.cons (Bor.pure rfl) (Bors.cons (Bor.pure rfl) (Bors.cons (Bor.sl (fun _ => rfl)) Bors.nil)))) Bors.nil) rfl rfl (s_l02Is_ok a0 a1 a2 r1 hf1)) hc2) <|
        (TR.l (r := AV.b true) rfl rfl (LOp.move rfl rfl) <|
        (TR.l (r := AV.ptr [AV.i64 a3, AV.i64 a4, AV.sl a5.length (a5.map AV.f32)]) rfl rfl (LOp.move rfl rfl) <|
        (TR.d (r := AV.b false) (fs := []) rfl rfl (TOp.eqb (TOp.callB (CallAs.func ent37 rfl rfl) (Bors.cons (Bor.ptr (Bors.cons (Bor.pure rfl) (Bors.cons (Bor.pure rfl) (Bors.cons (Bor.sl (fun _ => rfl)) Bors.nil)))) Bors.nil) rfl rfl (s_l02Is_ok a3 a4 a5 r2 hf3)) hc4) <|
        (TR.l (r := AV.b false) rfl rfl (LOp.pick_true rfl rfl rfl) <|
        (TR.l (r := AV.b false) rfl rfl (LOp.move rfl rfl) <|
        (TR.s rfl rfl <|
        (TR.s rfl rfl <|
        (TR.s rfl rfl <|
        (TR.s rfl rfl <|
        (TR.s rfl rfl <|
        (TR.s rfl rfl <|
        (TR.s rfl rfl <|
        (TR.s rfl rfl <|
        (TR.s rfl rfl <|
        (TR.l (r := AV.b false) rfl rfl (LOp.pick_false rfl rfl rfl) <|
        (TR.l (r := AV.b false) rfl rfl (LOp.assign rfl rfl) <|
        TR.nil)))))))))))))))))) rfl (by kernel_rfl) rfl fills_nil rfl ?_
      iterate 18 refine ROps.dropS ?_
      refine ROps.drop0 ?_
      refine ROps.nil ?_
      refine RunC.ret ?_
      have hq := Option.some.inj h
      subst q0
      exact bodyQ.pure (.inr rfl) rfl (Res.one rfl (RV.tmp rfl))
  · refine RunC.region_draw (Γ' := []) 18 mixed 
      (TR.l (r := AV.ptr [AV.i64 a0, AV.i64 a1, AV.sl a2.length (a2.map AV.f32)]) rfl rfl (LOp.move rfl rfl) <|
      (TR.d (r := AV.b false) (fs := []) rfl rfl (TOp.eqb (TOp.callB (CallAs.func ent37 rfl rfl) (Bors.cons (Bor.ptr (Bors.cons (Bor.pure rfl) (Bors.cons (Bor.pure rfl) (Bors.cons (Bor.sl (fun _ => rfl)) Bors.nil)))) Bors.nil) rfl rfl (s_l02Is_ok a0 a1 a2 r1 hf1)) hc2) <|
      (TR.l (r := AV.b false) rfl rfl (LOp.move rfl rfl) <|
      (TR.s rfl rfl <|
      (TR.s rfl rfl <|
      (TR.l (r := AV.b false) rfl rfl (LOp.pick_false rfl rfl rfl) <|
      (TR.l (r := AV.b false) rfl rfl (LOp.move rfl rfl) <|
      (TR.s rfl rfl <|
      (TR.s rfl rfl <|
      (TR.s rfl rfl <|
      (TR.s rfl rfl <|
      (TR.s rfl rfl <|
      (TR.s rfl rfl <|
      (TR.s rfl rfl <|
      (TR.s rfl rfl <|
      (TR.s rfl rfl <|
      (TR.l (r := AV.b false) rfl rfl (LOp.pick_false rfl rfl rfl) <|
      (TR.l (r := AV.b false) rfl rfl (LOp.assign rfl rfl) <|
      TR.nil)))))))))))))))))) rfl (by kernel_rfl) rfl fills_nil rfl ?_
    iterate 18 refine ROps.dropS ?_
    refine ROps.drop0 ?_
    refine ROps.nil ?_
    refine RunC.ret ?_
    have hq := Option.some.inj h
    subst q0
    exact bodyQ.pure (.inr rfl) rfl (Res.one rfl (RV.tmp rfl))
noncomputable def s_l02Blank (a0 : Int) (a1 : Int) : Option (Int × Int × (List F)) :=
  some (a0, a1, ([] : List F))
theorem s_l02Blank_ok (a0 : Int) (a1 : Int) (q0 : Int) (q1 : Int) (q2 : List F) (h : s_l02Blank a0 a1 = some (q0, q1, q2)) : Ev Try.prog 120 [AV.i64 a0, AV.i64 a1] [] (AV.agg [AV.i64 q0, AV.i64 q1, AV.oref 0 0 0 q2.length]) [⟨0, some (q2.map AV.f32)⟩] := by
  refine Ev.start Try.func120 rfl rfl 2 (τ := [(0, AV.i64 a0), (1, AV.i64 a1)]) rfl (Γ' := [⟨0, none⟩, ⟨0, none⟩]) rfl (n := 19) rfl (g := 0) rfl (fun _ => rfl) ?_
  unfold s_l02Blank at h
  refine RunC.seq ?_
  refine RunC.regionW ?_
  refine ROps.d (r := AV.optr 0 1 0) (fs := [(0, [AV.i64 0, AV.i64 0, AV.nilsl])]) (Γ' := [⟨1, some [AV.i64 0, AV.i64 0, AV.nilsl]⟩, ⟨0, none⟩]) rfl rfl rfl (TOp.alloc_o (g := ⟨0, none⟩) 0 rfl zer27 zok27 rfl) rfl ?_
  refine ROps.nil ?_
  refine RunC.seq ?_
  refine RunC.regionW ?_
  refine ROps.l (r := AV.i64 a0) rfl rfl rfl (LOp.move rfl rfl) ?_
  refine ROps.l (r := AV.i64 a1) rfl rfl rfl (LOp.move rfl rfl) ?_
  refine ROps.d (r := AV.oref 1 1 0 0) (fs := [(1, (([] : List F).map AV.f32))]) (Γ' := [⟨1, some [AV.i64 0, AV.i64 0, AV.nilsl]⟩, ⟨1, some (([] : List F).map AV.f32)⟩]) rfl rfl rfl (TOp.buildSlice_o (g := ⟨0, none⟩) (za := AV.f32 (some 0)) (qs := []) 1 rfl und22 siz25 zer25 rfl zel25 rfl rfl trivial rfl) rfl ?_
  refine ROps.l (r := AV.agg [AV.i64 a0, AV.i64 a1, AV.oref 1 1 0 0]) rfl rfl rfl (LOp.build (qs := [(0, [AV.i64 a0]), (1, [AV.i64 a1]), (2, [AV.oref 1 1 0 0])]) zer27 zok27 und27 plc27 rfl ⟨rfl, ⟨_, ALe.refl _, rfl⟩, ⟨rfl, ⟨_, ALe.refl _, rfl⟩, ⟨rfl, ⟨_, ALe.refl _, rfl⟩, trivial⟩⟩⟩ rfl) ?_
  refine ROps.store_le (r := AV.agg [AV.i64 a0, AV.i64 a1, AV.oref 1 1 0 0]) (l' := [AV.i64 a0, AV.i64 a1, AV.oref 1 1 0 0]) (Γ' := [⟨1, some [AV.i64 a0, AV.i64 a1, AV.oref 1 1 0 0]⟩, ⟨1, some (([] : List F).map AV.f32)⟩]) rfl siz27 rfl rfl rfl (ALe.refl _) rfl rfl rfl rfl (Nat.le_of_ble_eq_true rfl) rfl rfl ?_
  refine ROps.nil ?_
  refine RunC.ret ?_
  have hq := Option.some.inj h
  obtain ⟨hq0, hq⟩ := Prod.mk.inj hq
  obtain ⟨hq1, hq⟩ := Prod.mk.inj hq
  subst q0
  subst q1
  subst q2
  exact bodyQ.mk (r' := AV.agg [AV.i64 a0, AV.i64 a1, AV.oref 1 1 0 (([] : List F).length)]) [(1, 1)] (.inr rfl) rfl (show List.Nodup [1] from by decide) rfl rfl (Res.eq (Res.one rfl (RV.cell agg27 siz27 rfl rfl rfl rfl)) (by rw [(show ([] : List F).length = 0 from rfl)] <;> rfl)) (SelL.arr0 (f := AV.f32) (fun _ => rfl) rfl trivial)
noncomputable def s_l02At (a0 : Int) (a1 : Int) (a2 : List F) (a3 : Int) (a4 : Int) : Option (F) :=
  olet (IntKind.i64.wrap (a3 * a1)) fun (x1 : Int) =>
  olet (IntKind.i64.wrap (x1 + a4)) fun (x2 : Int) =>
  obind (at? a2 x2) fun (e3 : F) =>
  some e3
theorem s_l02At_ok (a0 : Int) (a1 : Int) (a2 : List F) (a3 : Int) (a4 : Int) (q0 : F) (h : s_l02At a0 a1 a2 a3 a4 = some q0) : Ev Try.prog 43 [AV.ptr [AV.i64 a0, AV.i64 a1, AV.sl a2.length (a2.map AV.f32)], AV.i64 a3, AV.i64 a4] [] (AV.f32 q0) [] := by
  refine Ev.start Try.func43 rfl rfl 0 (τ := [(0, AV.ptr [AV.i64 a0, AV.i64 a1, AV.sl a2.length (a2.map AV.f32)]), (1, AV.i64 a3), (2, AV.i64 a4)]) rfl (Γ' := []) rfl (n := 43) rfl (g := 0) rfl (fun _ => rfl) ?_
  unfold s_l02At at h
  refine RunC.seq ?_
  refine RunC.regionW ?_
  refine ROps.l (r := AV.f32 (some 0)) rfl rfl rfl (LOp.le (LOp.assign rfl rfl) (ALe.fl (by kernel_rfl) (by kernel_rfl))) ?_
  refine ROps.nil ?_
  refine RunC.seq ?_
  obtain ⟨x1, hx1, h⟩ := olet_some h
  obtain ⟨x2, hx2, h⟩ := olet_some h
  obtain ⟨e3, he3, h⟩ := obind_some h
  refine RunC.region_draw (Γ' := []) 15 mixed 
    (TR.l (r := AV.ptr [AV.i64 a0, AV.i64 a1, AV.sl a2.length (a2.map AV.f32)]) rfl rfl (LOp.move rfl rfl) <|
    (TR.l (r := AV.ptr [AV.i64 a0, AV.i64 a1, AV.sl a2.length (a2.map AV.f32)]) rfl rfl (LOp.nilCheck_ptr rfl rfl) <|
    (TR.l (r := AV.ptr [AV.sl a2.length (a2.map AV.f32)]) rfl rfl (LOp.fap und27 rfl siz22 rfl rfl rfl) <|
    (TR.l (r := AV.sl a2.length (a2.map AV.f32)) rfl rfl (LOp.load1 agg22 rfl rfl) <|
    (TR.l (r := AV.i64 a3) rfl rfl (LOp.move rfl rfl) <|
    (TR.l (r := AV.ptr [AV.i64 a0, AV.i64 a1, AV.sl a2.length (a2.map AV.f32)]) rfl rfl (LOp.move rfl rfl) <|
    (TR.l (r := AV.ptr [AV.i64 a0, AV.i64 a1, AV.sl a2.length (a2.map AV.f32)]) rfl rfl (LOp.nilCheck_ptr rfl rfl) <|
    (TR.l (r := AV.ptr [AV.i64 a1, AV.sl a2.length (a2.map AV.f32)]) rfl rfl (LOp.fap und27 rfl siz2 rfl rfl rfl) <|
    (TR.l (r := AV.i64 a1) rfl rfl (LOp.load1 agg2 rfl rfl) <|
    (TR.l (r := AV.i64 x1) rfl rfl (LOp.eqr (LOp.mul rfl rfl rfl) (congrArg (AV.ik .i64) hx1)) <|
    (TR.l (r := AV.i64 a4) rfl rfl (LOp.move rfl rfl) <|
    (TR.l (r := AV.i64 x2) rfl rfl (LOp.eqr (LOp.add rfl rfl rfl) (congrArg (AV.ik .i64) hx2)) <|
    (TR.l (r := AV.ptr [AV.f32 e3]) rfl rfl (LOp.le (LOp.ix (f := AV.f32) und22 siz25 rfl rfl rfl rfl he3) ALe.ptr) <|
    (TR.l (r := AV.f32 e3) rfl rfl (LOp.load1 agg25 rfl rfl) <|
    (TR.l (r := AV.f32 e3) rfl rfl (LOp.assign rfl rfl) <|
    TR.nil))))))))))))))) rfl (by kernel_rfl) rfl fills_nil rfl ?_
  iterate 15 refine ROps.dropS ?_
  refine ROps.drop0 ?_
  refine ROps.nil ?_
  refine RunC.ret ?_
  have hq := Option.some.inj h
  subst q0
  exact bodyQ.pure (.inr rfl) rfl (Res.one rfl (RV.tmp rfl))
noncomputable def s_l02Mul_b2 (a0 : Int) (a1 : Int) (a2 : List F) (a3 : Int) (a4 : Int) (a5 : List F) (v7 : Int) (y9 : F) (v10 : Int) : Option (LR (F × Int) (F) (Int × Int × (List F))) :=
  bsel (decide (v10 < a1)) (
    need (!decide (a4 = 0)) <|
    olet (IntKind.i64.wrap (v7.tdiv a4)) fun (x11 : Int) =>
    obind (s_l02At a0 a1 a2 x11 v10) fun (r12 : F) =>
    need (!decide (a4 = 0)) <|
    olet (v7.tmod a4) fun (x13 : Int) =>
    obind (s_l02At a3 a4 a5 v10 x13) fun (r14 : F) =>
    olet (fop .mul .f32 r12 r14) fun (x15 : F) =>
    olet (fop .add .f32 y9 x15) fun (x16 : F) =>
    olet (IntKind.i64.wrap (v10 + 1)) fun (x17 : Int) =>
    some (LR.next (x16, x17))) (
    some (LR.out y9))
noncomputable def s_l02Mul_s2 (a0 : Int) (a1 : Int) (a2 : List F) (a3 : Int) (a4 : Int) (a5 : List F) (v7 : Int) : (F × Int) → Option (LR (F × Int) (F) (Int × Int × (List F))) := fun s => s_l02Mul_b2 a0 a1 a2 a3 a4 a5 v7 s.1 s.2
noncomputable def s_l02Mul_k2 (L6 : List F) (v7 : Int) (y18 : F) : Option (LR ((List F) × Int) ((List F)) (Int × Int × (List F))) :=
  need (apok 4 L6.length 1) <|
  olet (IntKind.i64.wrap (v7 + 1)) fun (x19 : Int) =>
  some (LR.next ((L6 ++ ([y18] : List F)), x19))
noncomputable def s_l02Mul_b3 (a0 : Int) (a1 : Int) (a2 : List F) (a3 : Int) (a4 : Int) (a5 : List F) (L6 : List F) (v7 : Int) : Option (LR ((List F) × Int) ((List F)) (Int × Int × (List F))) :=
  olet (IntKind.i64.wrap (a0 * a4)) fun (x8 : Int) =>
  bsel (decide (v7 < x8)) (
    obind (loopM (s_l02Mul_s2 a0 a1 a2 a3 a4 a5 v7) (some 0, 0)) fun z => osum z (fun e => s_l02Mul_k2 L6 v7 e) (fun r => some (LR.ret r))) (
    some (LR.out L6))
noncomputable def s_l02Mul_s3 (a0 : Int) (a1 : Int) (a2 : List F) (a3 : Int) (a4 : Int) (a5 : List F) : ((List F) × Int) → Option (LR ((List F) × Int) ((List F)) (Int × Int × (List F))) := fun s => s_l02Mul_b3 a0 a1 a2 a3 a4 a5 s.1 s.2
noncomputable def s_l02Mul_k3 (r1 : Int) (r2 : Int) (L22 : List F) : Option (Int × Int × (List F)) :=
  some (r1, r2, L22)
noncomputable def s_l02Mul (a0 : Int) (a1 : Int) (a2 : List F) (a3 : Int) (a4 : Int) (a5 : List F) : Option (Int × Int × (List F)) :=
  obind3 (s_l02Blank a0 a4) fun (r1 : Int) (r2 : Int) (r3 : List F) =>
  obind (loopM (s_l02Mul_s3 a0 a1 a2 a3 a4 a5) (r3, 0)) fun z => osum z (fun e => s_l02Mul_k3 r1 r2 e) (fun r => some r)
theorem s_l02Mul_ok (a0 : Int) (a1 : Int) (a2 : List F) (a3 : Int) (a4 : Int) (a5 : List F) (q0 : Int) (q1 : Int) (q2 : List F) (h : s_l02Mul a0 a1 a2 a3 a4 a5 = some (q0, q1, q2)) : Ev Try.prog 99 [AV.ptr [AV.i64 a0, AV.i64 a1, AV.sl a2.length (a2.map AV.f32)], AV.ptr [AV.i64 a3, AV.i64 a4, AV.sl a5.length (a5.map AV.f32)]] [] (AV.agg [AV.i64 q0, AV.i64 q1, AV.oref 0 0 0 q2.length]) [⟨0, some (q2.map AV.f32)⟩] := by
  refine Ev.start Try.func99 rfl rfl 4 (τ := [(0, AV.ptr [AV.i64 a0, AV.i64 a1, AV.sl a2.length (a2.map AV.f32)]), (1, AV.ptr [AV.i64 a3, AV.i64 a4, AV.sl a5.length (a5.map AV.f32)])]) rfl (Γ' := [⟨0, none⟩, ⟨0, none⟩, ⟨0, none⟩, ⟨0, none⟩]) rfl (n := 135) rfl (g := 0) rfl (fun _ => rfl) ?_
  unfold s_l02Mul at h
  refine RunC.seq ?_
  refine RunC.regionW ?_
  refine ROps.d (r := AV.optr 0 1 0) (fs := [(0, [AV.i64 0, AV.i64 0, AV.nilsl])]) (Γ' := [⟨1, some [AV.i64 0, AV.i64 0, AV.nilsl]⟩, ⟨0, none⟩, ⟨0, none⟩, ⟨0, none⟩]) rfl rfl rfl (TOp.alloc_o (g := ⟨0, none⟩) 0 rfl zer27 zok27 rfl) rfl ?_
  refine ROps.nil ?_
  refine RunC.seq ?_
  obtain ⟨r1, r2, r3, hf1, h⟩ := obind3_some h
  refine RunC.region_draw (Γ' := [⟨1, some [AV.i64 0, AV.i64 0, AV.nilsl]⟩, ⟨1, some (r3.map AV.f32)⟩, ⟨1, some [AV.i64 0, AV.i64 0, AV.nilsl]⟩, ⟨0, none⟩]) 10 mixed 
    (TR.l (r := AV.ptr [AV.i64 a0, AV.i64 a1, AV.sl a2.length (a2.map AV.f32)]) rfl rfl (LOp.move rfl rfl) <|
    (TR.l (r := AV.ptr [AV.i64 a0, AV.i64 a1, AV.sl a2.length (a2.map AV.f32)]) rfl rfl (LOp.nilCheck_ptr rfl rfl) <|
    (TR.l (r := AV.ptr [AV.i64 a0, AV.i64 a1, AV.sl a2.length (a2.map AV.f32)]) rfl rfl (LOp.fap und27 rfl siz2 rfl rfl rfl) <|
    (TR.l (r := AV.i64 a0) rfl rfl (LOp.load1 agg2 rfl rfl) <|
    (TR.l (r := AV.ptr [AV.i64 a3, AV.i64 a4, AV.sl a5.length (a5.map AV.f32)]) rfl rfl (LOp.move rfl rfl) <|
    (TR.l (r := AV.ptr [AV.i64 a3, AV.i64 a4, AV.sl a5.length (a5.map AV.f32)]) rfl rfl (LOp.nilCheck_ptr rfl rfl) <|
    (TR.l (r := AV.ptr [AV.i64 a4, AV.sl a5.length (a5.map AV.f32)]) rfl rfl (LOp.fap und27 rfl siz2 rfl rfl rfl) <|
    (TR.l (r := AV.i64 a4) rfl rfl (LOp.load1 agg2 rfl rfl) <|
    (TR.d (r := AV.agg [AV.i64 r1, AV.i64 r2, AV.oref 1 1 0 r3.length]) (fs := [(1, (r3.map AV.f32))]) rfl rfl (TOp.callBN (ls := [(r3.map AV.f32)]) [1] (CallAs.func ent120 rfl rfl) (Bors.cons (Bor.pure rfl) (Bors.cons (Bor.pure rfl) Bors.nil)) rfl (s_l02Blank_ok a0 a4 r1 r2 r3 hf1) (and_all (lts0_map (f := AV.f32) (fun _ => rfl) _) rfl) (and_all (noss_map (f := AV.f32) (fun _ => rfl) _) rfl) rfl (by decide) (ns_of ⟨⟨_, rfl⟩, trivial⟩)) <|
    (TR.d (r := AV.optr 2 1 0) (fs := [(2, [AV.i64 0, AV.i64 0, AV.nilsl])]) rfl rfl (TOp.alloc_o (g := ⟨0, none⟩) 2 rfl zer27 zok27 rfl) <|
    TR.nil)))))))))) rfl (by kernel_rfl) rfl (fills_of (by show List.Nodup [1, 2]; decide) ⟨⟨_, rfl⟩, ⟨_, rfl⟩, trivial⟩) rfl ?_
  iterate 10 refine ROps.dropS ?_
  refine ROps.drop0 ?_
  refine ROps.store_le (r := AV.agg [AV.i64 r1, AV.i64 r2, AV.oref 1 1 0 r3.length]) (l' := [AV.i64 r1, AV.i64 r2, AV.oref 1 1 0 r3.length]) (Γ' := [⟨1, some [AV.i64 0, AV.i64 0, AV.nilsl]⟩, ⟨1, some (r3.map AV.f32)⟩, ⟨1, some [AV.i64 r1, AV.i64 r2, AV.oref 1 1 0 r3.length]⟩, ⟨0, none⟩]) rfl siz27 rfl rfl rfl (ALe.refl _) rfl rfl rfl rfl (Nat.le_of_ble_eq_true rfl) rfl rfl ?_
  refine ROps.nil ?_
  refine RunC.seq ?_
  refine RunC.seq ?_
  refine RunC.regionW ?_
  refine ROps.l (r := AV.i64 0) rfl rfl rfl (LOp.assign rfl rfl) ?_
  refine ROps.nil ?_
  obtain ⟨z4, hz_4, h⟩ := obind_some h
  refine RunC.cutN (fun τ Γ => ∃ (L22 : List F) (u20 : Nat) (u21 : Nat), WeakLe τ [(4, AV.optr 0 1 0), (5, AV.optr 2 1 0)] ∧ DeadLe Γ [⟨1, some [AV.i64 0, AV.i64 0, AV.nilsl]⟩, ⟨u20, some (L22.map AV.f32)⟩, ⟨1, some [AV.i64 r1, AV.i64 r2, AV.oref 1 u20 0 L22.length]⟩, ⟨u21, none⟩] ∧ z4 = .inl L22) ?_ ?_
  · refine RunC.block (RunC.loop (RunL.loopM (x := z4) (s_l02Mul_s3 a0 a1 a2 a3 a4 a5) (fun (s : (List F) × Int) τ Γ => ∃ (u4 : Nat) (u5 : Nat), WeakLe τ [(0, AV.ptr [AV.i64 a0, AV.i64 a1, AV.sl a2.length (a2.map AV.f32)]), (1, AV.ptr [AV.i64 a3, AV.i64 a4, AV.sl a5.length (a5.map AV.f32)]), (4, AV.optr 0 1 0), (5, AV.optr 2 1 0), (6, AV.i64 s.2)] ∧ DeadLe Γ [⟨1, some [AV.i64 0, AV.i64 0, AV.nilsl]⟩, ⟨u4, some (s.1.map AV.f32)⟩, ⟨1, some [AV.i64 r1, AV.i64 r2, AV.oref 1 u4 0 s.1.length]⟩, ⟨u5, none⟩]) ?_ _ _ _ hz_4 ⟨1, 0, ⟨(ALe.refl _), (ALe.refl _), (ALe.refl _), (ALe.refl _), (ALe.refl _), trivial⟩, ⟨⟨rfl, .inr rfl⟩, ⟨rfl, .inr rfl⟩, ⟨rfl, .inr (by first | rfl | simp)⟩, ⟨rfl, .inl rfl⟩, trivial⟩⟩))
    rintro ⟨L6, v7⟩ τ4 Γ4 y4_ ⟨u4, u5, hw4, hd4⟩ h4_ ho4 hr4
    refine RunC.wl (τ' := [(0, AV.ptr [AV.i64 a0, AV.i64 a1, AV.sl a2.length (a2.map AV.f32)]), (1, AV.ptr [AV.i64 a3, AV.i64 a4, AV.sl a5.length (a5.map AV.f32)]), (4, AV.optr 0 1 0), (5, AV.optr 2 1 0), (6, AV.i64 v7)]) (Γ' := [⟨1, some [AV.i64 0, AV.i64 0, AV.nilsl]⟩, ⟨u4, some (L6.map AV.f32)⟩, ⟨1, some [AV.i64 r1, AV.i64 r2, AV.oref 1 u4 0 L6.length]⟩, ⟨u5, none⟩]) hw4 hd4 ?_
    replace h4_ : s_l02Mul_b3 a0 a1 a2 a3 a4 a5 L6 v7 = some y4_ := h4_
    unfold s_l02Mul_b3 at h4_
    refine RunC.seq ?_
    refine RunC.seq ?_
    obtain ⟨x8, hx2, h4_⟩ := olet_some h4_
    rcases bsel_some h4_ with ⟨hc3, h4_⟩ | ⟨hc3, h4_⟩
    · refine RunC.region_draw (Γ' := [⟨1, some [AV.i64 0, AV.i64 0, AV.nilsl]⟩, ⟨u4, some (L6.map AV.f32)⟩, ⟨1, some [AV.i64 r1, AV.i64 r2, AV.oref 1 u4 0 L6.length]⟩, ⟨u5, none⟩]) 11 mixed 
        (TR.l (r := AV.i64 v7) rfl rfl (LOp.move rfl rfl) <|
        (TR.l (r := AV.ptr [AV.i64 a0, AV.i64 a1, AV.sl a2.length (a2.map AV.f32)]) rfl rfl (LOp.move rfl rfl) <|
        (TR.l (r := AV.ptr [AV.i64 a0, AV.i64 a1, AV.sl a2.length (a2.map AV.f32)]) rfl rfl (LOp.nilCheck_ptr rfl rfl) <|
        (TR.l (r := AV.ptr [AV.i64 a0, AV.i64 a1, AV.sl a2.length (a2.map AV.f32)]) rfl rfl (LOp.fap und27 rfl siz2 rfl rfl rfl) <|
        (TR.l (r := AV.i64 a0) rfl rfl (LOp.load1 agg2 rfl rfl) <|
        (TR.l (r := AV.ptr [AV.i64 a3, AV.i64 a4, AV.sl a5.length (a5.map AV.f32)]) rfl rfl (LOp.move rfl rfl) <|
        (TR.l (r := AV.ptr [AV.i64 a3, AV.i64 a4, AV.sl a5.length (a5.map AV.f32)]) rfl rfl (LOp.nilCheck_ptr rfl rfl) <|
        (TR.l (r := AV.ptr [AV.i64 a4, AV.sl a5.length (a5.map AV.f32)]) rfl rfl (LOp.fap und27 rfl siz2 rfl rfl rfl) <|
        (TR.l (r := AV.i64 a4) rfl rfl (LOp.load1 agg2 rfl rfl) <|
        (TR.l (r := AV.i64 x8) rfl rfl (LOp.eqr (LOp.mul rfl rfl rfl) (congrArg (AV.ik .i64) hx2)) <|
        (TR.l (r := AV.b true) rfl rfl (LOp.eqb (LOp.lss rfl rfl rfl) hc3) <|
        TR.nil))))))))))) rfl (by kernel_rfl) rfl fills_nil rfl ?_
      iterate 11 refine ROps.dropS ?_
      refine ROps.drop0 ?_
      refine ROps.nil ?_
      refine RunC.cond_true rfl rfl ?_
      refine RunC.skip ?_
      refine RunC.seq ?_
      refine RunC.block ?_
      refine RunC.seq ?_
      refine RunC.regionW ?_
      refine ROps.l (r := AV.f32 (some 0)) rfl rfl rfl (LOp.le (LOp.assign rfl rfl) (ALe.fl (by kernel_rfl) (by kernel_rfl))) ?_
      refine ROps.nil ?_
      refine RunC.seq ?_
      refine RunC.seq ?_
      refine RunC.regionW ?_
      refine ROps.l (r := AV.i64 0) rfl rfl rfl (LOp.assign rfl rfl) ?_
      refine ROps.nil ?_
      obtain ⟨z5, hz_5, h4_⟩ := obind_some h4_
      refine RunC.cutN (fun τ Γ => ∃ (y18 : F), WeakLe τ [(0, AV.ptr [AV.i64 a0, AV.i64 a1, AV.sl a2.length (a2.map AV.f32)]), (1, AV.ptr [AV.i64 a3, AV.i64 a4, AV.sl a5.length (a5.map AV.f32)]), (4, AV.optr 0 1 0), (5, AV.optr 2 1 0), (6, AV.i64 v7), (7, AV.f32 y18)] ∧ DeadLe Γ [⟨1, some [AV.i64 0, AV.i64 0, AV.nilsl]⟩, ⟨u4, some (L6.map AV.f32)⟩, ⟨1, some [AV.i64 r1, AV.i64 r2, AV.oref 1 u4 0 L6.length]⟩, ⟨u5, none⟩] ∧ z5 = .inl y18) ?_ ?_
      · refine RunC.block (RunC.loop (RunL.loopM (x := z5) (s_l02Mul_s2 a0 a1 a2 a3 a4 a5 v7) (fun (s : F × Int) τ Γ => WeakLe τ [(0, AV.ptr [AV.i64 a0, AV.i64 a1, AV.sl a2.length (a2.map AV.f32)]), (1, AV.ptr [AV.i64 a3, AV.i64 a4, AV.sl a5.length (a5.map AV.f32)]), (4, AV.optr 0 1 0), (5, AV.optr 2 1 0), (6, AV.i64 v7), (7, AV.f32 s.1), (8, AV.i64 s.2)] ∧ DeadLe Γ [⟨1, some [AV.i64 0, AV.i64 0, AV.nilsl]⟩, ⟨u4, some (L6.map AV.f32)⟩, ⟨1, some [AV.i64 r1, AV.i64 r2, AV.oref 1 u4 0 L6.length]⟩, ⟨u5, none⟩]) ?_ _ _ _ hz_5 ⟨⟨(ALe.refl _), (ALe.refl _), (ALe.refl _), (ALe.refl _), (ALe.refl _), (ALe.refl _), (ALe.refl _), trivial⟩, ⟨⟨rfl, .inr rfl⟩, ⟨rfl, .inr rfl⟩, ⟨rfl, .inr rfl⟩, ⟨rfl, .inl rfl⟩, trivial⟩⟩))
        rintro ⟨y9, v10⟩ τ5 Γ5 y5_ ⟨hw5, hd5⟩ h5_ ho5 hr5
        refine RunC.wl (τ' := [(0, AV.ptr [AV.i64 a0, AV.i64 a1, AV.sl a2.length (a2.map AV.f32)]), (1, AV.ptr [AV.i64 a3, AV.i64 a4, AV.sl a5.length (a5.map AV.f32)]), (4, AV.optr 0 1 0), (5, AV.optr 2 1 0), (6, AV.i64 v7), (7, AV.f32 y9), (8, AV.i64 v10)]) (Γ' := [⟨1, some [AV.i64 0, AV.i64 0, AV.nilsl]⟩, ⟨u4, some (L6.map AV.f32)⟩, ⟨1, some [AV.i64 r1, AV.i64 r2, AV.oref 1 u4 0 L6.length]⟩, ⟨u5, none⟩]) hw5 hd5 ?_
        replace h5_ : s_l02Mul_b2 a0 a1 a2 a3 a4 a5 v7 y9 v10 = some y5_ := h5_
        unfold s_l02Mul_b2 at h5_
        refine RunC.seq ?_
        refine RunC.seq ?_
        rcases bsel_some h5_ with ⟨hc4, h5_⟩ | ⟨hc4, h5_⟩
        · refine RunC.regionW ?_
          refine ROps.l (r := AV.i64 v10) rfl rfl rfl (LOp.move rfl rfl) ?_
          refine ROps.l (r := AV.ptr [AV.i64 a0, AV.i64 a1, AV.sl a2.length (a2.map AV.f32)]) rfl rfl rfl (LOp.move rfl rfl) ?_
          refine ROps.l (r := AV.ptr [AV.i64 a0, AV.i64 a1, AV.sl a2.length (a2.map AV.f32)]) rfl rfl rfl (LOp.nilCheck_ptr rfl rfl) ?_
          refine ROps.l (r := AV.ptr [AV.i64 a1, AV.sl a2.length (a2.map AV.f32)]) rfl rfl rfl (LOp.fap und27 rfl siz2 rfl rfl rfl) ?_
          refine ROps.l (r := AV.i64 a1) rfl rfl rfl (LOp.load1 agg2 rfl rfl) ?_
          refine ROps.l (r := AV.b true) rfl rfl rfl (LOp.eqb (LOp.lss rfl rfl rfl) hc4) ?_
          refine ROps.nil ?_
          refine RunC.cond_true rfl rfl ?_
          refine RunC.skip ?_
          refine RunC.seq ?_
          refine RunC.block ?_
          obtain ⟨hz5, h5_⟩ := need_some h5_
          obtain ⟨x11, hx6, h5_⟩ := olet_some h5_
          obtain ⟨r12, hf7, h5_⟩ := obind_some h5_
          obtain ⟨hz8, h5_⟩ := need_some h5_
          obtain ⟨x13, hx9, h5_⟩ := olet_some h5_
          obtain ⟨r14, hf10, h5_⟩ := obind_some h5_
          obtain ⟨x15, hx11, h5_⟩ := olet_some h5_
          obtain ⟨x16, hx12, h5_⟩ := olet_some h5_
          refine RunC.region_draw (Γ' := [⟨1, some [AV.i64 0, AV.i64 0, AV.nilsl]⟩, ⟨u4, some (L6.map AV.f32)⟩, ⟨1, some [AV.i64 r1, AV.i64 r2, AV.oref 1 u4 0 L6.length]⟩, ⟨u5, none⟩]) 22 mixed 
            (TR.l (r := AV.f32 y9) rfl rfl (LOp.move rfl rfl) <|
            (TR.l (r := AV.ptr [AV.i64 a0, AV.i64 a1, AV.sl a2.length (a2.map AV.f32)]) rfl rfl (LOp.move rfl rfl) <|
            (TR.l (r := AV.i64 v7) rfl rfl (LOp.move rfl rfl) <|
            (TR.l (r := AV.ptr [AV.i64 a3, AV.i64 a4, AV.sl a5.length (a5.map AV.f32)]) rfl rfl (LOp.move rfl rfl) <|
            (TR.l (r := AV.ptr [AV.i64 a3, AV.i64 a4, AV.sl a5.length (a5.map AV.f32)]) rfl rfl (LOp.nilCheck_ptr rfl rfl) <|
            (TR.l (r := AV.ptr [AV.i64 a4, AV.sl a5.length (a5.map AV.f32)]) rfl rfl (LOp.fap und27 rfl siz2 rfl rfl rfl) <|
            (TR.l (r := AV.i64 a4) rfl rfl (LOp.load1 agg2 rfl rfl) <|
            (TR.l (r := AV.i64 x11) rfl rfl (LOp.eqr (LOp.quo rfl rfl rfl (nz hz5)) (congrArg (AV.ik .i64) hx6)) <|
            (TR.l (r := AV.i64 v10) rfl rfl (LOp.move rfl rfl) <|
            (TR.d (r := AV.f32 r12) (fs := []) rfl rfl (TOp.callB (CallAs.func ent43 rfl rfl) (Bors.cons (Bor.ptr (Bors.cons (Bor.pure rfl) (Bors.cons (Bor.pure rfl) (Bors.cons (Bor.sl (fun _ => rfl)) Bors.nil)))) (Bors.cons (Bor.pure rfl) (Bors.cons (Bor.pure rfl) Bors.nil))) rfl rfl (s_l02At_ok a0 a1 a2 x11 v10 r12 hf7)) <|
            (TR.l (r := AV.ptr [AV.i64 a3, AV.i64 a4, AV.sl a5.length (a5.map AV.f32)]) rfl rfl (LOp.move rfl rfl) <|
            (TR.l (r := AV.i64 v10) rfl rfl (LOp.move rfl rfl) <|
            (TR.l (r := AV.i64 v7) rfl rfl (LOp.move rfl rfl) <|
            (TR.l (r := AV.ptr [AV.i64 a3, AV.i64 a4, AV.sl a5.length (a5.map AV.f32)]) rfl rfl (LOp.move rfl rfl) <|
            (TR.l (r := AV.ptr [AV.i64 a3, AV.i64 a4, AV.sl a5.length (a5.map AV.f32)]) rfl rfl (LOp.nilCheck_ptr rfl rfl) <|
            (TR.l (r := AV.ptr [AV.i64 a4, AV.sl a5.length (a5.map AV.f32)]) rfl rfl (LOp.fap und27 rfl siz2 rfl rfl rfl) <|
            (TR.l (r := AV.i64 a4) rfl rfl (LOp.load1 agg2 rfl rfl) <|
            (TR.l (r := AV.i64 x13) rfl rfl (LOp.eqr (LOp.rem rfl rfl rfl (nz hz8)) (congrArg (AV.ik .i64) hx9)) <|
            (TR.d (r := AV.f32 r14) (fs := []) rfl rfl (TOp.callB (CallAs.func ent43 rfl rfl) (Bors.cons (Bor.ptr (Bors.cons (Bor.pure rfl) (Bors.cons (Bor.pure rfl) (Bors.cons (Bor.sl (fun _ => rfl)) Bors.nil)))) (Bors.cons (Bor.pure rfl) (Bors.cons (Bor.pure rfl) Bors.nil))) rfl rfl (s_l02At_ok a3 a4 a5 v10 x13 r14 hf10)) <|
            (TR.d (r := AV.f32 x15) (fs := []) rfl rfl (TOp.eqr (TOp.fop (.inr (.inr (.inl rfl))) rfl (OpF.tmp rfl) (OpF.tmp rfl)) (congrArg (AV.f .f32) hx11)) <|
            (TR.d (r := AV.f32 x16) (fs := []) rfl rfl (TOp.eqr (TOp.fop (.inl rfl) rfl (OpF.tmp rfl) (OpF.tmp rfl)) (congrArg (AV.f .f32) hx12)) <|
            (TR.l (r := AV.f32 x16) rfl rfl (LOp.assign rfl rfl) <|
            TR.nil)))))))))))))))))))))) rfl (by kernel_rfl) rfl fills_nil rfl ?_
          iterate 22 refine ROps.dropS ?_
          refine ROps.drop0 ?_
          refine ROps.nil ?_
          refine RunC.wl (τ' := [(0, AV.ptr [AV.i64 a0, AV.i64 a1, AV.sl a2.length (a2.map AV.f32)]), (1, AV.ptr [AV.i64 a3, AV.i64 a4, AV.sl a5.length (a5.map AV.f32)]), (4, AV.optr 0 1 0), (5, AV.optr 2 1 0), (6, AV.i64 v7), (7, AV.f32 x16), (8, AV.i64 v10)]) (Γ' := [⟨1, some [AV.i64 0, AV.i64 0, AV.nilsl]⟩, ⟨u4, some (L6.map AV.f32)⟩, ⟨1, some [AV.i64 r1, AV.i64 r2, AV.oref 1 u4 0 L6.length]⟩, ⟨u5, none⟩]) ⟨(ALe.refl _), (ALe.refl _), (ALe.refl _), (ALe.refl _), (ALe.refl _), (ALe.refl _), (ALe.refl _), trivial⟩ ⟨⟨rfl, .inr rfl⟩, ⟨rfl, .inr rfl⟩, ⟨rfl, .inr rfl⟩, ⟨rfl, .inl rfl⟩, trivial⟩ ?_
          obtain ⟨x17, hx13, h5_⟩ := olet_some h5_
          refine RunC.regionW ?_
          refine ROps.l (r := AV.i64 v10) rfl rfl rfl (LOp.move rfl rfl) ?_
          refine ROps.l (r := AV.i64 x17) rfl rfl rfl (LOp.eqr (LOp.add rfl rfl rfl) (congrArg (AV.ik .i64) hx13)) ?_
          refine ROps.l (r := AV.i64 x17) rfl rfl rfl (LOp.assign rfl rfl) ?_
          refine ROps.nil ?_
          cases Option.some.inj h5_
          exact ⟨_, rfl, ⟨(ALe.refl _), (ALe.refl _), (ALe.refl _), (ALe.refl _), (ALe.refl _), (ALe.refl _), (ALe.refl _), trivial⟩, ⟨⟨rfl, .inr rfl⟩, ⟨rfl, .inr rfl⟩, ⟨rfl, .inr rfl⟩, ⟨rfl, .inl rfl⟩, trivial⟩⟩
        · refine RunC.regionW ?_
          refine ROps.l (r := AV.i64 v10) rfl rfl rfl (LOp.move rfl rfl) ?_
          refine ROps.l (r := AV.ptr [AV.i64 a0, AV.i64 a1, AV.sl a2.length (a2.map AV.f32)]) rfl rfl rfl (LOp.move rfl rfl) ?_
          refine ROps.l (r := AV.ptr [AV.i64 a0, AV.i64 a1, AV.sl a2.length (a2.map AV.f32)]) rfl rfl rfl (LOp.nilCheck_ptr rfl rfl) ?_
          refine ROps.l (r := AV.ptr [AV.i64 a1, AV.sl a2.length (a2.map AV.f32)]) rfl rfl rfl (LOp.fap und27 rfl siz2 rfl rfl rfl) ?_
          refine ROps.l (r := AV.i64 a1) rfl rfl rfl (LOp.load1 agg2 rfl rfl) ?_
          refine ROps.l (r := AV.b false) rfl rfl rfl (LOp.eqb (LOp.lss rfl rfl rfl) hc4) ?_
          refine ROps.nil ?_
          refine RunC.cond_false rfl rfl ?_
          refine RunC.exit ?_
          cases Option.some.inj h5_
          have hx := ho5 _ rfl
          exact ⟨y9, ⟨(ALe.refl _), (ALe.refl _), (ALe.refl _), (ALe.refl _), (ALe.refl _), (ALe.refl _), trivial⟩, ⟨⟨rfl, .inr rfl⟩, ⟨rfl, .inr rfl⟩, ⟨rfl, .inr rfl⟩, ⟨rfl, .inl rfl⟩, trivial⟩, hx⟩
      · rintro τ6 Γ6 ⟨y18, hw6, hd6, rfl⟩
        refine RunC.wl (τ' := [(0, AV.ptr [AV.i64 a0, AV.i64 a1, AV.sl a2.length (a2.map AV.f32)]), (1, AV.ptr [AV.i64 a3, AV.i64 a4, AV.sl a5.length (a5.map AV.f32)]), (4, AV.optr 0 1 0), (5, AV.optr 2 1 0), (6, AV.i64 v7), (7, AV.f32 y18)]) (Γ' := [⟨1, some [AV.i64 0, AV.i64 0, AV.nilsl]⟩, ⟨u4, some (L6.map AV.f32)⟩, ⟨1, some [AV.i64 r1, AV.i64 r2, AV.oref 1 u4 0 L6.length]⟩, ⟨u5, none⟩]) hw6 hd6 ?_
        replace h4_ : s_l02Mul_k2 L6 v7 y18 = some y4_ := h4_
        unfold s_l02Mul_k2 at h4_
        obtain ⟨hm14, h4_⟩ := need_some h4_
        refine RunC.regionW ?_
        refine ROps.l (r := AV.optr 2 1 2) rfl rfl rfl (LOp.fao und27 rfl siz22 rfl rfl rfl) ?_
        refine ROps.d (r := AV.oref 1 u4 0 L6.length) (fs := []) (Γ' := [⟨1, some [AV.i64 0, AV.i64 0, AV.nilsl]⟩, ⟨u4, some (L6.map AV.f32)⟩, ⟨1, some [AV.i64 r1, AV.i64 r2, AV.oref 1 u4 0 L6.length]⟩, ⟨u5, none⟩]) rfl rfl rfl (TOp.load1_o rfl rfl agg22 rfl rfl) rfl ?_
        refine ROps.l (r := AV.f32 y18) rfl rfl rfl (LOp.move rfl rfl) ?_
        refine ROps.d (r := AV.oref 3 (u5 + 1) 0 1) (fs := [(3, (([y18] : List F).map AV.f32))]) (Γ' := [⟨1, some [AV.i64 0, AV.i64 0, AV.nilsl]⟩, ⟨u4, some (L6.map AV.f32)⟩, ⟨1, some [AV.i64 r1, AV.i64 r2, AV.oref 1 u4 0 L6.length]⟩, ⟨(u5 + 1), some (([y18] : List F).map AV.f32)⟩]) rfl rfl rfl (TOp.buildSlice_o (g := ⟨u5, none⟩) (za := AV.f32 (some 0)) (qs := [(0, [AV.f32 y18])]) 3 rfl und22 siz25 zer25 rfl zel25 rfl rfl ⟨rfl, ⟨_, ALe.refl _, rfl⟩, trivial⟩ rfl) rfl ?_
        refine ROps.app (f := AV.f32) (xs := L6) (ys := ([y18] : List F)) (Γ' := [⟨1, some [AV.i64 0, AV.i64 0, AV.nilsl]⟩, ⟨(u4 + 1), some ((L6 ++ ([y18] : List F)).map AV.f32)⟩, ⟨1, some [AV.i64 r1, AV.i64 r2, AV.oref 1 u4 0 L6.length]⟩, ⟨(u5 + 1), some (([y18] : List F).map AV.f32)⟩]) rfl pun22 inf25 rfl rfl rfl rfl rfl rfl rfl rfl rfl (by simp) (ReadAs.own rfl (by simp)) (ones_map (fun _ => rfl)) (ap_by hm14) (ap_mx hm14) rfl ?_
        refine ROps.l (r := AV.optr 2 1 2) rfl rfl rfl (LOp.fao und27 rfl siz22 rfl rfl rfl) ?_
        refine ROps.store_le (r := AV.oref 1 (u4 + 1) 0 (L6.length + 1)) (l' := [AV.i64 r1, AV.i64 r2, AV.oref 1 (u4 + 1) 0 (L6.length + 1)]) (Γ' := [⟨1, some [AV.i64 0, AV.i64 0, AV.nilsl]⟩, ⟨(u4 + 1), some ((L6 ++ ([y18] : List F)).map AV.f32)⟩, ⟨1, some [AV.i64 r1, AV.i64 r2, AV.oref 1 (u4 + 1) 0 (L6.length + 1)]⟩, ⟨(u5 + 1), some (([y18] : List F).map AV.f32)⟩]) rfl siz22 rfl rfl rfl (ALe.refl _) rfl rfl rfl rfl (Nat.le_of_ble_eq_true rfl) rfl rfl ?_
        refine ROps.nil ?_
        refine RunC.wl (τ' := [(0, AV.ptr [AV.i64 a0, AV.i64 a1, AV.sl a2.length (a2.map AV.f32)]), (1, AV.ptr [AV.i64 a3, AV.i64 a4, AV.sl a5.length (a5.map AV.f32)]), (4, AV.optr 0 1 0), (5, AV.optr 2 1 0), (6, AV.i64 v7)]) (Γ' := [⟨1, some [AV.i64 0, AV.i64 0, AV.nilsl]⟩, ⟨(u4 + 1), some ((L6 ++ ([y18] : List F)).map AV.f32)⟩, ⟨1, some [AV.i64 r1, AV.i64 r2, AV.oref 1 (u4 + 1) 0 (L6.length + 1)]⟩, ⟨(u5 + 1), none⟩]) ⟨(ALe.refl _), (ALe.refl _), (ALe.refl _), (ALe.refl _), (ALe.refl _), trivial⟩ ⟨⟨rfl, .inr rfl⟩, ⟨rfl, .inr rfl⟩, ⟨rfl, .inr rfl⟩, ⟨rfl, .inl rfl⟩, trivial⟩ ?_
        obtain ⟨x19, hx15, h4_⟩ := olet_some h4_
        refine RunC.regionW ?_
        refine ROps.l (r := AV.i64 v7) rfl rfl rfl (LOp.move rfl rfl) ?_
        refine ROps.l (r := AV.i64 x19) rfl rfl rfl (LOp.eqr (LOp.add rfl rfl rfl) (congrArg (AV.ik .i64) hx15)) ?_
        refine ROps.l (r := AV.i64 x19) rfl rfl rfl (LOp.assign rfl rfl) ?_
        refine ROps.nil ?_
        cases Option.some.inj h4_
        exact ⟨_, rfl, (u4 + 1), (u5 + 1), ⟨(ALe.refl _), (ALe.refl _), (ALe.refl _), (ALe.refl _), (ALe.refl _), trivial⟩, ⟨⟨rfl, .inr rfl⟩, ⟨rfl, .inr rfl⟩, ⟨rfl, .inr (by first | rfl | simp)⟩, ⟨rfl, .inl rfl⟩, trivial⟩⟩
    · refine RunC.region_draw (Γ' := [⟨1, some [AV.i64 0, AV.i64 0, AV.nilsl]⟩, ⟨u4, some (L6.map AV.f32)⟩, ⟨1, some [AV.i64 r1, AV.i64 r2, AV.oref 1 u4 0 L6.length]⟩, ⟨u5, none⟩]) 11 mixed 
        (TR.l (r := AV.i64 v7) rfl rfl (LOp.move rfl rfl) <|
        (TR.l (r := AV.ptr [AV.i64 a0, AV.i64 a1, AV.sl a2.length (a2.map AV.f32)]) rfl rfl (LOp.move rfl rfl) <|
        (TR.l (r := AV.ptr [AV.i64 a0, AV.i64 a1, AV.sl a2.length (a2.map AV.f32)]) rfl rfl (LOp.nilCheck_ptr rfl rfl) <|
        (TR.l (r := AV.ptr [AV.i64 a0, AV.i64 a1, AV.sl a2.length (a2.map AV.f32)]) rfl rfl (LOp.fap und27 rfl siz2 rfl rfl rfl) <|
        (TR.l (r := AV.i64 a0) rfl rfl (LOp.load1 agg2 rfl rfl) <|
        (TR.l (r := AV.ptr [AV.i64 a3, AV.i64 a4, AV.sl a5.length (a5.map AV.f32)]) rfl rfl (LOp.move rfl rfl) <|
        (TR.l (r := AV.ptr [AV.i64 a3, AV.i64 a4, AV.sl a5.length (a5.map AV.f32)]) rfl rfl (LOp.nilCheck_ptr rfl rfl) <|
        (TR.l (r := AV.ptr [AV.i64 a4, AV.sl a5.length (a5.map AV.f32)]) rfl rfl (LOp.fap und27 rfl siz2 rfl rfl rfl) <|
        (TR.l (r := AV.i64 a4) rfl rfl (LOp.load1 agg2 rfl rfl) <|
        (TR.l (r := AV.i64 x8) rfl rfl (LOp.eqr (LOp.mul rfl rfl rfl) (congrArg (AV.ik .i64) hx2)) <|
        (TR.l (r := AV.b false) rfl rfl (LOp.eqb (LOp.lss rfl rfl rfl) hc3) <|
        TR.nil))))))))))) rfl (by kernel_rfl) rfl fills_nil rfl ?_
      iterate 11 refine ROps.dropS ?_
      refine ROps.drop0 ?_
      refine ROps.nil ?_
      refine RunC.cond_false rfl rfl ?_
      refine RunC.exit ?_
      cases Option.some.inj h4_
      have hx := ho4 _ rfl
      exact ⟨L6, u4, u5, ⟨(ALe.refl _), (ALe.refl _), trivial⟩, ⟨⟨rfl, .inr rfl⟩, ⟨rfl, .inr rfl⟩, ⟨rfl, .inr (by first | rfl | simp)⟩, ⟨rfl, .inl rfl⟩, trivial⟩, hx⟩
  · rintro τ7 Γ7 ⟨L22, u20, u21, hw7, hd7, rfl⟩
    refine RunC.wl (τ' := [(4, AV.optr 0 1 0), (5, AV.optr 2 1 0)]) (Γ' := [⟨1, some [AV.i64 0, AV.i64 0, AV.nilsl]⟩, ⟨u20, some (L22.map AV.f32)⟩, ⟨1, some [AV.i64 r1, AV.i64 r2, AV.oref 1 u20 0 L22.length]⟩, ⟨u21, none⟩]) hw7 hd7 ?_
    replace h : s_l02Mul_k3 r1 r2 L22 = some (q0, q1, q2) := h
    unfold s_l02Mul_k3 at h
    refine RunC.seq ?_
    refine RunC.regionW ?_
    refine ROps.d (r := AV.agg [AV.i64 r1, AV.i64 r2, AV.oref 1 u20 0 L22.length]) (fs := []) (Γ' := [⟨1, some [AV.i64 0, AV.i64 0, AV.nilsl]⟩, ⟨u20, some (L22.map AV.f32)⟩, ⟨1, some [AV.i64 r1, AV.i64 r2, AV.oref 1 u20 0 L22.length]⟩, ⟨u21, none⟩]) rfl rfl rfl (TOp.loadAgg_o rfl agg27 siz27 rfl rfl rfl rfl) rfl ?_
    refine ROps.store_le (r := AV.agg [AV.i64 r1, AV.i64 r2, AV.oref 1 u20 0 L22.length]) (l' := [AV.i64 r1, AV.i64 r2, AV.oref 1 u20 0 L22.length]) (Γ' := [⟨1, some [AV.i64 r1, AV.i64 r2, AV.oref 1 u20 0 L22.length]⟩, ⟨u20, some (L22.map AV.f32)⟩, ⟨1, some [AV.i64 r1, AV.i64 r2, AV.oref 1 u20 0 L22.length]⟩, ⟨u21, none⟩]) rfl siz27 rfl rfl rfl (ALe.refl _) rfl rfl rfl rfl (Nat.le_of_ble_eq_true rfl) rfl rfl ?_
    refine ROps.nil ?_
    refine RunC.ret ?_
    have hq := Option.some.inj h
    obtain ⟨hq0, hq⟩ := Prod.mk.inj hq
    obtain ⟨hq1, hq⟩ := Prod.mk.inj hq
    subst q0
    subst q1
    subst q2
    exact bodyQ.mk (r' := AV.agg [AV.i64 r1, AV.i64 r2, AV.oref 1 u20 0 L22.length]) [(1, u20)] (.inr rfl) rfl (show List.Nodup [1] from by decide) (by simp [AV.ren, AV.rens, sigma]) rfl (Res.one rfl (RV.cell agg27 siz27 rfl rfl rfl rfl)) (SelL.arr0 (f := AV.f32) (fun _ => rfl) rfl trivial)
noncomputable def s_l02Give_02o (a0 : Int) (a1 : Int) (a2 : List F) : Option ((Int × Int × Bool × (List F)) ⊕ (Int × Int × Bool × (List F) × (List F))) :=
  obind (s_l02Is a0 a1 a2) fun (r1 : Bool) =>
  bsel r1 (
    some (Sum.inl (a0, a1, true, a2))) (
    some (Sum.inr (0, 0, false, a2, ([] : List F))))
theorem s_l02Give_02o_ok0 (a0 : Int) (a1 : Int) (a2 : List F) (q0 : Int) (q1 : Int) (q2 : Bool) (q3 : List F) (h : s_l02Give_02o a0 a1 a2 = some (Sum.inl (q0, q1, q2, q3))) : Ev Try.prog 95 [AV.agg [AV.i64 a0, AV.i64 a1, AV.oref 0 0 0 a2.length]] [⟨0, some (a2.map AV.f32)⟩] (AV.tup [AV.agg [AV.i64 q0, AV.i64 q1, AV.oref 0 0 0 q3.length], AV.b q2]) [⟨0, some (q3.map AV.f32)⟩] := by
  refine Ev.start Try.func95 rfl rfl 2 (τ := [(0, AV.agg [AV.i64 a0, AV.i64 a1, AV.oref 0 0 0 a2.length])]) rfl (Γ' := [⟨0, some (a2.map AV.f32)⟩, ⟨0, none⟩, ⟨0, none⟩]) rfl (n := 16) rfl (g := 1) rfl (by decide) ?_
  unfold s_l02Give_02o at h
  refine RunC.seq ?_
  refine RunC.regionW ?_
  refine ROps.d (r := AV.ptr [AV.i64 a0, AV.i64 a1, AV.oref 0 0 0 a2.length]) (fs := []) (Γ' := [⟨0, some (a2.map AV.f32)⟩, ⟨0, none⟩, ⟨0, none⟩]) rfl rfl rfl (TOp.box_s rfl rfl rfl) rfl ?_
  refine ROps.d (r := AV.optr 1 1 0) (fs := [(1, [AV.i64 0, AV.i64 0, AV.nilsl])]) (Γ' := [⟨0, some (a2.map AV.f32)⟩, ⟨1, some [AV.i64 0, AV.i64 0, AV.nilsl]⟩, ⟨0, none⟩]) rfl rfl rfl (TOp.alloc_o (g := ⟨0, none⟩) 1 rfl zer27 zok27 rfl) rfl ?_
  refine ROps.l (r := AV.b false) rfl rfl rfl (LOp.assign rfl rfl) ?_
  refine ROps.nil ?_
  refine RunC.seq ?_
  refine RunC.seq ?_
  obtain ⟨r1, hf1, h⟩ := obind_some h
  rcases bsel_some h with ⟨hc2, h⟩ | ⟨hc2, h⟩
  · refine RunC.regionW ?_
    refine ROps.d (r := AV.b true) (fs := []) (Γ' := [⟨0, some (a2.map AV.f32)⟩, ⟨1, some [AV.i64 0, AV.i64 0, AV.nilsl]⟩, ⟨0, none⟩]) rfl rfl rfl (TOp.eqb (TOp.callB (CallAs.func ent37 rfl rfl) (Bors.cons (Bor.ptr (Bors.cons (Bor.pure rfl) (Bors.cons (Bor.pure rfl) (Bors.cons (Bor.own (f := AV.f32) (fun _ => rfl) rfl rfl) Bors.nil)))) Bors.nil) rfl rfl (s_l02Is_ok a0 a1 a2 r1 hf1)) hc2) rfl ?_
    refine ROps.l (r := AV.b false) rfl rfl rfl (LOp.eqb (LOp.not rfl rfl) rfl) ?_
    refine ROps.nil ?_
    refine RunC.cond_false rfl rfl ?_
    refine RunC.skip ?_
    refine RunC.seq ?_
    refine RunC.regionW ?_
    refine ROps.l (r := AV.agg [AV.i64 a0, AV.i64 a1, AV.oref 0 0 0 a2.length]) rfl rfl rfl (LOp.loadAgg agg27 siz27 rfl rfl rfl rfl) ?_
    refine ROps.store_le (r := AV.agg [AV.i64 a0, AV.i64 a1, AV.oref 0 0 0 a2.length]) (l' := [AV.i64 a0, AV.i64 a1, AV.oref 0 0 0 a2.length]) (Γ' := [⟨0, some (a2.map AV.f32)⟩, ⟨1, some [AV.i64 a0, AV.i64 a1, AV.oref 0 0 0 a2.length]⟩, ⟨0, none⟩]) rfl siz27 rfl rfl rfl (ALe.refl _) rfl rfl rfl rfl (Nat.le_of_ble_eq_true rfl) rfl rfl ?_
    refine ROps.l (r := AV.b true) rfl rfl rfl (LOp.assign rfl rfl) ?_
    refine ROps.nil ?_
    refine RunC.ret ?_
    have hq := Option.some.inj h
    have hq := Sum.inl.inj hq
    obtain ⟨hq0, hq⟩ := Prod.mk.inj hq
    obtain ⟨hq1, hq⟩ := Prod.mk.inj hq
    obtain ⟨hq2, hq⟩ := Prod.mk.inj hq
    subst q0
    subst q1
    subst q2
    subst q3
    exact bodyQ.mk (r' := AV.tup [AV.agg [AV.i64 a0, AV.i64 a1, AV.oref 0 0 0 a2.length], AV.b true]) [(0, 0)] (.inr rfl) rfl (show List.Nodup [0] from by decide) rfl rfl (Res.two rfl (RV.cell agg27 siz27 rfl rfl rfl rfl) (RV.tmp rfl)) (SelL.arr (f := AV.f32) (fun _ => rfl) rfl trivial)
  · refine RunC.regionW ?_
    refine ROps.d (r := AV.b false) (fs := []) (Γ' := [⟨0, some (a2.map AV.f32)⟩, ⟨1, some [AV.i64 0, AV.i64 0, AV.nilsl]⟩, ⟨0, none⟩]) rfl rfl rfl (TOp.eqb (TOp.callB (CallAs.func ent37 rfl rfl) (Bors.cons (Bor.ptr (Bors.cons (Bor.pure rfl) (Bors.cons (Bor.pure rfl) (Bors.cons (Bor.own (f := AV.f32) (fun _ => rfl) rfl rfl) Bors.nil)))) Bors.nil) rfl rfl (s_l02Is_ok a0 a1 a2 r1 hf1)) hc2) rfl ?_
    refine ROps.l (r := AV.b true) rfl rfl rfl (LOp.eqb (LOp.not rfl rfl) rfl) ?_
    refine ROps.nil ?_
    refine RunC.cond_true rfl rfl ?_
    refine RunC.seq ?_
    refine RunC.regionW ?_
    refine ROps.l (r := AV.agg [AV.i64 0, AV.i64 0, AV.nilsl]) rfl rfl rfl (LOp.build (qs := []) zer27 zok27 und27 plc27 rfl trivial rfl) ?_
    refine ROps.store_le (r := AV.agg [AV.i64 0, AV.i64 0, AV.nilsl]) (l' := [AV.i64 0, AV.i64 0, AV.nilsl]) (Γ' := [⟨0, some (a2.map AV.f32)⟩, ⟨1, some [AV.i64 0, AV.i64 0, AV.nilsl]⟩, ⟨0, none⟩]) rfl siz27 rfl rfl rfl (ALe.refl _) rfl rfl rfl rfl (Nat.le_of_ble_eq_true rfl) rfl rfl ?_
    refine ROps.l (r := AV.b false) rfl rfl rfl (LOp.assign rfl rfl) ?_
    refine ROps.nil ?_
    cases Option.some.inj h
theorem s_l02Give_02o_ok1 (a0 : Int) (a1 : Int) (a2 : List F) (q0 : Int) (q1 : Int) (q2 : Bool) (q3 : List F) (q4 : List F) (h : s_l02Give_02o a0 a1 a2 = some (Sum.inr (q0, q1, q2, q3, q4))) : Ev Try.prog 95 [AV.agg [AV.i64 a0, AV.i64 a1, AV.oref 0 0 0 a2.length]] [⟨0, some (a2.map AV.f32)⟩] (AV.tup [AV.agg [AV.i64 q0, AV.i64 q1, AV.oref 1 0 0 q4.length], AV.b q2]) [⟨0, some (q3.map AV.f32)⟩, ⟨0, some (q4.map AV.f32)⟩] := by
  refine Ev.start Try.func95 rfl rfl 2 (τ := [(0, AV.agg [AV.i64 a0, AV.i64 a1, AV.oref 0 0 0 a2.length])]) rfl (Γ' := [⟨0, some (a2.map AV.f32)⟩, ⟨0, none⟩, ⟨0, none⟩]) rfl (n := 16) rfl (g := 1) rfl (by decide) ?_
  unfold s_l02Give_02o at h
  refine RunC.seq ?_
  refine RunC.regionW ?_
  refine ROps.d (r := AV.ptr [AV.i64 a0, AV.i64 a1, AV.oref 0 0 0 a2.length]) (fs := []) (Γ' := [⟨0, some (a2.map AV.f32)⟩, ⟨0, none⟩, ⟨0, none⟩]) rfl rfl rfl (TOp.box_s rfl rfl rfl) rfl ?_
  refine ROps.d (r := AV.optr 1 1 0) (fs := [(1, [AV.i64 0, AV.i64 0, AV.nilsl])]) (Γ' := [⟨0, some (a2.map AV.f32)⟩, ⟨1, some [AV.i64 0, AV.i64 0, AV.nilsl]⟩, ⟨0, none⟩]) rfl rfl rfl (TOp.alloc_o (g := ⟨0, none⟩) 1 rfl zer27 zok27 rfl) rfl ?_
  refine ROps.l (r := AV.b false) rfl rfl rfl (LOp.assign rfl rfl) ?_
  refine ROps.nil ?_
  refine RunC.seq ?_
  refine RunC.seq ?_
  obtain ⟨r1, hf1, h⟩ := obind_some h
  rcases bsel_some h with ⟨hc2, h⟩ | ⟨hc2, h⟩
  · refine RunC.regionW ?_
    refine ROps.d (r := AV.b true) (fs := []) (Γ' := [⟨0, some (a2.map AV.f32)⟩, ⟨1, some [AV.i64 0, AV.i64 0, AV.nilsl]⟩, ⟨0, none⟩]) rfl rfl rfl (TOp.eqb (TOp.callB (CallAs.func ent37 rfl rfl) (Bors.cons (Bor.ptr (Bors.cons (Bor.pure rfl) (Bors.cons (Bor.pure rfl) (Bors.cons (Bor.own (f := AV.f32) (fun _ => rfl) rfl rfl) Bors.nil)))) Bors.nil) rfl rfl (s_l02Is_ok a0 a1 a2 r1 hf1)) hc2) rfl ?_
    refine ROps.l (r := AV.b false) rfl rfl rfl (LOp.eqb (LOp.not rfl rfl) rfl) ?_
    refine ROps.nil ?_
    refine RunC.cond_false rfl rfl ?_
    refine RunC.skip ?_
    refine RunC.seq ?_
    refine RunC.regionW ?_
    refine ROps.l (r := AV.agg [AV.i64 a0, AV.i64 a1, AV.oref 0 0 0 a2.length]) rfl rfl rfl (LOp.loadAgg agg27 siz27 rfl rfl rfl rfl) ?_
    refine ROps.store_le (r := AV.agg [AV.i64 a0, AV.i64 a1, AV.oref 0 0 0 a2.length]) (l' := [AV.i64 a0, AV.i64 a1, AV.oref 0 0 0 a2.length]) (Γ' := [⟨0, some (a2.map AV.f32)⟩, ⟨1, some [AV.i64 a0, AV.i64 a1, AV.oref 0 0 0 a2.length]⟩, ⟨0, none⟩]) rfl siz27 rfl rfl rfl (ALe.refl _) rfl rfl rfl rfl (Nat.le_of_ble_eq_true rfl) rfl rfl ?_
    refine ROps.l (r := AV.b true) rfl rfl rfl (LOp.assign rfl rfl) ?_
    refine ROps.nil ?_
    cases Option.some.inj h
  · refine RunC.regionW ?_
    refine ROps.d (r := AV.b false) (fs := []) (Γ' := [⟨0, some (a2.map AV.f32)⟩, ⟨1, some [AV.i64 0, AV.i64 0, AV.nilsl]⟩, ⟨0, none⟩]) rfl rfl rfl (TOp.eqb (TOp.callB (CallAs.func ent37 rfl rfl) (Bors.cons (Bor.ptr (Bors.cons (Bor.pure rfl) (Bors.cons (Bor.pure rfl) (Bors.cons (Bor.own (f := AV.f32) (fun _ => rfl) rfl rfl) Bors.nil)))) Bors.nil) rfl rfl (s_l02Is_ok a0 a1 a2 r1 hf1)) hc2) rfl ?_
    refine ROps.l (r := AV.b true) rfl rfl rfl (LOp.eqb (LOp.not rfl rfl) rfl) ?_
    refine ROps.nil ?_
    refine RunC.cond_true rfl rfl ?_
    refine RunC.seq ?_
    refine RunC.regionW ?_
    refine ROps.l (r := AV.agg [AV.i64 0, AV.i64 0, AV.nilsl]) rfl rfl rfl (LOp.build (qs := []) zer27 zok27 und27 plc27 rfl trivial rfl) ?_
    refine ROps.store_le (r := AV.agg [AV.i64 0, AV.i64 0, AV.nilsl]) (l' := [AV.i64 0, AV.i64 0, AV.nilsl]) (Γ' := [⟨0, some (a2.map AV.f32)⟩, ⟨1, some [AV.i64 0, AV.i64 0, AV.nilsl]⟩, ⟨0, none⟩]) rfl siz27 rfl rfl rfl (ALe.refl _) rfl rfl rfl rfl (Nat.le_of_ble_eq_true rfl) rfl rfl ?_
    refine ROps.l (r := AV.b false) rfl rfl rfl (LOp.assign rfl rfl) ?_
    refine ROps.nil ?_
    refine RunC.nil_cell (l' := [AV.i64 0, AV.i64 0, AV.oref 2 1 0 0]) (Γ' := [⟨0, some (a2.map AV.f32)⟩, ⟨1, some [AV.i64 0, AV.i64 0, AV.oref 2 1 0 0]⟩, ⟨1, some (([] : List F).map AV.f32)⟩]) 1 2 2 rfl rfl rfl rfl rfl ?_
    refine RunC.ret ?_
    have hq := Option.some.inj h
    have hq := Sum.inr.inj hq
    obtain ⟨hq0, hq⟩ := Prod.mk.inj hq
    obtain ⟨hq1, hq⟩ := Prod.mk.inj hq
    obtain ⟨hq2, hq⟩ := Prod.mk.inj hq
    obtain ⟨hq3, hq⟩ := Prod.mk.inj hq
    subst q0
    subst q1
    subst q2
    subst q3
    subst q4
    exact bodyQ.mk (r' := AV.tup [AV.agg [AV.i64 0, AV.i64 0, AV.oref 2 1 0 (([] : List F).length)], AV.b false]) [(0, 0), (2, 1)] (.inr rfl) rfl (show List.Nodup [0, 2] from by decide) rfl rfl (Res.eq (Res.two rfl (RV.cell agg27 siz27 rfl rfl rfl rfl) (RV.tmp rfl)) (by rw [(show ([] : List F).length = 0 from rfl)] <;> rfl)) (SelL.arr (f := AV.f32) (fun _ => rfl) rfl (SelL.arr0 (f := AV.f32) (fun _ => rfl) rfl trivial))
noncomputable def s_MulMatrices (a0 : Int) (a1 : Int) (a2 : List F) (a3 : Int) (a4 : Int) (a5 : List F) : Option (Int × Int × Bool × (List F)) :=
  obind (s_l02Fit a0 a1 a2 a3 a4 a5) fun (r1 : Bool) =>
  bsel r1 (
    obind3 (s_l02Mul a0 a1 a2 a3 a4 a5) fun (r2 : Int) (r3 : Int) (r4 : List F) =>
    obind (s_l02Give_02o r2 r3 r4) (fun z => osum z (fun y => obind4 (some y) fun (r5 : Int) (r6 : Int) (r7 : Bool) (r8 : List F) =>
      need (decide (r8.length = r4.length)) <|
      some (r5, r6, r7, r8)) (fun y => obind5 (some y) fun (r9 : Int) (r10 : Int) (r11 : Bool) (r12 : List F) (r13 : List F) =>
      need (decide (r12.length = r4.length)) <|
      some (r9, r10, r11, r13)))) (
    some (0, 0, false, ([] : List F)))
theorem s_MulMatrices_ok (a0 : Int) (a1 : Int) (a2 : List F) (a3 : Int) (a4 : Int) (a5 : List F) (q0 : Int) (q1 : Int) (q2 : Bool) (q3 : List F) (h : s_MulMatrices a0 a1 a2 a3 a4 a5 = some (q0, q1, q2, q3)) : Ev Try.prog 62 [AV.agg [AV.i64 a0, AV.i64 a1, AV.sl a2.length (a2.map AV.f32)], AV.agg [AV.i64 a3, AV.i64 a4, AV.sl a5.length (a5.map AV.f32)]] [] (AV.tup [AV.agg [AV.i64 q0, AV.i64 q1, AV.oref 0 0 0 q3.length], AV.b q2]) [⟨0, some (q3.map AV.f32)⟩] := by
  refine Ev.start Try.func62 rfl rfl 3 (τ := [(0, AV.agg [AV.i64 a0, AV.i64 a1, AV.sl a2.length (a2.map AV.f32)]), (1, AV.agg [AV.i64 a3, AV.i64 a4, AV.sl a5.length (a5.map AV.f32)])]) rfl (Γ' := [⟨0, none⟩, ⟨0, none⟩, ⟨0, none⟩]) rfl (n := 27) rfl (g := 0) rfl (fun _ => rfl) ?_
  unfold s_MulMatrices at h
  refine RunC.seq ?_
  refine RunC.regionW ?_
  refine ROps.d (r := AV.ptr [AV.i64 a0, AV.i64 a1, AV.sl a2.length (a2.map AV.f32)]) (fs := []) (Γ' := [⟨0, none⟩, ⟨0, none⟩, ⟨0, none⟩]) rfl rfl rfl (TOp.box_s rfl rfl rfl) rfl ?_
  refine ROps.d (r := AV.ptr [AV.i64 a3, AV.i64 a4, AV.sl a5.length (a5.map AV.f32)]) (fs := []) (Γ' := [⟨0, none⟩, ⟨0, none⟩, ⟨0, none⟩]) rfl rfl rfl (TOp.box_s rfl rfl rfl) rfl ?_
  refine ROps.d (r := AV.optr 0 1 0) (fs := [(0, [AV.i64 0, AV.i64 0, AV.nilsl])]) (Γ' := [⟨1, some [AV.i64 0, AV.i64 0, AV.nilsl]⟩, ⟨0, none⟩, ⟨0, none⟩]) rfl rfl rfl (TOp.alloc_o (g := ⟨0, none⟩) 0 rfl zer27 zok27 rfl) rfl ?_
  refine ROps.l (r := AV.b false) rfl rfl rfl (LOp.assign rfl rfl) ?_
  refine ROps.nil ?_
  refine RunC.seq ?_
  refine RunC.seq ?_
  obtain ⟨r1, hf1, h⟩ := obind_some h
  rcases bsel_some h with ⟨hc2, h⟩ | ⟨hc2, h⟩
  · refine RunC.regionW ?_
    refine ROps.d (r := AV.b true) (fs := []) (Γ' := [⟨1, some [AV.i64 0, AV.i64 0, AV.nilsl]⟩, ⟨0, none⟩, ⟨0, none⟩]) rfl rfl rfl (TOp.eqb (TOp.callB (CallAs.func ent98 rfl rfl) (Bors.cons (Bor.ptr (Bors.cons (Bor.pure rfl) (Bors.cons (Bor.pure rfl) (Bors.cons (Bor.sl (fun _ => rfl)) Bors.nil)))) (Bors.cons (Bor.ptr (Bors.cons (Bor.pure rfl) (Bors.cons (Bor.pure rfl) (Bors.cons (Bor.sl (fun _ => rfl)) Bors.nil)))) Bors.nil)) rfl rfl (s_l02Fit_ok a0 a1 a2 a3 a4 a5 r1 hf1)) hc2) rfl ?_
    refine ROps.l (r := AV.b false) rfl rfl rfl (LOp.eqb (LOp.not rfl rfl) rfl) ?_
    refine ROps.nil ?_
    refine RunC.cond_false rfl rfl ?_
    refine RunC.skip ?_
    refine RunC.seq ?_
    obtain ⟨r2, r3, r4, hf3, h⟩ := obind3_some h
    obtain ⟨z1, hf4, h⟩ := obind_some h
    rcases z1 with z1 | z1
    · replace h := (osum_inl _ _ _).symm.trans h
      obtain ⟨r5, r6, r7, r8, hz2, h⟩ := obind4_some h
      cases hz2
      obtain ⟨hn5, h⟩ := need_some h
      refine RunC.regionW ?_
      refine ROps.d (r := AV.agg [AV.i64 r2, AV.i64 r3, AV.oref 1 1 0 r4.length]) (fs := [(1, (r4.map AV.f32))]) (Γ' := [⟨1, some [AV.i64 0, AV.i64 0, AV.nilsl]⟩, ⟨1, some (r4.map AV.f32)⟩, ⟨0, none⟩]) rfl rfl rfl (TOp.callBN (ls := [(r4.map AV.f32)]) [1] (CallAs.func ent99 rfl rfl) (Bors.cons (Bor.ptr (Bors.cons (Bor.pure rfl) (Bors.cons (Bor.pure rfl) (Bors.cons (Bor.sl (fun _ => rfl)) Bors.nil)))) (Bors.cons (Bor.ptr (Bors.cons (Bor.pure rfl) (Bors.cons (Bor.pure rfl) (Bors.cons (Bor.sl (fun _ => rfl)) Bors.nil)))) Bors.nil)) rfl (s_l02Mul_ok a0 a1 a2 a3 a4 a5 r2 r3 r4 hf3) (and_all (lts0_map (f := AV.f32) (fun _ => rfl) _) rfl) (and_all (noss_map (f := AV.f32) (fun _ => rfl) _) rfl) rfl (by decide) (ns_of ⟨⟨_, rfl⟩, trivial⟩)) rfl ?_
      refine ROps.callO (A := [AV.agg [AV.i64 r2, AV.i64 r3, AV.oref 1 1 0 r4.length]]) (args := [AV.agg [AV.i64 r2, AV.i64 r3, AV.oref 0 0 0 r4.length]]) (Γc := [⟨0, some (r4.map AV.f32)⟩]) (Γc' := [⟨0, some (r8.map AV.f32)⟩]) (r' := AV.tup [AV.agg [AV.i64 r5, AV.i64 r6, AV.oref 1 1 0 r4.length], AV.b r7]) (Γ' := [⟨1, some [AV.i64 0, AV.i64 0, AV.nilsl]⟩, ⟨1, some (r8.map AV.f32)⟩, ⟨0, none⟩]) [(1, 1)] [] rfl (CallAs.func ent95 rfl rfl) rfl rfl (SelOk.of (show List.Nodup [1] from by decide) (SelL.arr0 (f := AV.f32) (fun _ => rfl) rfl trivial)) (live_of ⟨⟨_, _, rfl⟩, trivial⟩) (by simp [AV.ren, AV.rens, sigma, rens_f32, rens_f64, rens_i64, rens_ik, rens_str, rens_cp]) rfl (s_l02Give_02o_ok0 r2 r3 r4 r5 r6 r7 r8 hf4) rfl (news_of trivial) (show List.Nodup [1] from by decide) (by simp [AV.ren, AV.rens, sigma, of_decide_eq_true hn5]) (by simp [backOb, sigma, AV.ren, AV.rens, rens_f32, rens_f64, rens_i64, rens_ik, rens_str, rens_cp]) ?_
      refine ROps.l (r := AV.agg [AV.i64 r5, AV.i64 r6, AV.oref 1 1 0 r4.length]) rfl rfl rfl (LOp.extract rfl rfl rfl) ?_
      refine ROps.l (r := AV.b r7) rfl rfl rfl (LOp.extract rfl rfl rfl) ?_
      refine ROps.store_le (r := AV.agg [AV.i64 r5, AV.i64 r6, AV.oref 1 1 0 r4.length]) (l' := [AV.i64 r5, AV.i64 r6, AV.oref 1 1 0 r4.length]) (Γ' := [⟨1, some [AV.i64 r5, AV.i64 r6, AV.oref 1 1 0 r4.length]⟩, ⟨1, some (r8.map AV.f32)⟩, ⟨0, none⟩]) rfl siz27 rfl rfl rfl (ALe.refl _) rfl rfl rfl rfl (Nat.le_of_ble_eq_true rfl) rfl rfl ?_
      refine ROps.l (r := AV.b r7) rfl rfl rfl (LOp.assign rfl rfl) ?_
      refine ROps.nil ?_
      refine RunC.ret ?_
      have hq := Option.some.inj h
      obtain ⟨hq0, hq⟩ := Prod.mk.inj hq
      obtain ⟨hq1, hq⟩ := Prod.mk.inj hq
      obtain ⟨hq2, hq⟩ := Prod.mk.inj hq
      subst q0
      subst q1
      subst q2
      subst q3
      exact bodyQ.mk (r' := AV.tup [AV.agg [AV.i64 r5, AV.i64 r6, AV.oref 1 1 0 r8.length], AV.b r7]) [(1, 1)] (.inr rfl) rfl (show List.Nodup [1] from by decide) rfl rfl (Res.eq (Res.two rfl (RV.cell agg27 siz27 rfl rfl rfl rfl) (RV.tmp rfl)) (by rw [(show r8.length = r4.length from (of_decide_eq_true hn5))] <;> rfl)) (SelL.arr0 (f := AV.f32) (fun _ => rfl) rfl trivial)
    · replace h := (osum_inr _ _ _).symm.trans h
      obtain ⟨r9, r10, r11, r12, r13, hz3, h⟩ := obind5_some h
      cases hz3
      obtain ⟨hn6, h⟩ := need_some h
      refine RunC.regionW ?_
      refine ROps.d (r := AV.agg [AV.i64 r2, AV.i64 r3, AV.oref 1 1 0 r4.length]) (fs := [(1, (r4.map AV.f32))]) (Γ' := [⟨1, some [AV.i64 0, AV.i64 0, AV.nilsl]⟩, ⟨1, some (r4.map AV.f32)⟩, ⟨0, none⟩]) rfl rfl rfl (TOp.callBN (ls := [(r4.map AV.f32)]) [1] (CallAs.func ent99 rfl rfl) (Bors.cons (Bor.ptr (Bors.cons (Bor.pure rfl) (Bors.cons (Bor.pure rfl) (Bors.cons (Bor.sl (fun _ => rfl)) Bors.nil)))) (Bors.cons (Bor.ptr (Bors.cons (Bor.pure rfl) (Bors.cons (Bor.pure rfl) (Bors.cons (Bor.sl (fun _ => rfl)) Bors.nil)))) Bors.nil)) rfl (s_l02Mul_ok a0 a1 a2 a3 a4 a5 r2 r3 r4 hf3) (and_all (lts0_map (f := AV.f32) (fun _ => rfl) _) rfl) (and_all (noss_map (f := AV.f32) (fun _ => rfl) _) rfl) rfl (by decide) (ns_of ⟨⟨_, rfl⟩, trivial⟩)) rfl ?_
      refine ROps.callO (A := [AV.agg [AV.i64 r2, AV.i64 r3, AV.oref 1 1 0 r4.length]]) (args := [AV.agg [AV.i64 r2, AV.i64 r3, AV.oref 0 0 0 r4.length]]) (Γc := [⟨0, some (r4.map AV.f32)⟩]) (Γc' := [⟨0, some (r12.map AV.f32)⟩, ⟨0, some (r13.map AV.f32)⟩]) (r' := AV.tup [AV.agg [AV.i64 r9, AV.i64 r10, AV.oref 2 1 0 r13.length], AV.b r11]) (Γ' := [⟨1, some [AV.i64 0, AV.i64 0, AV.nilsl]⟩, ⟨1, some (r12.map AV.f32)⟩, ⟨1, some (r13.map AV.f32)⟩]) [(1, 1)] [(2, 1)] rfl (CallAs.func ent95 rfl rfl) rfl rfl (SelOk.of (show List.Nodup [1] from by decide) (SelL.arr0 (f := AV.f32) (fun _ => rfl) rfl trivial)) (live_of ⟨⟨_, _, rfl⟩, trivial⟩) (by simp [AV.ren, AV.rens, sigma, rens_f32, rens_f64, rens_i64, rens_ik, rens_str, rens_cp]) rfl (s_l02Give_02o_ok1 r2 r3 r4 r9 r10 r11 r12 r13 hf4) rfl (news_of ⟨⟨_, rfl, rfl⟩, trivial⟩) (show List.Nodup [1, 2] from by decide) (by simp [AV.ren, AV.rens, sigma, of_decide_eq_true hn6]) (by simp [backOb, sigma, AV.ren, AV.rens, rens_f32, rens_f64, rens_i64, rens_ik, rens_str, rens_cp]) ?_
      refine ROps.l (r := AV.agg [AV.i64 r9, AV.i64 r10, AV.oref 2 1 0 r13.length]) rfl rfl rfl (LOp.extract rfl rfl rfl) ?_
      refine ROps.l (r := AV.b r11) rfl rfl rfl (LOp.extract rfl rfl rfl) ?_
      refine ROps.store_le (r := AV.agg [AV.i64 r9, AV.i64 r10, AV.oref 2 1 0 r13.length]) (l' := [AV.i64 r9, AV.i64 r10, AV.oref 2 1 0 r13.length]) (Γ' := [⟨1, some [AV.i64 r9, AV.i64 r10, AV.oref 2 1 0 r13.length]⟩, ⟨1, some (r12.map AV.f32)⟩, ⟨1, some (r13.map AV.f32)⟩]) rfl siz27 rfl rfl rfl (ALe.refl _) rfl rfl rfl rfl (Nat.le_of_ble_eq_true rfl) rfl rfl ?_
      refine ROps.l (r := AV.b r11) rfl rfl rfl (LOp.assign rfl rfl) ?_
      refine ROps.nil ?_
      refine RunC.ret ?_
      have hq := Option.some.inj h
      obtain ⟨hq0, hq⟩ := Prod.mk.inj hq
      obtain ⟨hq1, hq⟩ := Prod.mk.inj hq
      obtain ⟨hq2, hq⟩ := Prod.mk.inj hq
      subst q0
      subst q1
      subst q2
      subst q3
      exact bodyQ.mk (r' := AV.tup [AV.agg [AV.i64 r9, AV.i64 r10, AV.oref 2 1 0 r13.length], AV.b r11]) [(2, 1)] (.inr rfl) rfl (show List.Nodup [2] from by decide) rfl rfl (Res.two rfl (RV.cell agg27 siz27 rfl rfl rfl rfl) (RV.tmp rfl)) (SelL.arr0 (f := AV.f32) (fun _ => rfl) rfl trivial)
  · refine RunC.regionW ?_
    refine ROps.d (r := AV.b false) (fs := []) (Γ' := [⟨1, some [AV.i64 0, AV.i64 0, AV.nilsl]⟩, ⟨0, none⟩, ⟨0, none⟩]) rfl rfl rfl (TOp.eqb (TOp.callB (CallAs.func ent98 rfl rfl) (Bors.cons (Bor.ptr (Bors.cons (Bor.pure rfl) (Bors.cons (Bor.pure rfl) (Bors.cons (Bor.sl (fun _ => rfl)) Bors.nil)))) (Bors.cons (Bor.ptr (Bors.cons (Bor.pure rfl) (Bors.cons (Bor.pure rfl) (Bors.cons (Bor.sl (fun _ => rfl)) Bors.nil)))) Bors.nil)) rfl rfl (s_l02Fit_ok a0 a1 a2 a3 a4 a5 r1 hf1)) hc2) rfl ?_
    refine ROps.l (r := AV.b true) rfl rfl rfl (LOp.eqb (LOp.not rfl rfl) rfl) ?_
    refine ROps.nil ?_
    refine RunC.cond_true rfl rfl ?_
    refine RunC.seq ?_
    refine RunC.regionW ?_
    refine ROps.l (r := AV.agg [AV.i64 0, AV.i64 0, AV.nilsl]) rfl rfl rfl (LOp.build (qs := []) zer27 zok27 und27 plc27 rfl trivial rfl) ?_
    refine ROps.store_le (r := AV.agg [AV.i64 0, AV.i64 0, AV.nilsl]) (l' := [AV.i64 0, AV.i64 0, AV.nilsl]) (Γ' := [⟨1, some [AV.i64 0, AV.i64 0, AV.nilsl]⟩, ⟨0, none⟩, ⟨0, none⟩]) rfl siz27 rfl rfl rfl (ALe.refl _) rfl rfl rfl rfl (Nat.le_of_ble_eq_true rfl) rfl rfl ?_
    refine ROps.l (r := AV.b false) rfl rfl rfl (LOp.assign rfl rfl) ?_
    refine ROps.nil ?_
    refine RunC.nil_cell (l' := [AV.i64 0, AV.i64 0, AV.oref 1 1 0 0]) (Γ' := [⟨1, some [AV.i64 0, AV.i64 0, AV.oref 1 1 0 0]⟩, ⟨1, some (([] : List F).map AV.f32)⟩, ⟨0, none⟩]) 0 2 1 rfl rfl rfl rfl rfl ?_
    refine RunC.ret ?_
    have hq := Option.some.inj h
    obtain ⟨hq0, hq⟩ := Prod.mk.inj hq
    obtain ⟨hq1, hq⟩ := Prod.mk.inj hq
    obtain ⟨hq2, hq⟩ := Prod.mk.inj hq
    subst q0
    subst q1
    subst q2
    subst q3
    exact bodyQ.mk (r' := AV.tup [AV.agg [AV.i64 0, AV.i64 0, AV.oref 1 1 0 (([] : List F).length)], AV.b false]) [(1, 1)] (.inr rfl) rfl (show List.Nodup [1] from by decide) rfl rfl (Res.eq (Res.two rfl (RV.cell agg27 siz27 rfl rfl rfl rfl) (RV.tmp rfl)) (by rw [(show ([] : List F).length = 0 from rfl)] <;> rfl)) (SelL.arr0 (f := AV.f32) (fun _ => rfl) rfl trivial)
noncomputable def s_l02Number (a0 : F) : Option (F × Bool) :=
  obind (s_l01Finite a0) fun (r1 : Bool) =>
  bsel r1 (
    some (a0, true)) (
    some (some 0, false))
theorem s_l02Number_ok (a0 : F) (q0 : F) (q1 : Bool) (h : s_l02Number a0 = some (q0, q1)) : Ev Try.prog 100 [AV.f32 a0] [] (AV.tup [AV.f32 q0, AV.b q1]) [] := by
  refine Ev.start Try.func100 rfl rfl 0 (τ := [(0, AV.f32 a0)]) rfl (Γ' := []) rfl (n := 17) rfl (g := 0) rfl (fun _ => rfl) ?_
  unfold s_l02Number at h
  refine RunC.seq ?_
  refine RunC.regionW ?_
  refine ROps.l (r := AV.f32 (some 0)) rfl rfl rfl (LOp.le (LOp.assign rfl rfl) (ALe.fl (by kernel_rfl) (by kernel_rfl))) ?_
  refine ROps.l (r := AV.b false) rfl rfl rfl (LOp.assign rfl rfl) ?_
  refine ROps.nil ?_
  refine RunC.seq ?_
  refine RunC.seq ?_
  obtain ⟨r1, hf1, h⟩ := obind_some h
  rcases bsel_some h with ⟨hc2, h⟩ | ⟨hc2, h⟩
  · refine RunC.regionW ?_
    refine ROps.l (r := AV.f32 a0) rfl rfl rfl (LOp.move rfl rfl) ?_
    refine ROps.d (r := AV.b true) (fs := []) (Γ' := []) rfl rfl rfl (TOp.eqb (TOp.callB (CallAs.func ent58 rfl rfl) (Bors.cons (Bor.pure rfl) Bors.nil) rfl rfl (s_l01Finite_ok a0 r1 hf1)) hc2) rfl ?_
    refine ROps.l (r := AV.b false) rfl rfl rfl (LOp.eqb (LOp.not rfl rfl) rfl) ?_
    refine ROps.nil ?_
    refine RunC.cond_false rfl rfl ?_
    refine RunC.skip ?_
    refine RunC.seq ?_
    refine RunC.regionW ?_
    refine ROps.l (r := AV.f32 a0) rfl rfl rfl (LOp.move rfl rfl) ?_
    refine ROps.l (r := AV.f32 a0) rfl rfl rfl (LOp.assign rfl rfl) ?_
    refine ROps.l (r := AV.b true) rfl rfl rfl (LOp.assign rfl rfl) ?_
    refine ROps.nil ?_
    refine RunC.ret ?_
    have hq := Option.some.inj h
    obtain ⟨hq0, hq⟩ := Prod.mk.inj hq
    subst q0
    subst q1
    exact bodyQ.pure (.inr rfl) rfl (Res.two rfl (RV.tmp rfl) (RV.tmp rfl))
  · refine RunC.regionW ?_
    refine ROps.l (r := AV.f32 a0) rfl rfl rfl (LOp.move rfl rfl) ?_
    refine ROps.d (r := AV.b false) (fs := []) (Γ' := []) rfl rfl rfl (TOp.eqb (TOp.callB (CallAs.func ent58 rfl rfl) (Bors.cons (Bor.pure rfl) Bors.nil) rfl rfl (s_l01Finite_ok a0 r1 hf1)) hc2) rfl ?_
    refine ROps.l (r := AV.b true) rfl rfl rfl (LOp.eqb (LOp.not rfl rfl) rfl) ?_
    refine ROps.nil ?_
    refine RunC.cond_true rfl rfl ?_
    refine RunC.seq ?_
    refine RunC.regionW ?_
    refine ROps.l (r := AV.f32 (some 0)) rfl rfl rfl (LOp.le (LOp.assign rfl rfl) (ALe.fl (by kernel_rfl) (by kernel_rfl))) ?_
    refine ROps.l (r := AV.b false) rfl rfl rfl (LOp.assign rfl rfl) ?_
    refine ROps.nil ?_
    refine RunC.ret ?_
    have hq := Option.some.inj h
    obtain ⟨hq0, hq⟩ := Prod.mk.inj hq
    subst q0
    subst q1
    exact bodyQ.pure (.inr rfl) rfl (Res.two rfl (RV.tmp rfl) (RV.tmp rfl))
noncomputable def s_TraceOf_b1 (a0 : Int) (a1 : Int) (a2 : List F) (y2 : F) (v3 : Int) : Option (LR (F × Int) (F) (F × Bool)) :=
  bsel (decide (v3 < a0)) (
    obind (s_l02At a0 a1 a2 v3 v3) fun (r4 : F) =>
    olet (fop .add .f32 y2 r4) fun (x5 : F) =>
    olet (IntKind.i64.wrap (v3 + 1)) fun (x6 : Int) =>
    some (LR.next (x5, x6))) (
    some (LR.out y2))
noncomputable def s_TraceOf_s1 (a0 : Int) (a1 : Int) (a2 : List F) : (F × Int) → Option (LR (F × Int) (F) (F × Bool)) := fun s => s_TraceOf_b1 a0 a1 a2 s.1 s.2
noncomputable def s_TraceOf_k1 (y7 : F) : Option (F × Bool) :=
  obind2 (s_l02Number y7) fun (r8 : F) (r9 : Bool) =>
  some (r8, r9)
noncomputable def s_TraceOf (a0 : Int) (a1 : Int) (a2 : List F) : Option (F × Bool) :=
  obind (s_l02Square a0 a1 a2) fun (r1 : Bool) =>
  bsel r1 (
    obind (loopM (s_TraceOf_s1 a0 a1 a2) (some 0, 0)) fun z => osum z (fun e => s_TraceOf_k1 e) (fun r => some r)) (
    some (some 0, false))
theorem s_TraceOf_ok (a0 : Int) (a1 : Int) (a2 : List F) (q0 : F) (q1 : Bool) (h : s_TraceOf a0 a1 a2 = some (q0, q1)) : Ev Try.prog 63 [AV.agg [AV.i64 a0, AV.i64 a1, AV.sl a2.length (a2.map AV.f32)]] [] (AV.tup [AV.f32 q0, AV.b q1]) [] := by
  refine Ev.start Try.func63 rfl rfl 0 (τ := [(0, AV.agg [AV.i64 a0, AV.i64 a1, AV.sl a2.length (a2.map AV.f32)])]) rfl (Γ' := []) rfl (n := 47) rfl (g := 0) rfl (fun _ => rfl) ?_
  unfold s_TraceOf at h
  refine RunC.seq ?_
  refine RunC.regionW ?_
  refine ROps.d (r := AV.ptr [AV.i64 a0, AV.i64 a1, AV.sl a2.length (a2.map AV.f32)]) (fs := []) (Γ' := []) rfl rfl rfl (TOp.box_s rfl rfl rfl) rfl ?_
  refine ROps.l (r := AV.f32 (some 0)) rfl rfl rfl (LOp.le (LOp.assign rfl rfl) (ALe.fl (by kernel_rfl) (by kernel_rfl))) ?_
  refine ROps.l (r := AV.b false) rfl rfl rfl (LOp.assign rfl rfl) ?_
  refine ROps.nil ?_
  refine RunC.seq ?_
  refine RunC.seq ?_
  obtain ⟨r1, hf1, h⟩ := obind_some h
  rcases bsel_some h with ⟨hc2, h⟩ | ⟨hc2, h⟩
  · refine RunC.regionW ?_
    refine ROps.d (r := AV.b true) (fs := []) (Γ' := []) rfl rfl rfl (TOp.eqb (TOp.callB (CallAs.func ent55 rfl rfl) (Bors.cons (Bor.ptr (Bors.cons (Bor.pure rfl) (Bors.cons (Bor.pure rfl) (Bors.cons (Bor.sl (fun _ => rfl)) Bors.nil)))) Bors.nil) rfl rfl (s_l02Square_ok a0 a1 a2 r1 hf1)) hc2) rfl ?_
    refine ROps.l (r := AV.b false) rfl rfl rfl (LOp.eqb (LOp.not rfl rfl) rfl) ?_
    refine ROps.nil ?_
    refine RunC.cond_false rfl rfl ?_
    refine RunC.skip ?_
    refine RunC.seq ?_
    refine RunC.regionW ?_
    refine ROps.l (r := AV.f32 (some 0)) rfl rfl rfl (LOp.le (LOp.assign rfl rfl) (ALe.fl (by kernel_rfl) (by kernel_rfl))) ?_
    refine ROps.nil ?_
    refine RunC.seq ?_
    refine RunC.seq ?_
    refine RunC.regionW ?_
    refine ROps.l (r := AV.i64 0) rfl rfl rfl (LOp.assign rfl rfl) ?_
    refine ROps.nil ?_
    obtain ⟨z2, hz_2, h⟩ := obind_some h
    refine RunC.cutN (fun τ Γ => ∃ (y7 : F), WeakLe τ [(4, AV.f32 y7)] ∧ DeadLe Γ [] ∧ z2 = .inl y7) ?_ ?_
    · refine RunC.block (RunC.loop (RunL.loopM (x := z2) (s_TraceOf_s1 a0 a1 a2) (fun (s : F × Int) τ Γ => WeakLe τ [(1, AV.ptr [AV.i64 a0, AV.i64 a1, AV.sl a2.length (a2.map AV.f32)]), (4, AV.f32 s.1), (5, AV.i64 s.2)] ∧ DeadLe Γ []) ?_ _ _ _ hz_2 ⟨⟨(ALe.refl _), (ALe.refl _), (ALe.refl _), trivial⟩, trivial⟩))
      rintro ⟨y2, v3⟩ τ2 Γ2 y2_ ⟨hw2, hd2⟩ h2_ ho2 hr2
      refine RunC.wl (τ' := [(1, AV.ptr [AV.i64 a0, AV.i64 a1, AV.sl a2.length (a2.map AV.f32)]), (4, AV.f32 y2), (5, AV.i64 v3)]) (Γ' := []) hw2 hd2 ?_
      replace h2_ : s_TraceOf_b1 a0 a1 a2 y2 v3 = some y2_ := h2_
      unfold s_TraceOf_b1 at h2_
      refine RunC.seq ?_
      refine RunC.seq ?_
      rcases bsel_some h2_ with ⟨hc3, h2_⟩ | ⟨hc3, h2_⟩
      · refine RunC.regionW ?_
        refine ROps.l (r := AV.i64 v3) rfl rfl rfl (LOp.move rfl rfl) ?_
        refine ROps.l (r := AV.ptr [AV.i64 a0, AV.i64 a1, AV.sl a2.length (a2.map AV.f32)]) rfl rfl rfl (LOp.fap und27 rfl siz2 rfl rfl rfl) ?_
        refine ROps.l (r := AV.i64 a0) rfl rfl rfl (LOp.load1 agg2 rfl rfl) ?_
        refine ROps.l (r := AV.b true) rfl rfl rfl (LOp.eqb (LOp.lss rfl rfl rfl) hc3) ?_
        refine ROps.nil ?_
        refine RunC.cond_true rfl rfl ?_
        refine RunC.skip ?_
        refine RunC.seq ?_
        refine RunC.block ?_
        obtain ⟨r4, hf4, h2_⟩ := obind_some h2_
        obtain ⟨x5, hx5, h2_⟩ := olet_some h2_
        refine RunC.regionW ?_
        refine ROps.l (r := AV.f32 y2) rfl rfl rfl (LOp.move rfl rfl) ?_
        refine ROps.l (r := AV.i64 v3) rfl rfl rfl (LOp.move rfl rfl) ?_
        refine ROps.l (r := AV.i64 v3) rfl rfl rfl (LOp.move rfl rfl) ?_
        refine ROps.d (r := AV.f32 r4) (fs := []) (Γ' := []) rfl rfl rfl (TOp.callB (CallAs.func ent43 rfl rfl) (Bors.cons (Bor.ptr (Bors.cons (Bor.pure rfl) (Bors.cons (Bor.pure rfl) (Bors.cons (Bor.sl (fun _ => rfl)) Bors.nil)))) (Bors.cons (Bor.pure rfl) (Bors.cons (Bor.pure rfl) Bors.nil))) rfl rfl (s_l02At_ok a0 a1 a2 v3 v3 r4 hf4)) rfl ?_
        refine ROps.d (r := AV.f32 x5) (fs := []) (Γ' := []) rfl rfl rfl (TOp.eqr (TOp.fop (.inl rfl) rfl (OpF.tmp rfl) (OpF.tmp rfl)) (congrArg (AV.f .f32) hx5)) rfl ?_
        refine ROps.l (r := AV.f32 x5) rfl rfl rfl (LOp.assign rfl rfl) ?_
        refine ROps.nil ?_
        obtain ⟨x6, hx6, h2_⟩ := olet_some h2_
        refine RunC.regionW ?_
        refine ROps.l (r := AV.i64 v3) rfl rfl rfl (LOp.move rfl rfl) ?_
        refine ROps.l (r := AV.i64 x6) rfl rfl rfl (LOp.eqr (LOp.add rfl rfl rfl) (congrArg (AV.ik .i64) hx6)) ?_
        refine ROps.l (r := AV.i64 x6) rfl rfl rfl (LOp.assign rfl rfl) ?_
        refine ROps.nil ?_
        cases Option.some.inj h2_
        exact ⟨_, rfl, ⟨(ALe.refl _), (ALe.refl _), (ALe.refl _), trivial⟩, trivial⟩
      · refine RunC.regionW ?_
        refine ROps.l (r := AV.i64 v3) rfl rfl rfl (LOp.move rfl rfl) ?_
        refine ROps.l (r := AV.ptr [AV.i64 a0, AV.i64 a1, AV.sl a2.length (a2.map AV.f32)]) rfl rfl rfl (LOp.fap und27 rfl siz2 rfl rfl rfl) ?_
        refine ROps.l (r := AV.i64 a0) rfl rfl rfl (LOp.load1 agg2 rfl rfl) ?_
        refine ROps.l (r := AV.b false) rfl rfl rfl (LOp.eqb (LOp.lss rfl rfl rfl) hc3) ?_
        refine ROps.nil ?_
        refine RunC.cond_false rfl rfl ?_
        refine RunC.exit ?_
        cases Option.some.inj h2_
        have hx := ho2 _ rfl
        exact ⟨y2, ⟨(ALe.refl _), trivial⟩, trivial, hx⟩
    · rintro τ3 Γ3 ⟨y7, hw3, hd3, rfl⟩
      refine RunC.wl (τ' := [(4, AV.f32 y7)]) (Γ' := []) hw3 hd3 ?_
      replace h : s_TraceOf_k1 y7 = some (q0, q1) := h
      unfold s_TraceOf_k1 at h
      refine RunC.seq ?_
      obtain ⟨r8, r9, hf7, h⟩ := obind2_some h
      refine RunC.regionW ?_
      refine ROps.l (r := AV.f32 y7) rfl rfl rfl (LOp.move rfl rfl) ?_
      refine ROps.d (r := AV.tup [AV.f32 r8, AV.b r9]) (fs := []) (Γ' := []) rfl rfl rfl (TOp.callB (CallAs.func ent100 rfl rfl) (Bors.cons (Bor.pure rfl) Bors.nil) rfl rfl (s_l02Number_ok y7 r8 r9 hf7)) rfl ?_
      refine ROps.l (r := AV.f32 r8) rfl rfl rfl (LOp.extract rfl rfl rfl) ?_
      refine ROps.l (r := AV.b r9) rfl rfl rfl (LOp.extract rfl rfl rfl) ?_
      refine ROps.l (r := AV.f32 r8) rfl rfl rfl (LOp.assign rfl rfl) ?_
      refine ROps.l (r := AV.b r9) rfl rfl rfl (LOp.assign rfl rfl) ?_
      refine ROps.nil ?_
      refine RunC.ret ?_
      have hq := Option.some.inj h
      obtain ⟨hq0, hq⟩ := Prod.mk.inj hq
      subst q0
      subst q1
      exact bodyQ.pure (.inr rfl) rfl (Res.two rfl (RV.tmp rfl) (RV.tmp rfl))
  · refine RunC.regionW ?_
    refine ROps.d (r := AV.b false) (fs := []) (Γ' := []) rfl rfl rfl (TOp.eqb (TOp.callB (CallAs.func ent55 rfl rfl) (Bors.cons (Bor.ptr (Bors.cons (Bor.pure rfl) (Bors.cons (Bor.pure rfl) (Bors.cons (Bor.sl (fun _ => rfl)) Bors.nil)))) Bors.nil) rfl rfl (s_l02Square_ok a0 a1 a2 r1 hf1)) hc2) rfl ?_
    refine ROps.l (r := AV.b true) rfl rfl rfl (LOp.eqb (LOp.not rfl rfl) rfl) ?_
    refine ROps.nil ?_
    refine RunC.cond_true rfl rfl ?_
    refine RunC.seq ?_
    refine RunC.regionW ?_
    refine ROps.l (r := AV.f32 (some 0)) rfl rfl rfl (LOp.le (LOp.assign rfl rfl) (ALe.fl (by kernel_rfl) (by kernel_rfl))) ?_
    refine ROps.l (r := AV.b false) rfl rfl rfl (LOp.assign rfl rfl) ?_
    refine ROps.nil ?_
    refine RunC.ret ?_
    have hq := Option.some.inj h
    obtain ⟨hq0, hq⟩ := Prod.mk.inj hq
    subst q0
    subst q1
    exact bodyQ.pure (.inr rfl) rfl (Res.two rfl (RV.tmp rfl) (RV.tmp rfl))
noncomputable def s_l02List_0o (a0 : List F) : Option ((Bool × (List F)) ⊕ (Bool × (List F) × (List F))) :=
  obind (s_l02Finite a0) fun (r1 : Bool) =>
  bsel r1 (
    some (Sum.inl (true, a0))) (
    some (Sum.inr (false, a0, ([] : List F))))
theorem s_l02List_0o_ok0 (a0 : List F) (q0 : Bool) (q1 : List F) (h : s_l02List_0o a0 = some (Sum.inl (q0, q1))) : Ev Try.prog 64 [AV.oref 0 0 0 a0.length] [⟨0, some (a0.map AV.f32)⟩] (AV.tup [AV.oref 0 0 0 q1.length, AV.b q0]) [⟨0, some (q1.map AV.f32)⟩] := by
  refine Ev.start Try.func64 rfl rfl 1 (τ := [(0, AV.oref 0 0 0 a0.length)]) rfl (Γ' := [⟨0, some (a0.map AV.f32)⟩, ⟨0, none⟩]) rfl (n := 16) rfl (g := 1) rfl (by decide) ?_
  unfold s_l02List_0o at h
  refine RunC.seq ?_
  refine RunC.regionW ?_
  refine ROps.l (r := AV.nilsl) rfl rfl rfl (LOp.assign rfl rfl) ?_
  refine ROps.l (r := AV.b false) rfl rfl rfl (LOp.assign rfl rfl) ?_
  refine ROps.nil ?_
  refine RunC.seq ?_
  refine RunC.seq ?_
  obtain ⟨r1, hf1, h⟩ := obind_some h
  rcases bsel_some h with ⟨hc2, h⟩ | ⟨hc2, h⟩
  · refine RunC.regionW ?_
    refine ROps.l (r := AV.oref 0 0 0 a0.length) rfl rfl rfl (LOp.move rfl rfl) ?_
    refine ROps.d (r := AV.b true) (fs := []) (Γ' := [⟨0, some (a0.map AV.f32)⟩, ⟨0, none⟩]) rfl rfl rfl (TOp.eqb (TOp.callB (CallAs.func ent88 rfl rfl) (Bors.cons (Bor.own (f := AV.f32) (fun _ => rfl) rfl rfl) Bors.nil) rfl rfl (s_l02Finite_ok a0 r1 hf1)) hc2) rfl ?_
    refine ROps.l (r := AV.b false) rfl rfl rfl (LOp.eqb (LOp.not rfl rfl) rfl) ?_
    refine ROps.nil ?_
    refine RunC.cond_false rfl rfl ?_
    refine RunC.skip ?_
    refine RunC.seq ?_
    refine RunC.regionW ?_
    refine ROps.l (r := AV.oref 0 0 0 a0.length) rfl rfl rfl (LOp.move rfl rfl) ?_
    refine ROps.l (r := AV.oref 0 0 0 a0.length) rfl rfl rfl (LOp.assign rfl rfl) ?_
    refine ROps.l (r := AV.b true) rfl rfl rfl (LOp.assign rfl rfl) ?_
    refine ROps.nil ?_
    refine RunC.ret ?_
    have hq := Option.some.inj h
    have hq := Sum.inl.inj hq
    obtain ⟨hq0, hq⟩ := Prod.mk.inj hq
    subst q0
    subst q1
    exact bodyQ.mk (r' := AV.tup [AV.oref 0 0 0 a0.length, AV.b true]) [(0, 0)] (.inr rfl) rfl (show List.Nodup [0] from by decide) rfl rfl (Res.two rfl (RV.tmp rfl) (RV.tmp rfl)) (SelL.arr (f := AV.f32) (fun _ => rfl) rfl trivial)
  · refine RunC.regionW ?_
    refine ROps.l (r := AV.oref 0 0 0 a0.length) rfl rfl rfl (LOp.move rfl rfl) ?_
    refine ROps.d (r := AV.b false) (fs := []) (Γ' := [⟨0, some (a0.map AV.f32)⟩, ⟨0, none⟩]) rfl rfl rfl (TOp.eqb (TOp.callB (CallAs.func ent88 rfl rfl) (Bors.cons (Bor.own (f := AV.f32) (fun _ => rfl) rfl rfl) Bors.nil) rfl rfl (s_l02Finite_ok a0 r1 hf1)) hc2) rfl ?_
    refine ROps.l (r := AV.b true) rfl rfl rfl (LOp.eqb (LOp.not rfl rfl) rfl) ?_
    refine ROps.nil ?_
    refine RunC.cond_true rfl rfl ?_
    refine RunC.seq ?_
    refine RunC.regionW ?_
    refine ROps.l (r := AV.nilsl) rfl rfl rfl (LOp.assign rfl rfl) ?_
    refine ROps.l (r := AV.b false) rfl rfl rfl (LOp.assign rfl rfl) ?_
    refine ROps.nil ?_
    cases Option.some.inj h
theorem s_l02List_0o_ok1 (a0 : List F) (q0 : Bool) (q1 : List F) (q2 : List F) (h : s_l02List_0o a0 = some (Sum.inr (q0, q1, q2))) : Ev Try.prog 64 [AV.oref 0 0 0 a0.length] [⟨0, some (a0.map AV.f32)⟩] (AV.tup [AV.oref 1 0 0 q2.length, AV.b q0]) [⟨0, some (q1.map AV.f32)⟩, ⟨0, some (q2.map AV.f32)⟩] := by
  refine Ev.start Try.func64 rfl rfl 1 (τ := [(0, AV.oref 0 0 0 a0.length)]) rfl (Γ' := [⟨0, some (a0.map AV.f32)⟩, ⟨0, none⟩]) rfl (n := 16) rfl (g := 1) rfl (by decide) ?_
  unfold s_l02List_0o at h
  refine RunC.seq ?_
  refine RunC.regionW ?_
  refine ROps.l (r := AV.nilsl) rfl rfl rfl (LOp.assign rfl rfl) ?_
  refine ROps.l (r := AV.b false) rfl rfl rfl (LOp.assign rfl rfl) ?_
  refine ROps.nil ?_
  refine RunC.seq ?_
  refine RunC.seq ?_
  obtain ⟨r1, hf1, h⟩ := obind_some h
  rcases bsel_some h with ⟨hc2, h⟩ | ⟨hc2, h⟩
  · refine RunC.regionW ?_
    refine ROps.l (r := AV.oref 0 0 0 a0.length) rfl rfl rfl (LOp.move rfl rfl) ?_
    refine ROps.d (r := AV.b true) (fs := []) (Γ' := [⟨0, some (a0.map AV.f32)⟩, ⟨0, none⟩]) rfl rfl rfl (TOp.eqb (TOp.callB (CallAs.func ent88 rfl rfl) (Bors.cons (Bor.own (f := AV.f32) (fun _ => rfl) rfl rfl) Bors.nil) rfl rfl (s_l02Finite_ok a0 r1 hf1)) hc2) rfl ?_
    refine ROps.l (r := AV.b false) rfl rfl rfl (LOp.eqb (LOp.not rfl rfl) rfl) ?_
    refine ROps.nil ?_
    refine RunC.cond_false rfl rfl ?_
    refine RunC.skip ?_
    refine RunC.seq ?_
    refine RunC.regionW ?_
    refine ROps.l (r := AV.oref 0 0 0 a0.length) rfl rfl rfl (LOp.move rfl rfl) ?_
    refine ROps.l (r := AV.oref 0 0 0 a0.length) rfl rfl rfl (LOp.assign rfl rfl) ?_
    refine ROps.l (r := AV.b true) rfl rfl rfl (LOp.assign rfl rfl) ?_
    refine ROps.nil ?_
    cases Option.some.inj h
  · refine RunC.regionW ?_
    refine ROps.l (r := AV.oref 0 0 0 a0.length) rfl rfl rfl (LOp.move rfl rfl) ?_
    refine ROps.d (r := AV.b false) (fs := []) (Γ' := [⟨0, some (a0.map AV.f32)⟩, ⟨0, none⟩]) rfl rfl rfl (TOp.eqb (TOp.callB (CallAs.func ent88 rfl rfl) (Bors.cons (Bor.own (f := AV.f32) (fun _ => rfl) rfl rfl) Bors.nil) rfl rfl (s_l02Finite_ok a0 r1 hf1)) hc2) rfl ?_
    refine ROps.l (r := AV.b true) rfl rfl rfl (LOp.eqb (LOp.not rfl rfl) rfl) ?_
    refine ROps.nil ?_
    refine RunC.cond_true rfl rfl ?_
    refine RunC.seq ?_
    refine RunC.regionW ?_
    refine ROps.l (r := AV.nilsl) rfl rfl rfl (LOp.assign rfl rfl) ?_
    refine ROps.l (r := AV.b false) rfl rfl rfl (LOp.assign rfl rfl) ?_
    refine ROps.nil ?_
    refine RunC.nil_slot (Γ' := [⟨0, some (a0.map AV.f32)⟩, ⟨1, some (([] : List F).map AV.f32)⟩]) 2 1 rfl rfl rfl ?_
    refine RunC.ret ?_
    have hq := Option.some.inj h
    have hq := Sum.inr.inj hq
    obtain ⟨hq0, hq⟩ := Prod.mk.inj hq
    obtain ⟨hq1, hq⟩ := Prod.mk.inj hq
    subst q0
    subst q1
    subst q2
    exact bodyQ.mk (r' := AV.tup [AV.oref 1 1 0 (([] : List F).length), AV.b false]) [(0, 0), (1, 1)] (.inr rfl) rfl (show List.Nodup [0, 1] from by decide) rfl rfl (Res.eq (Res.two rfl (RV.tmp rfl) (RV.tmp rfl)) (by rw [(show ([] : List F).length = 0 from rfl)] <;> rfl)) (SelL.arr (f := AV.f32) (fun _ => rfl) rfl (SelL.arr0 (f := AV.f32) (fun _ => rfl) rfl trivial))
noncomputable def s_SignsOf_k6 (L11 : List F) (v14 : Int) (L39 : List F) (v40 : Int) (v41 : Int) (y47 : F) : Option (LR ((List F) × (List F) × Int × Int × Int) ((List F)) (Bool × (List F))) :=
  need (apok 4 L11.length 1) <|
  olet (IntKind.i64.wrap (v14 + 1)) fun (x48 : Int) =>
  some (LR.next (L39, (L11 ++ ([y47] : List F)), v40, v41, x48))
noncomputable def s_SignsOf_k5 (L11 : List F) (v14 : Int) (L39 : List F) (v40 : Int) (v41 : Int) : Option (LR ((List F) × (List F) × Int × Int × Int) ((List F)) (Bool × (List F))) :=
  obind2 (s_TraceOf v40 v41 L39) fun (r42 : F) (r43 : Bool) =>
  bsel r43 (
    olet (fneg .f32 r42) fun (x44 : F) =>
    bsel (decide (1 < v14)) (
      olet (fint .f32 v14) fun (x45 : F) =>
      olet (fop .quo .f32 x44 x45) fun (x46 : F) =>
      s_SignsOf_k6 L11 v14 L39 v40 v41 x46) (
      s_SignsOf_k6 L11 v14 L39 v40 v41 x44)) (
    some (LR.ret (false, ([] : List F))))
noncomputable def s_SignsOf_b4 (a0 : Int) (L11 : List F) (v14 : Int) (L15 : List F) (v17 : Int) : Option (LR ((List F) × Int) ((List F)) (Bool × (List F))) :=
  bsel (decide (v17 < a0)) (
    olet (IntKind.i64.wrap (v17 * a0)) fun (x18 : Int) =>
    olet (IntKind.i64.wrap (x18 + v17)) fun (x19 : Int) =>
    olet (IntKind.i64.wrap (v17 * a0)) fun (x20 : Int) =>
    olet (IntKind.i64.wrap (x20 + v17)) fun (x21 : Int) =>
    obind (at? L15 x21) fun (e22 : F) =>
    olet (IntKind.i64.wrap (v14 - 2)) fun (x23 : Int) =>
    obind (at? L11 x23) fun (e24 : F) =>
    olet (fop .add .f32 e22 e24) fun (x25 : F) =>
    obind (setAt? L15 x19 x25) fun (L26 : List F) =>
    olet (IntKind.i64.wrap (v17 + 1)) fun (x27 : Int) =>
    some (LR.next (L26, x27))) (
    some (LR.out L15))
noncomputable def s_SignsOf_s4 (a0 : Int) (L11 : List F) (v14 : Int) : ((List F) × Int) → Option (LR ((List F) × Int) ((List F)) (Bool × (List F))) := fun s => s_SignsOf_b4 a0 L11 v14 s.1 s.2
noncomputable def s_SignsOf_k4 (a0 : Int) (a1 : Int) (a2 : List F) (L11 : List F) (v12 : Int) (v13 : Int) (v14 : Int) (L28 : List F) : Option (LR ((List F) × (List F) × Int × Int × Int) ((List F)) (Bool × (List F))) :=
  obind4 (s_MulMatrices a0 a1 a2 v12 v13 L28) fun (r30 : Int) (r31 : Int) (r32 : Bool) (r33 : List F) =>
  bsel r32 (
    s_SignsOf_k5 L11 v14 r33 r30 r31) (
    some (LR.ret (false, ([] : List F))))
noncomputable def s_SignsOf_b7 (a0 : Int) (a1 : Int) (a2 : List F) (L10 : List F) (L11 : List F) (v12 : Int) (v13 : Int) (v14 : Int) : Option (LR ((List F) × (List F) × Int × Int × Int) ((List F)) (Bool × (List F))) :=
  bsel (decide (v14 ≤ a0)) (
    bsel (decide (1 < v14)) (
      obind (loopM (s_SignsOf_s4 a0 L11 v14) (L10, 0)) fun z => osum z (fun e => s_SignsOf_k4 a0 a1 a2 L11 v12 v13 v14 e) (fun r => some (LR.ret r))) (
      s_SignsOf_k5 L11 v14 L10 v12 v13)) (
    some (LR.out L11))
noncomputable def s_SignsOf_s7 (a0 : Int) (a1 : Int) (a2 : List F) : ((List F) × (List F) × Int × Int × Int) → Option (LR ((List F) × (List F) × Int × Int × Int) ((List F)) (Bool × (List F))) := fun s => s_SignsOf_b7 a0 a1 a2 s.1 s.2.1 s.2.2.1 s.2.2.2.1 s.2.2.2.2
noncomputable def s_SignsOf_k7 (L54 : List F) : Option (Bool × (List F)) :=
  obind (s_l02List_0o L54) (fun z => osum z (fun y => obind2 (some y) fun (r55 : Bool) (r56 : List F) =>
    need (decide (r56.length = L54.length)) <|
    some (r55, r56)) (fun y => obind3 (some y) fun (r57 : Bool) (r58 : List F) (r59 : List F) =>
    need (decide (r58.length = L54.length)) <|
    some (r57, r59)))
noncomputable def s_SignsOf (a0 : Int) (a1 : Int) (a2 : List F) : Option (Bool × (List F)) :=
  obind (s_l02Square a0 a1 a2) fun (r1 : Bool) =>
  bsel r1 (
    obind3 (s_l02Own a0 a1 a2) fun (r2 : Int) (r3 : Int) (r4 : List F) =>
    obind (loopM (s_SignsOf_s7 a0 a1 a2) (r4, ([] : List F), r2, r3, 1)) fun z => osum z (fun e => s_SignsOf_k7 e) (fun r => some r)) (
    some (false, ([] : List F)))
theorem s_SignsOf_ok (a0 : Int) (a1 : Int) (a2 : List F) (q0 : Bool) (q1 : List F) (h : s_SignsOf a0 a1 a2 = some (q0, q1)) : Ev Try.prog 22 [AV.agg [AV.i64 a0, AV.i64 a1, AV.sl a2.length (a2.map AV.f32)]] [] (AV.tup [AV.oref 0 0 0 q1.length, AV.b q0]) [⟨0, some (q1.map AV.f32)⟩] := by
  refine Ev.start Try.func22 rfl rfl 6 (τ := [(0, AV.agg [AV.i64 a0, AV.i64 a1, AV.sl a2.length (a2.map AV.f32)])]) rfl (Γ' := [⟨0, none⟩, ⟨0, none⟩, ⟨0, none⟩, ⟨0, none⟩, ⟨0, none⟩, ⟨0, none⟩]) rfl (n := 177) rfl (g := 0) rfl (fun _ => rfl) ?_
  unfold s_SignsOf at h
  refine RunC.seq ?_
  refine RunC.regionW ?_
  refine ROps.d (r := AV.ptr [AV.i64 a0, AV.i64 a1, AV.sl a2.length (a2.map AV.f32)]) (fs := []) (Γ' := [⟨0, none⟩, ⟨0, none⟩, ⟨0, none⟩, ⟨0, none⟩, ⟨0, none⟩, ⟨0, none⟩]) rfl rfl rfl (TOp.box_s rfl rfl rfl) rfl ?_
  refine ROps.l (r := AV.nilsl) rfl rfl rfl (LOp.assign rfl rfl) ?_
  refine ROps.l (r := AV.b false) rfl rfl rfl (LOp.assign rfl rfl) ?_
  refine ROps.nil ?_
  refine RunC.seq ?_
  refine RunC.seq ?_
  obtain ⟨r1, hf1, h⟩ := obind_some h
  rcases bsel_some h with ⟨hc2, h⟩ | ⟨hc2, h⟩
  · refine RunC.regionW ?_
    refine ROps.d (r := AV.b true) (fs := []) (Γ' := [⟨0, none⟩, ⟨0, none⟩, ⟨0, none⟩, ⟨0, none⟩, ⟨0, none⟩, ⟨0, none⟩]) rfl rfl rfl (TOp.eqb (TOp.callB (CallAs.func ent55 rfl rfl) (Bors.cons (Bor.ptr (Bors.cons (Bor.pure rfl) (Bors.cons (Bor.pure rfl) (Bors.cons (Bor.sl (fun _ => rfl)) Bors.nil)))) Bors.nil) rfl rfl (s_l02Square_ok a0 a1 a2 r1 hf1)) hc2) rfl ?_
    refine ROps.l (r := AV.b false) rfl rfl rfl (LOp.eqb (LOp.not rfl rfl) rfl) ?_
    refine ROps.nil ?_
    refine RunC.cond_false rfl rfl ?_
    refine RunC.skip ?_
    refine RunC.seq ?_
    obtain ⟨r2, r3, r4, hf3, h⟩ := obind3_some h
    refine RunC.regionW ?_
    refine ROps.d (r := AV.agg [AV.i64 r2, AV.i64 r3, AV.oref 0 1 0 r4.length]) (fs := [(0, (r4.map AV.f32))]) (Γ' := [⟨1, some (r4.map AV.f32)⟩, ⟨0, none⟩, ⟨0, none⟩, ⟨0, none⟩, ⟨0, none⟩, ⟨0, none⟩]) rfl rfl rfl (TOp.callBN (ls := [(r4.map AV.f32)]) [0] (CallAs.func ent40 rfl rfl) (Bors.cons (Bor.ptr (Bors.cons (Bor.pure rfl) (Bors.cons (Bor.pure rfl) (Bors.cons (Bor.sl (fun _ => rfl)) Bors.nil)))) Bors.nil) rfl (s_l02Own_ok a0 a1 a2 r2 r3 r4 hf3) (and_all (lts0_map (f := AV.f32) (fun _ => rfl) _) rfl) (and_all (noss_map (f := AV.f32) (fun _ => rfl) _) rfl) rfl (by decide) (ns_of ⟨⟨_, rfl⟩, trivial⟩)) rfl ?_
    refine ROps.d (r := AV.optr 1 1 0) (fs := [(1, [AV.i64 0, AV.i64 0, AV.nilsl])]) (Γ' := [⟨1, some (r4.map AV.f32)⟩, ⟨1, some [AV.i64 0, AV.i64 0, AV.nilsl]⟩, ⟨0, none⟩, ⟨0, none⟩, ⟨0, none⟩, ⟨0, none⟩]) rfl rfl rfl (TOp.alloc_o (g := ⟨0, none⟩) 1 rfl zer27 zok27 rfl) rfl ?_
    refine ROps.store_le (r := AV.agg [AV.i64 r2, AV.i64 r3, AV.oref 0 1 0 r4.length]) (l' := [AV.i64 r2, AV.i64 r3, AV.oref 0 1 0 r4.length]) (Γ' := [⟨1, some (r4.map AV.f32)⟩, ⟨1, some [AV.i64 r2, AV.i64 r3, AV.oref 0 1 0 r4.length]⟩, ⟨0, none⟩, ⟨0, none⟩, ⟨0, none⟩, ⟨0, none⟩]) rfl siz27 rfl rfl rfl (ALe.refl _) rfl rfl rfl rfl (Nat.le_of_ble_eq_true rfl) rfl rfl ?_
    refine ROps.nil ?_
    refine RunC.seq ?_
    refine RunC.regionW ?_
    refine ROps.d (r := AV.oref 2 1 0 0) (fs := [(2, (([] : List F).map AV.f32))]) (Γ' := [⟨1, some (r4.map AV.f32)⟩, ⟨1, some [AV.i64 r2, AV.i64 r3, AV.oref 0 1 0 r4.length]⟩, ⟨1, some (([] : List F).map AV.f32)⟩, ⟨0, none⟩, ⟨0, none⟩, ⟨0, none⟩]) rfl rfl rfl (TOp.buildSlice_o (g := ⟨0, none⟩) (za := AV.f32 (some 0)) (qs := []) 2 rfl und22 siz25 zer25 rfl zel25 rfl rfl trivial rfl) rfl ?_
    refine ROps.l (r := AV.oref 2 1 0 0) rfl rfl rfl (LOp.assign rfl rfl) ?_
    refine ROps.nil ?_
    refine RunC.seq ?_
    refine RunC.seq ?_
    refine RunC.regionW ?_
    refine ROps.l (r := AV.i64 1) rfl rfl rfl (LOp.assign rfl rfl) ?_
    refine ROps.nil ?_
    obtain ⟨z8, hz_8, h⟩ := obind_some h
    refine RunC.cutN (fun τ Γ => ∃ (L54 : List F) (u49 : Nat) (u50 : Nat) (u51 : Nat) (u52 : Nat) (u53 : Nat), Le 177 τ Γ [(5, AV.oref 2 u51 0 L54.length)] [⟨u49, none⟩, ⟨u50, none⟩, ⟨u51, some (L54.map AV.f32)⟩, ⟨u52, none⟩, ⟨u53, none⟩, ⟨0, none⟩] ∧ z8 = .inl L54) ?_ ?_
    · refine RunC.block (RunC.loop (RunL.loopM (x := z8) (s_SignsOf_s7 a0 a1 a2) (fun (s : (List F) × (List F) × Int × Int × Int) τ Γ => ∃ (u5 : Nat) (u6 : Nat) (u7 : Nat) (u8 : Nat) (u9 : Nat), Le 177 τ Γ [(1, AV.ptr [AV.i64 a0, AV.i64 a1, AV.sl a2.length (a2.map AV.f32)]), (4, AV.optr 1 u6 0), (5, AV.oref 2 u7 0 s.2.1.length), (6, AV.i64 s.2.2.2.2)] [⟨u5, some (s.1.map AV.f32)⟩, ⟨u6, some [AV.i64 s.2.2.1, AV.i64 s.2.2.2.1, AV.oref 0 u5 0 s.1.length]⟩, ⟨u7, some (s.2.1.map AV.f32)⟩, ⟨u8, none⟩, ⟨u9, none⟩, ⟨0, none⟩]) ?_ _ _ _ hz_8 ⟨1, 1, 1, 0, 0, (Le.of ⟨(ALe.refl _), (ALe.refl _), (ALe.refl _), (ALe.refl _), trivial⟩ ⟨⟨rfl, .inr rfl⟩, ⟨rfl, .inr (by first | rfl | simp)⟩, ⟨rfl, .inr rfl⟩, ⟨rfl, .inl rfl⟩, ⟨rfl, .inl rfl⟩, ⟨rfl, .inr rfl⟩, trivial⟩)⟩))
      rintro ⟨L10, L11, v12, v13, v14⟩ τ8 Γ8 y8_ ⟨u5, u6, u7, u8, u9, hw8⟩ h8_ ho8 hr8
      refine RunC.le (τ' := [(1, AV.ptr [AV.i64 a0, AV.i64 a1, AV.sl a2.length (a2.map AV.f32)]), (4, AV.optr 1 u6 0), (5, AV.oref 2 u7 0 L11.length), (6, AV.i64 v14)]) (Γ' := [⟨u5, some (L10.map AV.f32)⟩, ⟨u6, some [AV.i64 v12, AV.i64 v13, AV.oref 0 u5 0 L10.length]⟩, ⟨u7, some (L11.map AV.f32)⟩, ⟨u8, none⟩, ⟨u9, none⟩, ⟨0, none⟩]) hw8 ?_
      replace h8_ : s_SignsOf_b7 a0 a1 a2 L10 L11 v12 v13 v14 = some y8_ := h8_
      unfold s_SignsOf_b7 at h8_
      refine RunC.seq ?_
      refine RunC.seq ?_
      rcases bsel_some h8_ with ⟨hc4, h8_⟩ | ⟨hc4, h8_⟩
      · refine RunC.regionW ?_
        refine ROps.l (r := AV.i64 v14) rfl rfl rfl (LOp.move rfl rfl) ?_
        refine ROps.l (r := AV.ptr [AV.i64 a0, AV.i64 a1, AV.sl a2.length (a2.map AV.f32)]) rfl rfl rfl (LOp.fap und27 rfl siz2 rfl rfl rfl) ?_
        refine ROps.l (r := AV.i64 a0) rfl rfl rfl (LOp.load1 agg2 rfl rfl) ?_
        refine ROps.l (r := AV.b true) rfl rfl rfl (LOp.eqb (LOp.leq rfl rfl rfl) hc4) ?_
        refine ROps.nil ?_
        refine RunC.cond_true rfl rfl ?_
        refine RunC.skip ?_
        refine RunC.seq ?_
        refine RunC.block ?_
        refine RunC.seq ?_
        refine RunC.cutN (fun τ Γ => ∃ (L39 : List F) (v40 : Int) (v41 : Int) (u34 : Nat) (u35 : Nat) (u36 : Nat) (u37 : Nat) (u38 : Nat), Le 177 τ Γ [(1, AV.ptr [AV.i64 a0, AV.i64 a1, AV.sl a2.length (a2.map AV.f32)]), (4, AV.optr 1 u35 0), (5, AV.oref 2 u36 0 L11.length), (6, AV.i64 v14)] [⟨u34, none⟩, ⟨u35, some [AV.i64 v40, AV.i64 v41, AV.oref 3 u37 0 L39.length]⟩, ⟨u36, some (L11.map AV.f32)⟩, ⟨u37, some (L39.map AV.f32)⟩, ⟨u38, none⟩, ⟨0, none⟩] ∧ s_SignsOf_k5 L11 v14 L39 v40 v41 = some y8_) ?_ ?_
        · refine RunC.seq ?_
          rcases bsel_some h8_ with ⟨hc5, h8_⟩ | ⟨hc5, h8_⟩
          · refine RunC.regionW ?_
            refine ROps.l (r := AV.i64 v14) rfl rfl rfl (LOp.move rfl rfl) ?_
            refine ROps.l (r := AV.b true) rfl rfl rfl (LOp.eqb (LOp.gtr rfl rfl rfl) hc5) ?_
            refine ROps.nil ?_
            refine RunC.cond_true rfl rfl ?_
            refine RunC.seq ?_
            refine RunC.seq ?_
            refine RunC.regionW ?_
            refine ROps.l (r := AV.i64 0) rfl rfl rfl (LOp.assign rfl rfl) ?_
            refine ROps.nil ?_
            obtain ⟨z9, hz_9, h8_⟩ := obind_some h8_
            refine RunC.cutN (fun τ Γ => ∃ (L28 : List F), L28.length = L10.length ∧ Le 177 τ Γ [(1, AV.ptr [AV.i64 a0, AV.i64 a1, AV.sl a2.length (a2.map AV.f32)]), (4, AV.optr 1 u6 0), (5, AV.oref 2 u7 0 L11.length), (6, AV.i64 v14)] [⟨u5, some (L28.map AV.f32)⟩, ⟨u6, some [AV.i64 v12, AV.i64 v13, AV.oref 0 u5 0 L10.length]⟩, ⟨u7, some (L11.map AV.f32)⟩, ⟨u8, none⟩, ⟨u9, none⟩, ⟨0, none⟩] ∧ z9 = .inl L28) ?_ ?_
            · refine RunC.block (RunC.loop (RunL.loopM (x := z9) (s_SignsOf_s4 a0 L11 v14) (fun (s : (List F) × Int) τ Γ => s.1.length = L10.length ∧ Le 177 τ Γ [(1, AV.ptr [AV.i64 a0, AV.i64 a1, AV.sl a2.length (a2.map AV.f32)]), (4, AV.optr 1 u6 0), (5, AV.oref 2 u7 0 L11.length), (6, AV.i64 v14), (7, AV.i64 s.2)] [⟨u5, some (s.1.map AV.f32)⟩, ⟨u6, some [AV.i64 v12, AV.i64 v13, AV.oref 0 u5 0 L10.length]⟩, ⟨u7, some (L11.map AV.f32)⟩, ⟨u8, none⟩, ⟨u9, none⟩, ⟨0, none⟩]) ?_ _ _ _ hz_9 ⟨rfl, (Le.of ⟨(ALe.refl _), (ALe.refl _), (ALe.refl _), (ALe.refl _), (ALe.refl _), trivial⟩ ⟨⟨rfl, .inr rfl⟩, ⟨rfl, .inr rfl⟩, ⟨rfl, .inr rfl⟩, ⟨rfl, .inl rfl⟩, ⟨rfl, .inl rfl⟩, ⟨rfl, .inr rfl⟩, trivial⟩)⟩))
              rintro ⟨L15, v17⟩ τ9 Γ9 y9_ ⟨hl16, hw9⟩ h9_ ho9 hr9
              refine RunC.le (τ' := [(1, AV.ptr [AV.i64 a0, AV.i64 a1, AV.sl a2.length (a2.map AV.f32)]), (4, AV.optr 1 u6 0), (5, AV.oref 2 u7 0 L11.length), (6, AV.i64 v14), (7, AV.i64 v17)]) (Γ' := [⟨u5, some (L15.map AV.f32)⟩, ⟨u6, some [AV.i64 v12, AV.i64 v13, AV.oref 0 u5 0 L10.length]⟩, ⟨u7, some (L11.map AV.f32)⟩, ⟨u8, none⟩, ⟨u9, none⟩, ⟨0, none⟩]) hw9 ?_
              replace hl16 : L15.length = L10.length := hl16
              replace h9_ : s_SignsOf_b4 a0 L11 v14 L15 v17 = some y9_ := h9_
              unfold s_SignsOf_b4 at h9_
              refine RunC.seq ?_
              refine RunC.seq ?_
              rcases bsel_some h9_ with ⟨hc6, h9_⟩ | ⟨hc6, h9_⟩
              · refine RunC.regionW ?_
                refine ROps.l (r := AV.i64 v17) rfl rfl rfl (LOp.move rfl rfl) ?_
                refine ROps.l (r := AV.ptr [AV.i64 a0, AV.i64 a1, AV.sl a2.length (a2.map AV.f32)]) rfl rfl rfl (LOp.fap und27 rfl siz2 rfl rfl rfl) ?_
                refine ROps.l (r := AV.i64 a0) rfl rfl rfl (LOp.load1 agg2 rfl rfl) ?_
                refine ROps.l (r := AV.b true) rfl rfl rfl (LOp.eqb (LOp.lss rfl rfl rfl) hc6) ?_
                refine ROps.nil ?_
                refine RunC.cond_true rfl rfl ?_
                refine RunC.skip ?_
                refine RunC.seq ?_
                refine RunC.block ?_
                obtain ⟨x18, hx7, h9_⟩ := olet_some h9_
                obtain ⟨x19, hx8, h9_⟩ := olet_some h9_
                obtain ⟨x20, hx9, h9_⟩ := olet_some h9_
                obtain ⟨x21, hx10, h9_⟩ := olet_some h9_
                obtain ⟨e22, he11, h9_⟩ := obind_some h9_
                obtain ⟨x23, hx12, h9_⟩ := olet_some h9_
                obtain ⟨e24, he13, h9_⟩ := obind_some h9_
                obtain ⟨x25, hx14, h9_⟩ := olet_some h9_
                obtain ⟨L26, he15, h9_⟩ := obind_some h9_
                refine RunC.region_draw (Γ' := [⟨u5, some (L15.map AV.f32)⟩, ⟨u6, some [AV.i64 v12, AV.i64 v13, AV.oref 0 u5 0 L10.length]⟩, ⟨u7, some (L11.map AV.f32)⟩, ⟨u8, none⟩, ⟨u9, none⟩, ⟨0, none⟩]) 25 mixed 
                  (TR.l (r := AV.optr 1 u6 2) rfl rfl (LOp.fao und27 rfl siz22 rfl rfl rfl) <|
                  (TR.d (r := AV.oref 0 u5 0 L10.length) (fs := []) rfl rfl (TOp.load1_o rfl rfl agg22 rfl rfl) <|
                  (TR.l (r := AV.i64 v17) rfl rfl (LOp.move rfl rfl) <|
                  (TR.l (r := AV.ptr [AV.i64 a0, AV.i64 a1, AV.sl a2.length (a2.map AV.f32)]) rfl rfl (LOp.fap und27 rfl siz2 rfl rfl rfl) <|
                  (TR.l (r := AV.i64 a0) rfl rfl (LOp.load1 agg2 rfl rfl) <|
                  (TR.l (r := AV.i64 x18) rfl rfl (LOp.eqr (LOp.mul rfl rfl rfl) (congrArg (AV.ik .i64) hx7)) <|
                  (TR.l (r := AV.i64 v17) rfl rfl (LOp.move rfl rfl) <|
                  (TR.l (r := AV.i64 x19) rfl rfl (LOp.eqr (LOp.add rfl rfl rfl) (congrArg (AV.ik .i64) hx8)) <|
                  (TR.l (r := AV.optr 1 u6 2) rfl rfl (LOp.fao und27 rfl siz22 rfl rfl rfl) <|
                  (TR.d (r := AV.oref 0 u5 0 L10.length) (fs := []) rfl rfl (TOp.load1_o rfl rfl agg22 rfl rfl) <|
                  (TR.l (r := AV.i64 v17) rfl rfl (LOp.move rfl rfl) <|
                  (TR.l (r := AV.ptr [AV.i64 a0, AV.i64 a1, AV.sl a2.length (a2.map AV.f32)]) rfl rfl (LOp.fap und27 rfl siz2 rfl rfl rfl) <|
                  (TR.l (r := AV.i64 a0) rfl rfl (LOp.load1 agg2 rfl rfl) <|
                  (TR.l (r := AV.i64 x20) rfl rfl (LOp.eqr (LOp.mul rfl rfl rfl) (congrArg (AV.ik .i64) hx9)) <|
                  (TR.l (r := AV.i64 v17) rfl rfl (LOp.move rfl rfl) <|
                  (TR.l (r := AV.i64 x21) rfl rfl (LOp.eqr (LOp.add rfl rfl rfl) (congrArg (AV.ik .i64) hx10)) <|
                  (TR.d (r := AV.optr 0 u5 x21.toNat) (fs := []) rfl rfl (TOp.ixo und22 siz25 rfl rfl rfl (at_in he11 hl16) rfl) <|
                  (TR.d (r := AV.f32 e22) (fs := []) rfl rfl (TOp.load1_o rfl (at_cell he11) agg25 rfl rfl) <|
                  (TR.l (r := AV.oref 2 u7 0 L11.length) rfl rfl (LOp.move rfl rfl) <|
                  (TR.l (r := AV.i64 v14) rfl rfl (LOp.move rfl rfl) <|
                  (TR.l (r := AV.i64 x23) rfl rfl (LOp.eqr (LOp.sub rfl rfl rfl) (congrArg (AV.ik .i64) hx12)) <|
                  (TR.d (r := AV.optr 2 u7 x23.toNat) (fs := []) rfl rfl (TOp.ixo und22 siz25 rfl rfl rfl (at_in he13 rfl) rfl) <|
                  (TR.d (r := AV.f32 e24) (fs := []) rfl rfl (TOp.load1_o rfl (at_cell he13) agg25 rfl rfl) <|
                  (TR.d (r := AV.f32 x25) (fs := []) rfl rfl (TOp.eqr (TOp.fop (.inl rfl) rfl (OpF.tmp rfl) (OpF.tmp rfl)) (congrArg (AV.f .f32) hx14)) <|
                  (TR.d (r := AV.optr 0 u5 x19.toNat) (fs := []) rfl rfl (TOp.ixo und22 siz25 rfl rfl rfl (set_in he15 hl16) rfl) <|
                  TR.nil))))))))))))))))))))))))) rfl (by kernel_rfl) rfl fills_nil rfl ?_
                iterate 25 refine ROps.dropS ?_
                refine ROps.drop0 ?_
                refine ROps.st (f := AV.f32) (i := x19) (Γ' := [⟨u5, some (L26.map AV.f32)⟩, ⟨u6, some [AV.i64 v12, AV.i64 v13, AV.oref 0 u5 0 L10.length]⟩, ⟨u7, some (L11.map AV.f32)⟩, ⟨u8, none⟩, ⟨u9, none⟩, ⟨0, none⟩]) rfl siz25 rfl rfl rfl (ALe.refl _) rfl rfl rfl he15 rfl ?_
                refine ROps.nil ?_
                refine RunC.wl (τ' := [(1, AV.ptr [AV.i64 a0, AV.i64 a1, AV.sl a2.length (a2.map AV.f32)]), (4, AV.optr 1 u6 0), (5, AV.oref 2 u7 0 L11.length), (6, AV.i64 v14), (7, AV.i64 v17)]) (Γ' := [⟨u5, some (L26.map AV.f32)⟩, ⟨u6, some [AV.i64 v12, AV.i64 v13, AV.oref 0 u5 0 L10.length]⟩, ⟨u7, some (L11.map AV.f32)⟩, ⟨u8, none⟩, ⟨u9, none⟩, ⟨0, none⟩]) ⟨(ALe.refl _), (ALe.refl _), (ALe.refl _), (ALe.refl _), (ALe.refl _), trivial⟩ ⟨⟨rfl, .inr rfl⟩, ⟨rfl, .inr rfl⟩, ⟨rfl, .inr rfl⟩, ⟨rfl, .inl rfl⟩, ⟨rfl, .inl rfl⟩, ⟨rfl, .inr rfl⟩, trivial⟩ ?_
                obtain ⟨x27, hx16, h9_⟩ := olet_some h9_
                refine RunC.regionW ?_
                refine ROps.l (r := AV.i64 v17) rfl rfl rfl (LOp.move rfl rfl) ?_
                refine ROps.l (r := AV.i64 x27) rfl rfl rfl (LOp.eqr (LOp.add rfl rfl rfl) (congrArg (AV.ik .i64) hx16)) ?_
                refine ROps.l (r := AV.i64 x27) rfl rfl rfl (LOp.assign rfl rfl) ?_
                refine ROps.nil ?_
                cases Option.some.inj h9_
                exact ⟨_, rfl, ((setAt?_len he15).trans hl16), (Le.of ⟨(ALe.refl _), (ALe.refl _), (ALe.refl _), (ALe.refl _), (ALe.refl _), trivial⟩ ⟨⟨rfl, .inr rfl⟩, ⟨rfl, .inr rfl⟩, ⟨rfl, .inr rfl⟩, ⟨rfl, .inl rfl⟩, ⟨rfl, .inl rfl⟩, ⟨rfl, .inr rfl⟩, trivial⟩)⟩
              · refine RunC.regionW ?_
                refine ROps.l (r := AV.i64 v17) rfl rfl rfl (LOp.move rfl rfl) ?_
                refine ROps.l (r := AV.ptr [AV.i64 a0, AV.i64 a1, AV.sl a2.length (a2.map AV.f32)]) rfl rfl rfl (LOp.fap und27 rfl siz2 rfl rfl rfl) ?_
                refine ROps.l (r := AV.i64 a0) rfl rfl rfl (LOp.load1 agg2 rfl rfl) ?_
                refine ROps.l (r := AV.b false) rfl rfl rfl (LOp.eqb (LOp.lss rfl rfl rfl) hc6) ?_
                refine ROps.nil ?_
                refine RunC.cond_false rfl rfl ?_
                refine RunC.exit ?_
                cases Option.some.inj h9_
                have hx := ho9 _ rfl
                exact ⟨L15, hl16, (Le.of ⟨(ALe.refl _), (ALe.refl _), (ALe.refl _), (ALe.refl _), trivial⟩ ⟨⟨rfl, .inr rfl⟩, ⟨rfl, .inr rfl⟩, ⟨rfl, .inr rfl⟩, ⟨rfl, .inl rfl⟩, ⟨rfl, .inl rfl⟩, ⟨rfl, .inr rfl⟩, trivial⟩), hx⟩
            · rintro τ10 Γ10 ⟨L28, hl29, hw10, rfl⟩
              refine RunC.le (τ' := [(1, AV.ptr [AV.i64 a0, AV.i64 a1, AV.sl a2.length (a2.map AV.f32)]), (4, AV.optr 1 u6 0), (5, AV.oref 2 u7 0 L11.length), (6, AV.i64 v14)]) (Γ' := [⟨u5, some (L28.map AV.f32)⟩, ⟨u6, some [AV.i64 v12, AV.i64 v13, AV.oref 0 u5 0 L10.length]⟩, ⟨u7, some (L11.map AV.f32)⟩, ⟨u8, none⟩, ⟨u9, none⟩, ⟨0, none⟩]) hw10 ?_
              replace h8_ : s_SignsOf_k4 a0 a1 a2 L11 v12 v13 v14 L28 = some y8_ := h8_
              unfold s_SignsOf_k4 at h8_
              refine RunC.seq ?_
              obtain ⟨r30, r31, r32, r33, hf17, h8_⟩ := obind4_some h8_
              rcases bsel_some h8_ with ⟨hc18, h8_⟩ | ⟨hc18, h8_⟩
              · refine RunC.regionW ?_
                refine ROps.l (r := AV.agg [AV.i64 a0, AV.i64 a1, AV.sl a2.length (a2.map AV.f32)]) rfl rfl rfl (LOp.loadAgg agg27 siz27 rfl rfl rfl rfl) ?_
                refine ROps.d (r := AV.agg [AV.i64 v12, AV.i64 v13, AV.oref 0 u5 0 L10.length]) (fs := []) (Γ' := [⟨u5, some (L28.map AV.f32)⟩, ⟨u6, some [AV.i64 v12, AV.i64 v13, AV.oref 0 u5 0 L10.length]⟩, ⟨u7, some (L11.map AV.f32)⟩, ⟨u8, none⟩, ⟨u9, none⟩, ⟨0, none⟩]) rfl rfl rfl (TOp.loadAgg_o rfl agg27 siz27 rfl rfl rfl rfl) rfl ?_
                refine ROps.d (r := AV.tup [AV.agg [AV.i64 r30, AV.i64 r31, AV.oref 3 (u8 + 1) 0 r33.length], AV.b r32]) (fs := [(3, (r33.map AV.f32))]) (Γ' := [⟨u5, some (L28.map AV.f32)⟩, ⟨u6, some [AV.i64 v12, AV.i64 v13, AV.oref 0 u5 0 L10.length]⟩, ⟨u7, some (L11.map AV.f32)⟩, ⟨(u8 + 1), some (r33.map AV.f32)⟩, ⟨u9, none⟩, ⟨0, none⟩]) rfl rfl rfl (TOp.eqr (TOp.callBN (ls := [(r33.map AV.f32)]) [3] (CallAs.func ent62 rfl rfl) (Bors.cons (Bor.agg (Bors.cons (Bor.pure rfl) (Bors.cons (Bor.pure rfl) (Bors.cons (Bor.sl (fun _ => rfl)) Bors.nil)))) (Bors.cons (Bor.agg (Bors.cons (Bor.pure rfl) (Bors.cons (Bor.pure rfl) (Bors.cons (Bor.own (f := AV.f32) (fun _ => rfl) rfl hl29) Bors.nil)))) Bors.nil)) rfl (s_MulMatrices_ok a0 a1 a2 v12 v13 L28 r30 r31 r32 r33 hf17) (and_all (lts0_map (f := AV.f32) (fun _ => rfl) _) rfl) (and_all (noss_map (f := AV.f32) (fun _ => rfl) _) rfl) rfl (by decide) (ns_of ⟨⟨_, rfl⟩, trivial⟩)) (by simp [AV.ren, AV.rens, sigma, newNames])) rfl ?_
                refine ROps.l (r := AV.tup [AV.agg [AV.i64 r30, AV.i64 r31, AV.oref 3 (u8 + 1) 0 r33.length], AV.b r32]) rfl rfl rfl (LOp.move rfl rfl) ?_
                refine ROps.l (r := AV.agg [AV.i64 r30, AV.i64 r31, AV.oref 3 (u8 + 1) 0 r33.length]) rfl rfl rfl (LOp.extract rfl rfl rfl) ?_
                refine ROps.l (r := AV.b true) rfl rfl rfl (LOp.eqb (LOp.extract rfl rfl rfl) hc18) ?_
                refine ROps.d (r := AV.optr 4 (u9 + 1) 0) (fs := [(4, [AV.i64 0, AV.i64 0, AV.nilsl])]) (Γ' := [⟨u5, some (L28.map AV.f32)⟩, ⟨u6, some [AV.i64 v12, AV.i64 v13, AV.oref 0 u5 0 L10.length]⟩, ⟨u7, some (L11.map AV.f32)⟩, ⟨(u8 + 1), some (r33.map AV.f32)⟩, ⟨(u9 + 1), some [AV.i64 0, AV.i64 0, AV.nilsl]⟩, ⟨0, none⟩]) rfl rfl rfl (TOp.alloc_o (g := ⟨u9, none⟩) 4 rfl zer27 zok27 rfl) rfl ?_
                refine ROps.store_le (r := AV.agg [AV.i64 r30, AV.i64 r31, AV.oref 3 (u8 + 1) 0 r33.length]) (l' := [AV.i64 r30, AV.i64 r31, AV.oref 3 (u8 + 1) 0 r33.length]) (Γ' := [⟨u5, some (L28.map AV.f32)⟩, ⟨u6, some [AV.i64 v12, AV.i64 v13, AV.oref 0 u5 0 L10.length]⟩, ⟨u7, some (L11.map AV.f32)⟩, ⟨(u8 + 1), some (r33.map AV.f32)⟩, ⟨(u9 + 1), some [AV.i64 r30, AV.i64 r31, AV.oref 3 (u8 + 1) 0 r33.length]⟩, ⟨0, none⟩]) rfl siz27 rfl rfl rfl (ALe.refl _) rfl rfl rfl rfl (Nat.le_of_ble_eq_true rfl) rfl rfl ?_
                refine ROps.l (r := AV.b true) rfl rfl rfl (LOp.assign rfl rfl) ?_
                refine ROps.nil ?_
                refine RunC.seq ?_
                refine RunC.seq ?_
                refine RunC.regionW ?_
                refine ROps.l (r := AV.b true) rfl rfl rfl (LOp.move rfl rfl) ?_
                refine ROps.l (r := AV.b false) rfl rfl rfl (LOp.eqb (LOp.not rfl rfl) rfl) ?_
                refine ROps.nil ?_
                refine RunC.cond_false rfl rfl ?_
                refine RunC.skip ?_
                refine RunC.regionW ?_
                refine ROps.d (r := AV.agg [AV.i64 r30, AV.i64 r31, AV.oref 3 (u8 + 1) 0 r33.length]) (fs := []) (Γ' := [⟨u5, some (L28.map AV.f32)⟩, ⟨u6, some [AV.i64 v12, AV.i64 v13, AV.oref 0 u5 0 L10.length]⟩, ⟨u7, some (L11.map AV.f32)⟩, ⟨(u8 + 1), some (r33.map AV.f32)⟩, ⟨(u9 + 1), some [AV.i64 r30, AV.i64 r31, AV.oref 3 (u8 + 1) 0 r33.length]⟩, ⟨0, none⟩]) rfl rfl rfl (TOp.loadAgg_o rfl agg27 siz27 rfl rfl rfl rfl) rfl ?_
                refine ROps.store_le (r := AV.agg [AV.i64 r30, AV.i64 r31, AV.oref 3 (u8 + 1) 0 r33.length]) (l' := [AV.i64 r30, AV.i64 r31, AV.oref 3 (u8 + 1) 0 r33.length]) (Γ' := [⟨u5, some (L28.map AV.f32)⟩, ⟨u6, some [AV.i64 r30, AV.i64 r31, AV.oref 3 (u8 + 1) 0 r33.length]⟩, ⟨u7, some (L11.map AV.f32)⟩, ⟨(u8 + 1), some (r33.map AV.f32)⟩, ⟨(u9 + 1), some [AV.i64 r30, AV.i64 r31, AV.oref 3 (u8 + 1) 0 r33.length]⟩, ⟨0, none⟩]) rfl siz27 rfl rfl rfl (ALe.refl _) rfl rfl rfl rfl (Nat.le_of_ble_eq_true rfl) rfl rfl ?_
                refine ROps.nil ?_
                exact ⟨r33, r30, r31, u5, u6, u7, (u8 + 1), (u9 + 1), (Le.of ⟨(ALe.refl _), (ALe.refl _), (ALe.refl _), (ALe.refl _), trivial⟩ ⟨⟨rfl, .inl rfl⟩, ⟨rfl, .inr (by first | rfl | simp)⟩, ⟨rfl, .inr rfl⟩, ⟨rfl, .inr rfl⟩, ⟨rfl, .inl rfl⟩, ⟨rfl, .inr rfl⟩, trivial⟩), h8_⟩
              · refine RunC.regionW ?_
                refine ROps.l (r := AV.agg [AV.i64 a0, AV.i64 a1, AV.sl a2.length (a2.map AV.f32)]) rfl rfl rfl (LOp.loadAgg agg27 siz27 rfl rfl rfl rfl) ?_
                refine ROps.d (r := AV.agg [AV.i64 v12, AV.i64 v13, AV.oref 0 u5 0 L10.length]) (fs := []) (Γ' := [⟨u5, some (L28.map AV.f32)⟩, ⟨u6, some [AV.i64 v12, AV.i64 v13, AV.oref 0 u5 0 L10.length]⟩, ⟨u7, some (L11.map AV.f32)⟩, ⟨u8, none⟩, ⟨u9, none⟩, ⟨0, none⟩]) rfl rfl rfl (TOp.loadAgg_o rfl agg27 siz27 rfl rfl rfl rfl) rfl ?_
                refine ROps.d (r := AV.tup [AV.agg [AV.i64 r30, AV.i64 r31, AV.oref 3 (u8 + 1) 0 r33.length], AV.b r32]) (fs := [(3, (r33.map AV.f32))]) (Γ' := [⟨u5, some (L28.map AV.f32)⟩, ⟨u6, some [AV.i64 v12, AV.i64 v13, AV.oref 0 u5 0 L10.length]⟩, ⟨u7, some (L11.map AV.f32)⟩, ⟨(u8 + 1), some (r33.map AV.f32)⟩, ⟨u9, none⟩, ⟨0, none⟩]) rfl rfl rfl (TOp.eqr (TOp.callBN (ls := [(r33.map AV.f32)]) [3] (CallAs.func ent62 rfl rfl) (Bors.cons (Bor.agg (Bors.cons (Bor.pure rfl) (Bors.cons (Bor.pure rfl) (Bors.cons (Bor.sl (fun _ => rfl)) Bors.nil)))) (Bors.cons (Bor.agg (Bors.cons (Bor.pure rfl) (Bors.cons (Bor.pure rfl) (Bors.cons (Bor.own (f := AV.f32) (fun _ => rfl) rfl hl29) Bors.nil)))) Bors.nil)) rfl (s_MulMatrices_ok a0 a1 a2 v12 v13 L28 r30 r31 r32 r33 hf17) (and_all (lts0_map (f := AV.f32) (fun _ => rfl) _) rfl) (and_all (noss_map (f := AV.f32) (fun _ => rfl) _) rfl) rfl (by decide) (ns_of ⟨⟨_, rfl⟩, trivial⟩)) (by simp [AV.ren, AV.rens, sigma, newNames])) rfl ?_
                refine ROps.l (r := AV.tup [AV.agg [AV.i64 r30, AV.i64 r31, AV.oref 3 (u8 + 1) 0 r33.length], AV.b r32]) rfl rfl rfl (LOp.move rfl rfl) ?_
                refine ROps.l (r := AV.agg [AV.i64 r30, AV.i64 r31, AV.oref 3 (u8 + 1) 0 r33.length]) rfl rfl rfl (LOp.extract rfl rfl rfl) ?_
                refine ROps.l (r := AV.b false) rfl rfl rfl (LOp.eqb (LOp.extract rfl rfl rfl) hc18) ?_
                refine ROps.d (r := AV.optr 4 (u9 + 1) 0) (fs := [(4, [AV.i64 0, AV.i64 0, AV.nilsl])]) (Γ' := [⟨u5, some (L28.map AV.f32)⟩, ⟨u6, some [AV.i64 v12, AV.i64 v13, AV.oref 0 u5 0 L10.length]⟩, ⟨u7, some (L11.map AV.f32)⟩, ⟨(u8 + 1), some (r33.map AV.f32)⟩, ⟨(u9 + 1), some [AV.i64 0, AV.i64 0, AV.nilsl]⟩, ⟨0, none⟩]) rfl rfl rfl (TOp.alloc_o (g := ⟨u9, none⟩) 4 rfl zer27 zok27 rfl) rfl ?_
                refine ROps.store_le (r := AV.agg [AV.i64 r30, AV.i64 r31, AV.oref 3 (u8 + 1) 0 r33.length]) (l' := [AV.i64 r30, AV.i64 r31, AV.oref 3 (u8 + 1) 0 r33.length]) (Γ' := [⟨u5, some (L28.map AV.f32)⟩, ⟨u6, some [AV.i64 v12, AV.i64 v13, AV.oref 0 u5 0 L10.length]⟩, ⟨u7, some (L11.map AV.f32)⟩, ⟨(u8 + 1), some (r33.map AV.f32)⟩, ⟨(u9 + 1), some [AV.i64 r30, AV.i64 r31, AV.oref 3 (u8 + 1) 0 r33.length]⟩, ⟨0, none⟩]) rfl siz27 rfl rfl rfl (ALe.refl _) rfl rfl rfl rfl (Nat.le_of_ble_eq_true rfl) rfl rfl ?_
                refine ROps.l (r := AV.b false) rfl rfl rfl (LOp.assign rfl rfl) ?_
                refine ROps.nil ?_
                refine RunC.seq ?_
                refine RunC.seq ?_
                refine RunC.regionW ?_
                refine ROps.l (r := AV.b false) rfl rfl rfl (LOp.move rfl rfl) ?_
                refine ROps.l (r := AV.b true) rfl rfl rfl (LOp.eqb (LOp.not rfl rfl) rfl) ?_
                refine ROps.nil ?_
                refine RunC.cond_true rfl rfl ?_
                refine RunC.seq ?_
                refine RunC.regionW ?_
                refine ROps.l (r := AV.nilsl) rfl rfl rfl (LOp.assign rfl rfl) ?_
                refine ROps.l (r := AV.b false) rfl rfl rfl (LOp.assign rfl rfl) ?_
                refine ROps.nil ?_
                refine RunC.nil_slot (Γ' := [⟨u5, some (L28.map AV.f32)⟩, ⟨u6, some [AV.i64 v12, AV.i64 v13, AV.oref 0 u5 0 L10.length]⟩, ⟨u7, some (L11.map AV.f32)⟩, ⟨(u8 + 1), some (r33.map AV.f32)⟩, ⟨(u9 + 1), some [AV.i64 r30, AV.i64 r31, AV.oref 3 (u8 + 1) 0 r33.length]⟩, ⟨1, some (([] : List F).map AV.f32)⟩]) 2 5 rfl rfl rfl ?_
                refine RunC.ret ?_
                cases Option.some.inj h8_
                have hx11_ := hr8 _ rfl
                subst hx11_
                have hq := Option.some.inj h
                obtain ⟨hq0, hq⟩ := Prod.mk.inj hq
                subst q0
                subst q1
                exact bodyQ.mk (r' := AV.tup [AV.oref 5 1 0 (([] : List F).length), AV.b false]) [(5, 1)] (.inr rfl) rfl (show List.Nodup [5] from by decide) rfl rfl (Res.eq (Res.two rfl (RV.tmp rfl) (RV.tmp rfl)) (by rw [(show ([] : List F).length = 0 from rfl)] <;> rfl)) (SelL.arr0 (f := AV.f32) (fun _ => rfl) rfl trivial)
          · refine RunC.regionW ?_
            refine ROps.l (r := AV.i64 v14) rfl rfl rfl (LOp.move rfl rfl) ?_
            refine ROps.l (r := AV.b false) rfl rfl rfl (LOp.eqb (LOp.gtr rfl rfl rfl) hc5) ?_
            refine ROps.nil ?_
            refine RunC.cond_false rfl rfl ?_
            refine RunC.skip ?_
            exact ⟨L10, v12, v13, u8, 0, 0, 0, u9, (Le.trans (Le.sel [(3, 0), (1, u6), (2, u7), (0, u5), (4, 0), (5, 0)] [(1, AV.ptr [AV.i64 a0, AV.i64 a1, AV.sl a2.length (a2.map AV.f32)]), (4, AV.optr 1 0 0), (5, AV.oref 2 0 0 L11.length), (6, AV.i64 v14)] [⟨u8, none⟩, ⟨0, some [AV.i64 v12, AV.i64 v13, AV.oref 3 0 0 L10.length]⟩, ⟨0, some (L11.map AV.f32)⟩, ⟨0, some (L10.map AV.f32)⟩, ⟨u9, none⟩, ⟨0, none⟩] rfl (SelOk.of (show List.Nodup [3, 1, 2, 0, 4, 5] from by decide) ⟨⟨_, rfl⟩, (SelL.cells0 rfl (by simp [AV.ren, AV.rens, sigma, rens_f32, rens_f64, rens_i64, rens_ik, rens_str, rens_cp]) rfl (SelL.arr0 (f := AV.f32) (fun _ => rfl) rfl (SelL.arr0 (f := AV.f32) (fun _ => rfl) rfl ⟨⟨_, rfl⟩, ⟨⟨_, rfl⟩, trivial⟩⟩)))⟩) ⟨⟨_, rfl, .inl ⟨rfl, (lt_ptr (lts_cons rfl (lts_cons rfl (lts_cons (lt_sl (fun _ => rfl)) lts_nil))))⟩⟩, ⟨AV.optr 1 u6 0, rfl, .inr ⟨by first | rfl | simp [AV.ren, AV.rens, sigma, rens_f32, rens_f64, rens_i64, rens_ik, rens_str, rens_cp], rfl⟩⟩, ⟨AV.oref 2 u7 0 L11.length, rfl, .inr ⟨by first | rfl | simp [AV.ren, AV.rens, sigma, rens_f32, rens_f64, rens_i64, rens_ik, rens_str, rens_cp], rfl⟩⟩, ⟨_, rfl, .inl ⟨rfl, rfl⟩⟩, trivial⟩) (Le.of ⟨(ALe.refl _), (ALe.refl _), (ALe.refl _), (ALe.refl _), trivial⟩ ⟨⟨rfl, .inl rfl⟩, ⟨rfl, .inr (by first | rfl | simp)⟩, ⟨rfl, .inr rfl⟩, ⟨rfl, .inr rfl⟩, ⟨rfl, .inl rfl⟩, ⟨rfl, .inr rfl⟩, trivial⟩)), h8_⟩
        · rintro τ12 Γ12 ⟨L39, v40, v41, u34, u35, u36, u37, u38, hw12, h8_⟩
          refine RunC.le (τ' := [(1, AV.ptr [AV.i64 a0, AV.i64 a1, AV.sl a2.length (a2.map AV.f32)]), (4, AV.optr 1 u35 0), (5, AV.oref 2 u36 0 L11.length), (6, AV.i64 v14)]) (Γ' := [⟨u34, none⟩, ⟨u35, some [AV.i64 v40, AV.i64 v41, AV.oref 3 u37 0 L39.length]⟩, ⟨u36, some (L11.map AV.f32)⟩, ⟨u37, some (L39.map AV.f32)⟩, ⟨u38, none⟩, ⟨0, none⟩]) hw12 ?_
          unfold s_SignsOf_k5 at h8_
          refine RunC.seq ?_
          obtain ⟨r42, r43, hf19, h8_⟩ := obind2_some h8_
          rcases bsel_some h8_ with ⟨hc20, h8_⟩ | ⟨hc20, h8_⟩
          · refine RunC.regionW ?_
            refine ROps.d (r := AV.agg [AV.i64 v40, AV.i64 v41, AV.oref 3 u37 0 L39.length]) (fs := []) (Γ' := [⟨u34, none⟩, ⟨u35, some [AV.i64 v40, AV.i64 v41, AV.oref 3 u37 0 L39.length]⟩, ⟨u36, some (L11.map AV.f32)⟩, ⟨u37, some (L39.map AV.f32)⟩, ⟨u38, none⟩, ⟨0, none⟩]) rfl rfl rfl (TOp.loadAgg_o rfl agg27 siz27 rfl rfl rfl rfl) rfl ?_
            refine ROps.d (r := AV.tup [AV.f32 r42, AV.b r43]) (fs := []) (Γ' := [⟨u34, none⟩, ⟨u35, some [AV.i64 v40, AV.i64 v41, AV.oref 3 u37 0 L39.length]⟩, ⟨u36, some (L11.map AV.f32)⟩, ⟨u37, some (L39.map AV.f32)⟩, ⟨u38, none⟩, ⟨0, none⟩]) rfl rfl rfl (TOp.callB (CallAs.func ent63 rfl rfl) (Bors.cons (Bor.agg (Bors.cons (Bor.pure rfl) (Bors.cons (Bor.pure rfl) (Bors.cons (Bor.own (f := AV.f32) (fun _ => rfl) rfl rfl) Bors.nil)))) Bors.nil) rfl rfl (s_TraceOf_ok v40 v41 L39 r42 r43 hf19)) rfl ?_
            refine ROps.l (r := AV.tup [AV.f32 r42, AV.b r43]) rfl rfl rfl (LOp.move rfl rfl) ?_
            refine ROps.l (r := AV.f32 r42) rfl rfl rfl (LOp.extract rfl rfl rfl) ?_
            refine ROps.l (r := AV.b true) rfl rfl rfl (LOp.eqb (LOp.extract rfl rfl rfl) hc20) ?_
            refine ROps.l (r := AV.f32 r42) rfl rfl rfl (LOp.assign rfl rfl) ?_
            refine ROps.l (r := AV.b true) rfl rfl rfl (LOp.assign rfl rfl) ?_
            refine ROps.nil ?_
            refine RunC.seq ?_
            refine RunC.seq ?_
            refine RunC.regionW ?_
            refine ROps.l (r := AV.b true) rfl rfl rfl (LOp.move rfl rfl) ?_
            refine ROps.l (r := AV.b false) rfl rfl rfl (LOp.eqb (LOp.not rfl rfl) rfl) ?_
            refine ROps.nil ?_
            refine RunC.cond_false rfl rfl ?_
            refine RunC.skip ?_
            refine RunC.seq ?_
            obtain ⟨x44, hx21, h8_⟩ := olet_some h8_
            refine RunC.regionW ?_
            refine ROps.l (r := AV.f32 r42) rfl rfl rfl (LOp.move rfl rfl) ?_
            refine ROps.l (r := AV.f32 x44) rfl rfl rfl (LOp.eqr (LOp.fneg rfl (OpF.tmp rfl)) (congrArg (AV.f .f32) hx21)) ?_
            refine ROps.l (r := AV.f32 x44) rfl rfl rfl (LOp.assign rfl rfl) ?_
            refine ROps.nil ?_
            refine RunC.seq ?_
            refine RunC.cutN (fun τ Γ => ∃ (y47 : F), Le 177 τ Γ [(1, AV.ptr [AV.i64 a0, AV.i64 a1, AV.sl a2.length (a2.map AV.f32)]), (4, AV.optr 1 u35 0), (5, AV.oref 2 u36 0 L11.length), (6, AV.i64 v14), (12, AV.f32 y47)] [⟨u34, none⟩, ⟨u35, some [AV.i64 v40, AV.i64 v41, AV.oref 3 u37 0 L39.length]⟩, ⟨u36, some (L11.map AV.f32)⟩, ⟨u37, some (L39.map AV.f32)⟩, ⟨u38, none⟩, ⟨0, none⟩] ∧ s_SignsOf_k6 L11 v14 L39 v40 v41 y47 = some y8_) ?_ ?_
            · refine RunC.seq ?_
              rcases bsel_some h8_ with ⟨hc22, h8_⟩ | ⟨hc22, h8_⟩
              · refine RunC.regionW ?_
                refine ROps.l (r := AV.i64 v14) rfl rfl rfl (LOp.move rfl rfl) ?_
                refine ROps.l (r := AV.b true) rfl rfl rfl (LOp.eqb (LOp.gtr rfl rfl rfl) hc22) ?_
                refine ROps.nil ?_
                refine RunC.cond_true rfl rfl ?_
                obtain ⟨x45, hx23, h8_⟩ := olet_some h8_
                obtain ⟨x46, hx24, h8_⟩ := olet_some h8_
                refine RunC.regionW ?_
                refine ROps.l (r := AV.f32 x44) rfl rfl rfl (LOp.move rfl rfl) ?_
                refine ROps.l (r := AV.i64 v14) rfl rfl rfl (LOp.move rfl rfl) ?_
                refine ROps.l (r := AV.f32 x45) rfl rfl rfl (LOp.eqr (LOp.i2f (src := 2) (dst := 25) ⟨_, pun2⟩ pun25 rfl rfl) (congrArg (AV.f .f32) hx23)) ?_
                refine ROps.d (r := AV.f32 x46) (fs := []) (Γ' := [⟨u34, none⟩, ⟨u35, some [AV.i64 v40, AV.i64 v41, AV.oref 3 u37 0 L39.length]⟩, ⟨u36, some (L11.map AV.f32)⟩, ⟨u37, some (L39.map AV.f32)⟩, ⟨u38, none⟩, ⟨0, none⟩]) rfl rfl rfl (TOp.eqr (TOp.fop (.inr (.inr (.inr rfl))) rfl (OpF.tmp rfl) (OpF.tmp rfl)) (congrArg (AV.f .f32) hx24)) rfl ?_
                refine ROps.l (r := AV.f32 x46) rfl rfl rfl (LOp.assign rfl rfl) ?_
                refine ROps.nil ?_
                exact ⟨x46, (Le.of ⟨(ALe.refl _), (ALe.refl _), (ALe.refl _), (ALe.refl _), (ALe.refl _), trivial⟩ ⟨⟨rfl, .inl rfl⟩, ⟨rfl, .inr rfl⟩, ⟨rfl, .inr rfl⟩, ⟨rfl, .inr rfl⟩, ⟨rfl, .inl rfl⟩, ⟨rfl, .inr rfl⟩, trivial⟩), h8_⟩
              · refine RunC.regionW ?_
                refine ROps.l (r := AV.i64 v14) rfl rfl rfl (LOp.move rfl rfl) ?_
                refine ROps.l (r := AV.b false) rfl rfl rfl (LOp.eqb (LOp.gtr rfl rfl rfl) hc22) ?_
                refine ROps.nil ?_
                refine RunC.cond_false rfl rfl ?_
                refine RunC.skip ?_
                exact ⟨x44, (Le.of ⟨(ALe.refl _), (ALe.refl _), (ALe.refl _), (ALe.refl _), (ALe.refl _), trivial⟩ ⟨⟨rfl, .inl rfl⟩, ⟨rfl, .inr rfl⟩, ⟨rfl, .inr rfl⟩, ⟨rfl, .inr rfl⟩, ⟨rfl, .inl rfl⟩, ⟨rfl, .inr rfl⟩, trivial⟩), h8_⟩
            · rintro τ13 Γ13 ⟨y47, hw13, h8_⟩
              refine RunC.le (τ' := [(1, AV.ptr [AV.i64 a0, AV.i64 a1, AV.sl a2.length (a2.map AV.f32)]), (4, AV.optr 1 u35 0), (5, AV.oref 2 u36 0 L11.length), (6, AV.i64 v14), (12, AV.f32 y47)]) (Γ' := [⟨u34, none⟩, ⟨u35, some [AV.i64 v40, AV.i64 v41, AV.oref 3 u37 0 L39.length]⟩, ⟨u36, some (L11.map AV.f32)⟩, ⟨u37, some (L39.map AV.f32)⟩, ⟨u38, none⟩, ⟨0, none⟩]) hw13 ?_
              unfold s_SignsOf_k6 at h8_
              obtain ⟨hm25, h8_⟩ := need_some h8_
              refine RunC.regionW ?_
              refine ROps.l (r := AV.oref 2 u36 0 L11.length) rfl rfl rfl (LOp.move rfl rfl) ?_
              refine ROps.l (r := AV.f32 y47) rfl rfl rfl (LOp.move rfl rfl) ?_
              refine ROps.d (r := AV.oref 0 (u34 + 1) 0 1) (fs := [(0, (([y47] : List F).map AV.f32))]) (Γ' := [⟨(u34 + 1), some (([y47] : List F).map AV.f32)⟩, ⟨u35, some [AV.i64 v40, AV.i64 v41, AV.oref 3 u37 0 L39.length]⟩, ⟨u36, some (L11.map AV.f32)⟩, ⟨u37, some (L39.map AV.f32)⟩, ⟨u38, none⟩, ⟨0, none⟩]) rfl rfl rfl (TOp.buildSlice_o (g := ⟨u34, none⟩) (za := AV.f32 (some 0)) (qs := [(0, [AV.f32 y47])]) 0 rfl und22 siz25 zer25 rfl zel25 rfl rfl ⟨rfl, ⟨_, ALe.refl _, rfl⟩, trivial⟩ rfl) rfl ?_
              refine ROps.app (f := AV.f32) (xs := L11) (ys := ([y47] : List F)) (Γ' := [⟨(u34 + 1), some (([y47] : List F).map AV.f32)⟩, ⟨u35, some [AV.i64 v40, AV.i64 v41, AV.oref 3 u37 0 L39.length]⟩, ⟨(u36 + 1), some ((L11 ++ ([y47] : List F)).map AV.f32)⟩, ⟨u37, some (L39.map AV.f32)⟩, ⟨u38, none⟩, ⟨0, none⟩]) rfl pun22 inf25 rfl rfl rfl rfl rfl rfl rfl rfl rfl (by simp) (ReadAs.own rfl (by simp)) (ones_map (fun _ => rfl)) (ap_by hm25) (ap_mx hm25) rfl ?_
              refine ROps.l (r := AV.oref 2 (u36 + 1) 0 (L11.length + 1)) rfl rfl rfl (LOp.assign rfl rfl) ?_
              refine ROps.nil ?_
              refine RunC.wl (τ' := [(1, AV.ptr [AV.i64 a0, AV.i64 a1, AV.sl a2.length (a2.map AV.f32)]), (4, AV.optr 1 u35 0), (5, AV.oref 2 (u36 + 1) 0 (L11.length + 1)), (6, AV.i64 v14)]) (Γ' := [⟨(u34 + 1), none⟩, ⟨u35, some [AV.i64 v40, AV.i64 v41, AV.oref 3 u37 0 L39.length]⟩, ⟨(u36 + 1), some ((L11 ++ ([y47] : List F)).map AV.f32)⟩, ⟨u37, some (L39.map AV.f32)⟩, ⟨u38, none⟩, ⟨0, none⟩]) ⟨(ALe.refl _), (ALe.refl _), (ALe.refl _), (ALe.refl _), trivial⟩ ⟨⟨rfl, .inl rfl⟩, ⟨rfl, .inr rfl⟩, ⟨rfl, .inr rfl⟩, ⟨rfl, .inr rfl⟩, ⟨rfl, .inl rfl⟩, ⟨rfl, .inr rfl⟩, trivial⟩ ?_
              obtain ⟨x48, hx26, h8_⟩ := olet_some h8_
              refine RunC.regionW ?_
              refine ROps.l (r := AV.i64 v14) rfl rfl rfl (LOp.move rfl rfl) ?_
              refine ROps.l (r := AV.i64 x48) rfl rfl rfl (LOp.eqr (LOp.add rfl rfl rfl) (congrArg (AV.ik .i64) hx26)) ?_
              refine ROps.l (r := AV.i64 x48) rfl rfl rfl (LOp.assign rfl rfl) ?_
              refine ROps.nil ?_
              cases Option.some.inj h8_
              exact ⟨_, rfl, 0, 0, 0, (u34 + 1), u38, (Le.trans (Le.sel [(3, u37), (1, u35), (2, (u36 + 1)), (0, 0), (4, 0), (5, 0)] [(1, AV.ptr [AV.i64 a0, AV.i64 a1, AV.sl a2.length (a2.map AV.f32)]), (4, AV.optr 1 0 0), (5, AV.oref 2 0 0 (L11.length + 1)), (6, AV.i64 x48)] [⟨0, some (L39.map AV.f32)⟩, ⟨0, some [AV.i64 v40, AV.i64 v41, AV.oref 0 0 0 L39.length]⟩, ⟨0, some ((L11 ++ ([y47] : List F)).map AV.f32)⟩, ⟨(u34 + 1), none⟩, ⟨u38, none⟩, ⟨0, none⟩] rfl (SelOk.of (show List.Nodup [3, 1, 2, 0, 4, 5] from by decide) (SelL.arr0 (f := AV.f32) (fun _ => rfl) rfl (SelL.cells0 rfl (by simp [AV.ren, AV.rens, sigma, rens_f32, rens_f64, rens_i64, rens_ik, rens_str, rens_cp]) rfl (SelL.arr0 (f := AV.f32) (fun _ => rfl) rfl ⟨⟨_, rfl⟩, ⟨⟨_, rfl⟩, ⟨⟨_, rfl⟩, trivial⟩⟩⟩)))) ⟨⟨_, rfl, .inl ⟨rfl, (lt_ptr (lts_cons rfl (lts_cons rfl (lts_cons (lt_sl (fun _ => rfl)) lts_nil))))⟩⟩, ⟨AV.optr 1 u35 0, rfl, .inr ⟨by first | rfl | simp [AV.ren, AV.rens, sigma, rens_f32, rens_f64, rens_i64, rens_ik, rens_str, rens_cp], rfl⟩⟩, ⟨AV.oref 2 (u36 + 1) 0 (L11.length + 1), rfl, .inr ⟨by first | rfl | simp [AV.ren, AV.rens, sigma, rens_f32, rens_f64, rens_i64, rens_ik, rens_str, rens_cp], rfl⟩⟩, ⟨_, rfl, .inl ⟨rfl, rfl⟩⟩, trivial⟩) (Le.of ⟨(ALe.refl _), (ALe.refl _), (by first | exact ALe.refl _ | exact ALe.eq (by rw [(app_len rfl rfl)] <;> rfl) | exact ALe.eq (by simp)), (ALe.refl _), trivial⟩ ⟨⟨rfl, .inr rfl⟩, ⟨rfl, .inr (by first | rfl | simp)⟩, ⟨rfl, .inr rfl⟩, ⟨rfl, .inl rfl⟩, ⟨rfl, .inl rfl⟩, ⟨rfl, .inr rfl⟩, trivial⟩))⟩
          · refine RunC.regionW ?_
            refine ROps.d (r := AV.agg [AV.i64 v40, AV.i64 v41, AV.oref 3 u37 0 L39.length]) (fs := []) (Γ' := [⟨u34, none⟩, ⟨u35, some [AV.i64 v40, AV.i64 v41, AV.oref 3 u37 0 L39.length]⟩, ⟨u36, some (L11.map AV.f32)⟩, ⟨u37, some (L39.map AV.f32)⟩, ⟨u38, none⟩, ⟨0, none⟩]) rfl rfl rfl (TOp.loadAgg_o rfl agg27 siz27 rfl rfl rfl rfl) rfl ?_
            refine ROps.d (r := AV.tup [AV.f32 r42, AV.b r43]) (fs := []) (Γ' := [⟨u34, none⟩, ⟨u35, some [AV.i64 v40, AV.i64 v41, AV.oref 3 u37 0 L39.length]⟩, ⟨u36, some (L11.map AV.f32)⟩, ⟨u37, some (L39.map AV.f32)⟩, ⟨u38, none⟩, ⟨0, none⟩]) rfl rfl rfl (TOp.callB (CallAs.func ent63 rfl rfl) (Bors.cons (Bor.agg (Bors.cons (Bor.pure rfl) (Bors.cons (Bor.pure rfl) (Bors.cons (Bor.own (f := AV.f32) (fun _ => rfl) rfl rfl) Bors.nil)))) Bors.nil) rfl rfl (s_TraceOf_ok v40 v41 L39 r42 r43 hf19)) rfl ?_
            refine ROps.l (r := AV.tup [AV.f32 r42, AV.b r43]) rfl rfl rfl (LOp.move rfl rfl) ?_
            refine ROps.l (r := AV.f32 r42) rfl rfl rfl (LOp.extract rfl rfl rfl) ?_
            refine ROps.l (r := AV.b false) rfl rfl rfl (LOp.eqb (LOp.extract rfl rfl rfl) hc20) ?_
            refine ROps.l (r := AV.f32 r42) rfl rfl rfl (LOp.assign rfl rfl) ?_
            refine ROps.l (r := AV.b false) rfl rfl rfl (LOp.assign rfl rfl) ?_
            refine ROps.nil ?_
            refine RunC.seq ?_
            refine RunC.seq ?_
            refine RunC.regionW ?_
            refine ROps.l (r := AV.b false) rfl rfl rfl (LOp.move rfl rfl) ?_
            refine ROps.l (r := AV.b true) rfl rfl rfl (LOp.eqb (LOp.not rfl rfl) rfl) ?_
            refine ROps.nil ?_
            refine RunC.cond_true rfl rfl ?_
            refine RunC.seq ?_
            refine RunC.regionW ?_
            refine ROps.l (r := AV.nilsl) rfl rfl rfl (LOp.assign rfl rfl) ?_
            refine ROps.l (r := AV.b false) rfl rfl rfl (LOp.assign rfl rfl) ?_
            refine ROps.nil ?_
            refine RunC.nil_slot (Γ' := [⟨(u34 + 1), some (([] : List F).map AV.f32)⟩, ⟨u35, some [AV.i64 v40, AV.i64 v41, AV.oref 3 u37 0 L39.length]⟩, ⟨u36, some (L11.map AV.f32)⟩, ⟨u37, some (L39.map AV.f32)⟩, ⟨u38, none⟩, ⟨0, none⟩]) 2 0 rfl rfl rfl ?_
            refine RunC.ret ?_
            cases Option.some.inj h8_
            have hx14_ := hr8 _ rfl
            subst hx14_
            have hq := Option.some.inj h
            obtain ⟨hq0, hq⟩ := Prod.mk.inj hq
            subst q0
            subst q1
            exact bodyQ.mk (r' := AV.tup [AV.oref 0 (u34 + 1) 0 (([] : List F).length), AV.b false]) [(0, (u34 + 1))] (.inr rfl) rfl (show List.Nodup [0] from by decide) (by simp [AV.ren, AV.rens, sigma]) rfl (Res.eq (Res.two rfl (RV.tmp rfl) (RV.tmp rfl)) (by rw [(show ([] : List F).length = 0 from rfl)] <;> rfl)) (SelL.arr0 (f := AV.f32) (fun _ => rfl) rfl trivial)
      · refine RunC.regionW ?_
        refine ROps.l (r := AV.i64 v14) rfl rfl rfl (LOp.move rfl rfl) ?_
        refine ROps.l (r := AV.ptr [AV.i64 a0, AV.i64 a1, AV.sl a2.length (a2.map AV.f32)]) rfl rfl rfl (LOp.fap und27 rfl siz2 rfl rfl rfl) ?_
        refine ROps.l (r := AV.i64 a0) rfl rfl rfl (LOp.load1 agg2 rfl rfl) ?_
        refine ROps.l (r := AV.b false) rfl rfl rfl (LOp.eqb (LOp.leq rfl rfl rfl) hc4) ?_
        refine ROps.nil ?_
        refine RunC.cond_false rfl rfl ?_
        refine RunC.exit ?_
        cases Option.some.inj h8_
        have hx := ho8 _ rfl
        exact ⟨L11, u5, u6, u7, u8, u9, (Le.of ⟨(ALe.refl _), trivial⟩ ⟨⟨rfl, .inl rfl⟩, ⟨rfl, .inl rfl⟩, ⟨rfl, .inr rfl⟩, ⟨rfl, .inl rfl⟩, ⟨rfl, .inl rfl⟩, ⟨rfl, .inr rfl⟩, trivial⟩), hx⟩
    · rintro τ15 Γ15 ⟨L54, u49, u50, u51, u52, u53, hw15, rfl⟩
      refine RunC.le (τ' := [(5, AV.oref 2 u51 0 L54.length)]) (Γ' := [⟨u49, none⟩, ⟨u50, none⟩, ⟨u51, some (L54.map AV.f32)⟩, ⟨u52, none⟩, ⟨u53, none⟩, ⟨0, none⟩]) hw15 ?_
      replace h : s_SignsOf_k7 L54 = some (q0, q1) := h
      unfold s_SignsOf_k7 at h
      refine RunC.seq ?_
      obtain ⟨z16, hf27, h⟩ := obind_some h
      rcases z16 with z16 | z16
      · replace h := (osum_inl _ _ _).symm.trans h
        obtain ⟨r55, r56, hz17, h⟩ := obind2_some h
        cases hz17
        obtain ⟨hn28, h⟩ := need_some h
        refine RunC.regionW ?_
        refine ROps.l (r := AV.oref 2 u51 0 L54.length) rfl rfl rfl (LOp.move rfl rfl) ?_
        refine ROps.callO (A := [AV.oref 2 u51 0 L54.length]) (args := [AV.oref 0 0 0 L54.length]) (Γc := [⟨0, some (L54.map AV.f32)⟩]) (Γc' := [⟨0, some (r56.map AV.f32)⟩]) (r' := AV.tup [AV.oref 2 u51 0 L54.length, AV.b r55]) (Γ' := [⟨u49, none⟩, ⟨u50, none⟩, ⟨u51, some (r56.map AV.f32)⟩, ⟨u52, none⟩, ⟨u53, none⟩, ⟨0, none⟩]) [(2, u51)] [] rfl (CallAs.func ent64 rfl rfl) rfl rfl (SelOk.of (show List.Nodup [2] from by decide) (SelL.arr0 (f := AV.f32) (fun _ => rfl) rfl trivial)) (live_of ⟨⟨_, _, rfl⟩, trivial⟩) (by simp [AV.ren, AV.rens, sigma, rens_f32, rens_f64, rens_i64, rens_ik, rens_str, rens_cp]) rfl (s_l02List_0o_ok0 L54 r55 r56 hf27) rfl (news_of trivial) (show List.Nodup [2] from by decide) (by simp [AV.ren, AV.rens, sigma, of_decide_eq_true hn28]) (by simp [backOb, sigma, AV.ren, AV.rens, rens_f32, rens_f64, rens_i64, rens_ik, rens_str, rens_cp]) ?_
        refine ROps.l (r := AV.oref 2 u51 0 L54.length) rfl rfl rfl (LOp.extract rfl rfl rfl) ?_
        refine ROps.l (r := AV.b r55) rfl rfl rfl (LOp.extract rfl rfl rfl) ?_
        refine ROps.l (r := AV.oref 2 u51 0 L54.length) rfl rfl rfl (LOp.assign rfl rfl) ?_
        refine ROps.l (r := AV.b r55) rfl rfl rfl (LOp.assign rfl rfl) ?_
        refine ROps.nil ?_
        refine RunC.ret ?_
        have hq := Option.some.inj h
        obtain ⟨hq0, hq⟩ := Prod.mk.inj hq
        subst q0
        subst q1
        exact bodyQ.mk (r' := AV.tup [AV.oref 2 u51 0 r56.length, AV.b r55]) [(2, u51)] (.inr rfl) rfl (show List.Nodup [2] from by decide) (by simp [AV.ren, AV.rens, sigma]) rfl (Res.eq (Res.two rfl (RV.tmp rfl) (RV.tmp rfl)) (by rw [(show r56.length = L54.length from (of_decide_eq_true hn28))] <;> rfl)) (SelL.arr0 (f := AV.f32) (fun _ => rfl) rfl trivial)
      · replace h := (osum_inr _ _ _).symm.trans h
        obtain ⟨r57, r58, r59, hz18, h⟩ := obind3_some h
        cases hz18
        obtain ⟨hn29, h⟩ := need_some h
        refine RunC.regionW ?_
        refine ROps.l (r := AV.oref 2 u51 0 L54.length) rfl rfl rfl (LOp.move rfl rfl) ?_
        refine ROps.callO (A := [AV.oref 2 u51 0 L54.length]) (args := [AV.oref 0 0 0 L54.length]) (Γc := [⟨0, some (L54.map AV.f32)⟩]) (Γc' := [⟨0, some (r58.map AV.f32)⟩, ⟨0, some (r59.map AV.f32)⟩]) (r' := AV.tup [AV.oref 0 (u49 + 1) 0 r59.length, AV.b r57]) (Γ' := [⟨(u49 + 1), some (r59.map AV.f32)⟩, ⟨u50, none⟩, ⟨u51, some (r58.map AV.f32)⟩, ⟨u52, none⟩, ⟨u53, none⟩, ⟨0, none⟩]) [(2, u51)] [(0, (u49 + 1))] rfl (CallAs.func ent64 rfl rfl) rfl rfl (SelOk.of (show List.Nodup [2] from by decide) (SelL.arr0 (f := AV.f32) (fun _ => rfl) rfl trivial)) (live_of ⟨⟨_, _, rfl⟩, trivial⟩) (by simp [AV.ren, AV.rens, sigma, rens_f32, rens_f64, rens_i64, rens_ik, rens_str, rens_cp]) rfl (s_l02List_0o_ok1 L54 r57 r58 r59 hf27) rfl (news_of ⟨⟨_, rfl, rfl⟩, trivial⟩) (show List.Nodup [2, 0] from by decide) (by simp [AV.ren, AV.rens, sigma, of_decide_eq_true hn29]) (by simp [backOb, sigma, AV.ren, AV.rens, rens_f32, rens_f64, rens_i64, rens_ik, rens_str, rens_cp]) ?_
        refine ROps.l (r := AV.oref 0 (u49 + 1) 0 r59.length) rfl rfl rfl (LOp.extract rfl rfl rfl) ?_
        refine ROps.l (r := AV.b r57) rfl rfl rfl (LOp.extract rfl rfl rfl) ?_
        refine ROps.l (r := AV.oref 0 (u49 + 1) 0 r59.length) rfl rfl rfl (LOp.assign rfl rfl) ?_
        refine ROps.l (r := AV.b r57) rfl rfl rfl (LOp.assign rfl rfl) ?_
        refine ROps.nil ?_
        refine RunC.ret ?_
        have hq := Option.some.inj h
        obtain ⟨hq0, hq⟩ := Prod.mk.inj hq
        subst q0
        subst q1
        exact bodyQ.mk (r' := AV.tup [AV.oref 0 (u49 + 1) 0 r59.length, AV.b r57]) [(0, (u49 + 1))] (.inr rfl) rfl (show List.Nodup [0] from by decide) (by simp [AV.ren, AV.rens, sigma]) rfl (Res.two rfl (RV.tmp rfl) (RV.tmp rfl)) (SelL.arr0 (f := AV.f32) (fun _ => rfl) rfl trivial)
  · refine RunC.regionW ?_
    refine ROps.d (r := AV.b false) (fs := []) (Γ' := [⟨0, none⟩, ⟨0, none⟩, ⟨0, none⟩, ⟨0, none⟩, ⟨0, none⟩, ⟨0, none⟩]) rfl rfl rfl (TOp.eqb (TOp.callB (CallAs.func ent55 rfl rfl) (Bors.cons (Bor.ptr (Bors.cons (Bor.pure rfl) (Bors.cons (Bor.pure rfl) (Bors.cons (Bor.sl (fun _ => rfl)) Bors.nil)))) Bors.nil) rfl rfl (s_l02Square_ok a0 a1 a2 r1 hf1)) hc2) rfl ?_
    refine ROps.l (r := AV.b true) rfl rfl rfl (LOp.eqb (LOp.not rfl rfl) rfl) ?_
    refine ROps.nil ?_
    refine RunC.cond_true rfl rfl ?_
    refine RunC.seq ?_
    refine RunC.regionW ?_
    refine ROps.l (r := AV.nilsl) rfl rfl rfl (LOp.assign rfl rfl) ?_
    refine ROps.l (r := AV.b false) rfl rfl rfl (LOp.assign rfl rfl) ?_
    refine ROps.nil ?_
    refine RunC.nil_slot (Γ' := [⟨1, some (([] : List F).map AV.f32)⟩, ⟨0, none⟩, ⟨0, none⟩, ⟨0, none⟩, ⟨0, none⟩, ⟨0, none⟩]) 2 0 rfl rfl rfl ?_
    refine RunC.ret ?_
    have hq := Option.some.inj h
    obtain ⟨hq0, hq⟩ := Prod.mk.inj hq
    subst q0
    subst q1
    exact bodyQ.mk (r' := AV.tup [AV.oref 0 1 0 (([] : List F).length), AV.b false]) [(0, 1)] (.inr rfl) rfl (show List.Nodup [0] from by decide) rfl rfl (Res.eq (Res.two rfl (RV.tmp rfl) (RV.tmp rfl)) (by rw [(show ([] : List F).length = 0 from rfl)] <;> rfl)) (SelL.arr0 (f := AV.f32) (fun _ => rfl) rfl trivial)
noncomputable def i_inRange (a0 : Int) (a1 : Int) (a2 : Int) : Option (Bool) :=
  bsel (decide (a1 ≤ a0)) (
    some (decide (a0 ≤ a2))) (
    some false)
theorem i_inRange_ok (a0 : Int) (a1 : Int) (a2 : Int) (q0 : Bool) (h : i_inRange a0 a1 a2 = some q0) : Ev Try.prog 91 [AV.i64 a0, AV.i64 a1, AV.i64 a2] [] (AV.b q0) [] := by
  refine Ev.start Try.func91 rfl rfl 0 (τ := [(0, AV.i64 a0), (1, AV.i64 a1), (2, AV.i64 a2)]) rfl (Γ' := []) rfl (n := 31) rfl (g := 0) rfl (fun _ => rfl) ?_
  unfold i_inRange at h
  refine RunC.seq ?_
  refine RunC.regionW ?_
  refine ROps.l (r := AV.b false) rfl rfl rfl (LOp.assign rfl rfl) ?_
  refine ROps.nil ?_
  refine RunC.seq ?_
  rcases bsel_some h with ⟨hc1, h⟩ | ⟨hc1, h⟩
  · refine RunC.regionW ?_
    refine ROps.l (r := AV.i64 a1) rfl rfl rfl (LOp.move rfl rfl) ?_
    refine ROps.l (r := AV.i64 a0) rfl rfl rfl (LOp.move rfl rfl) ?_
    refine ROps.l (r := AV.b true) rfl rfl rfl (LOp.eqb (LOp.leq rfl rfl rfl) hc1) ?_
    refine ROps.l (r := AV.b true) rfl rfl rfl (LOp.move rfl rfl) ?_
    refine ROps.l (r := AV.i64 a0) rfl rfl rfl (LOp.move rfl rfl) ?_
    refine ROps.l (r := AV.i64 a2) rfl rfl rfl (LOp.move rfl rfl) ?_
    refine ROps.l (r := AV.b (decide (a0 ≤ a2))) rfl rfl rfl (LOp.leq rfl rfl rfl) ?_
    refine ROps.l (r := AV.b (decide (a0 ≤ a2))) rfl rfl rfl (LOp.pick_true rfl rfl rfl) ?_
    refine ROps.l (r := AV.b (decide (a0 ≤ a2))) rfl rfl rfl (LOp.assign rfl rfl) ?_
    refine ROps.nil ?_
    refine RunC.ret ?_
    have hq := Option.some.inj h
    subst q0
    exact bodyQ.pure (.inr rfl) rfl (Res.one rfl (RV.tmp rfl))
  · refine RunC.regionW ?_
    refine ROps.l (r := AV.i64 a1) rfl rfl rfl (LOp.move rfl rfl) ?_
    refine ROps.l (r := AV.i64 a0) rfl rfl rfl (LOp.move rfl rfl) ?_
    refine ROps.l (r := AV.b false) rfl rfl rfl (LOp.eqb (LOp.leq rfl rfl rfl) hc1) ?_
    refine ROps.l (r := AV.b false) rfl rfl rfl (LOp.move rfl rfl) ?_
    refine ROps.s rfl rfl rfl ?_
    refine ROps.s rfl rfl rfl ?_
    refine ROps.s rfl rfl rfl ?_
    refine ROps.l (r := AV.b false) rfl rfl rfl (LOp.pick_false rfl rfl rfl) ?_
    refine ROps.l (r := AV.b false) rfl rfl rfl (LOp.assign rfl rfl) ?_
    refine ROps.nil ?_
    refine RunC.ret ?_
    have hq := Option.some.inj h
    subst q0
    exact bodyQ.pure (.inr rfl) rfl (Res.one rfl (RV.tmp rfl))
noncomputable def i_isSide (a0 : Int) : Option (Bool) :=
  obind (i_inRange a0 1 12) fun (r1 : Bool) =>
  some r1
theorem i_isSide_ok (a0 : Int) (q0 : Bool) (h : i_isSide a0 = some q0) : Ev Try.prog 47 [AV.i64 a0] [] (AV.b q0) [] := by
  refine Ev.start Try.func47 rfl rfl 0 (τ := [(0, AV.i64 a0)]) rfl (Γ' := []) rfl (n := 11) rfl (g := 0) rfl (fun _ => rfl) ?_
  unfold i_isSide at h
  refine RunC.seq ?_
  refine RunC.regionW ?_
  refine ROps.l (r := AV.b false) rfl rfl rfl (LOp.assign rfl rfl) ?_
  refine ROps.nil ?_
  refine RunC.seq ?_
  obtain ⟨r1, hf1, h⟩ := obind_some h
  refine RunC.regionW ?_
  refine ROps.l (r := AV.i64 a0) rfl rfl rfl (LOp.move rfl rfl) ?_
  refine ROps.d (r := AV.b r1) (fs := []) (Γ' := []) rfl rfl rfl (TOp.callB (CallAs.func ent91 rfl rfl) (Bors.cons (Bor.pure rfl) (Bors.cons (Bor.pure rfl) (Bors.cons (Bor.pure rfl) Bors.nil))) rfl rfl (i_inRange_ok a0 1 12 r1 hf1)) rfl ?_
  refine ROps.l (r := AV.b r1) rfl rfl rfl (LOp.assign rfl rfl) ?_
  refine ROps.nil ?_
  refine RunC.ret ?_
  have hq := Option.some.inj h
  subst q0
  exact bodyQ.pure (.inr rfl) rfl (Res.one rfl (RV.tmp rfl))
noncomputable def i_length_float32 (a0 : List F) : Option (Int) :=
  some (a0.length : Int)
theorem i_length_float32_ok (a0 : List F) (q0 : Int) (h : i_length_float32 a0 = some q0) : Ev Try.prog 89 [AV.sl a0.length (a0.map AV.f32)] [] (AV.i64 q0) [] := by
  refine Ev.start Try.func89 rfl rfl 0 (τ := [(0, AV.sl a0.length (a0.map AV.f32))]) rfl (Γ' := []) rfl (n := 11) rfl (g := 0) rfl (fun _ => rfl) ?_
  unfold i_length_float32 at h
  refine RunC.seq ?_
  refine RunC.regionW ?_
  refine ROps.l (r := AV.i64 0) rfl rfl rfl (LOp.assign rfl rfl) ?_
  refine ROps.nil ?_
  refine RunC.seq ?_
  refine RunC.regionW ?_
  refine ROps.l (r := AV.sl a0.length (a0.map AV.f32)) rfl rfl rfl (LOp.move rfl rfl) ?_
  refine ROps.l (r := AV.i64 (a0.length : Int)) rfl rfl rfl (LOp.len_sl und22 rfl rfl) ?_
  refine ROps.l (r := AV.i64 (a0.length : Int)) rfl rfl rfl (LOp.assign rfl rfl) ?_
  refine ROps.nil ?_
  refine RunC.ret ?_
  have hq := Option.some.inj h
  subst q0
  exact bodyQ.pure (.inr rfl) rfl (Res.one rfl (RV.tmp rfl))
noncomputable def x_math_IsNaN (a0 : F) : Option (Bool) :=
  some (!feq .f64 a0 a0)
theorem x_math_IsNaN_ok (a0 : F) (q0 : Bool) (h : x_math_IsNaN a0 = some q0) : Ev Try.prog 114 [AV.f64 a0] [] (AV.b q0) [] := by
  refine Ev.start Try.func114 rfl rfl 0 (τ := [(0, AV.f64 a0)]) rfl (Γ' := []) rfl (n := 13) rfl (g := 0) rfl (fun _ => rfl) ?_
  unfold x_math_IsNaN at h
  refine RunC.seq ?_
  refine RunC.regionW ?_
  refine ROps.l (r := AV.b false) rfl rfl rfl (LOp.assign rfl rfl) ?_
  refine ROps.nil ?_
  refine RunC.seq ?_
  refine RunC.regionW ?_
  refine ROps.l (r := AV.f64 a0) rfl rfl rfl (LOp.move rfl rfl) ?_
  refine ROps.l (r := AV.f64 a0) rfl rfl rfl (LOp.move rfl rfl) ?_
  refine ROps.l (r := AV.b (!feq .f64 a0 a0)) rfl rfl rfl (LOp.fne rfl (OpF.tmp rfl) (OpF.tmp rfl)) ?_
  refine ROps.l (r := AV.b (!feq .f64 a0 a0)) rfl rfl rfl (LOp.assign rfl rfl) ?_
  refine ROps.nil ?_
  refine RunC.ret ?_
  have hq := Option.some.inj h
  subst q0
  exact bodyQ.pure (.inr rfl) rfl (Res.one rfl (RV.tmp rfl))
noncomputable def x_math_Abs (a0 : F) : Option (F) :=
  olet (fabs a0) fun (x1 : F) =>
  some x1
theorem x_math_Abs_ok (a0 : F) (q0 : F) (h : x_math_Abs a0 = some q0) : Ev Try.prog 93 [AV.f64 a0] [] (AV.f64 q0) [] := by
  refine Ev.start Try.func93 rfl rfl 0 (τ := [(0, AV.f64 a0)]) rfl (Γ' := []) rfl (n := 15) rfl (g := 0) rfl (fun _ => rfl) ?_
  unfold x_math_Abs at h
  refine RunC.seq ?_
  refine RunC.regionW ?_
  refine ROps.l (r := AV.f64 (some 0)) rfl rfl rfl (LOp.le (LOp.assign rfl rfl) (ALe.fl (by kernel_rfl) (by kernel_rfl))) ?_
  refine ROps.nil ?_
  refine RunC.seq ?_
  obtain ⟨x1, hx1, h⟩ := olet_some h
  refine RunC.regionW ?_
  refine ROps.l (r := AV.f64 a0) rfl rfl rfl (LOp.move rfl rfl) ?_
  refine ROps.l (r := AV.bt .f64 .u64 a0) rfl rfl rfl (LOp.fbits ext117 rfl (OpF.tmp rfl)) ?_
  refine ROps.l (r := AV.bt .f64 .u64 x1) rfl rfl rfl (LOp.eqr (LOp.andNot_bt rfl rfl rfl) (congrArg (AV.bt .f64 .u64) hx1)) ?_
  refine ROps.l (r := AV.f64 x1) rfl rfl rfl (LOp.ffrom ext116 rfl rfl) ?_
  refine ROps.l (r := AV.f64 x1) rfl rfl rfl (LOp.assign rfl rfl) ?_
  refine ROps.nil ?_
  refine RunC.ret ?_
  have hq := Option.some.inj h
  subst q0
  exact bodyQ.pure (.inr rfl) rfl (Res.one rfl (RV.tmp rfl))
noncomputable def x_math_IsInf_k1 (y3 : F) : Option (Bool) :=
  some (flt .f64 (some 9218868437227405311) y3)
noncomputable def x_math_IsInf (a0 : F) (a1 : Int) : Option (Bool) :=
  bsel (decide (a1 = 0)) (
    obind (x_math_Abs a0) fun (r1 : F) =>
    x_math_IsInf_k1 r1) (
    bsel (decide (a1 < 0)) (
      olet (fneg .f64 a0) fun (x2 : F) =>
      x_math_IsInf_k1 x2) (
      x_math_IsInf_k1 a0))
theorem x_math_IsInf_ok (a0 : F) (a1 : Int) (q0 : Bool) (h : x_math_IsInf a0 a1 = some q0) : Ev Try.prog 115 [AV.f64 a0, AV.i64 a1] [] (AV.b q0) [] := by
  refine Ev.start Try.func115 rfl rfl 0 (τ := [(0, AV.f64 a0), (1, AV.i64 a1)]) rfl (Γ' := []) rfl (n := 31) rfl (g := 0) rfl (fun _ => rfl) ?_
  unfold x_math_IsInf at h
  refine RunC.seq ?_
  refine RunC.regionW ?_
  refine ROps.l (r := AV.b false) rfl rfl rfl (LOp.assign rfl rfl) ?_
  refine ROps.nil ?_
  refine RunC.seq ?_
  refine RunC.cutN (fun τ Γ => ∃ (y3 : F), WeakLe τ [(0, AV.f64 y3)] ∧ DeadLe Γ [] ∧ x_math_IsInf_k1 y3 = some q0) ?_ ?_
  · refine RunC.seq ?_
    rcases bsel_some h with ⟨hc1, h⟩ | ⟨hc1, h⟩
    · refine RunC.regionW ?_
      refine ROps.l (r := AV.i64 a1) rfl rfl rfl (LOp.move rfl rfl) ?_
      refine ROps.l (r := AV.b true) rfl rfl rfl (LOp.eqb (LOp.eql rfl rfl rfl) hc1) ?_
      refine ROps.nil ?_
      refine RunC.cond_true rfl rfl ?_
      obtain ⟨r1, hf2, h⟩ := obind_some h
      refine RunC.regionW ?_
      refine ROps.l (r := AV.f64 a0) rfl rfl rfl (LOp.move rfl rfl) ?_
      refine ROps.d (r := AV.f64 r1) (fs := []) (Γ' := []) rfl rfl rfl (TOp.callB (CallAs.func ent93 rfl rfl) (Bors.cons (Bor.pure rfl) Bors.nil) rfl rfl (x_math_Abs_ok a0 r1 hf2)) rfl ?_
      refine ROps.l (r := AV.f64 r1) rfl rfl rfl (LOp.assign rfl rfl) ?_
      refine ROps.nil ?_
      exact ⟨r1, ⟨(ALe.refl _), trivial⟩, trivial, h⟩
    · refine RunC.regionW ?_
      refine ROps.l (r := AV.i64 a1) rfl rfl rfl (LOp.move rfl rfl) ?_
      refine ROps.l (r := AV.b false) rfl rfl rfl (LOp.eqb (LOp.eql rfl rfl rfl) hc1) ?_
      refine ROps.nil ?_
      refine RunC.cond_false rfl rfl ?_
      refine RunC.seq ?_
      rcases bsel_some h with ⟨hc3, h⟩ | ⟨hc3, h⟩
      · refine RunC.regionW ?_
        refine ROps.l (r := AV.i64 a1) rfl rfl rfl (LOp.move rfl rfl) ?_
        refine ROps.l (r := AV.b true) rfl rfl rfl (LOp.eqb (LOp.lss rfl rfl rfl) hc3) ?_
        refine ROps.nil ?_
        refine RunC.cond_true rfl rfl ?_
        obtain ⟨x2, hx4, h⟩ := olet_some h
        refine RunC.regionW ?_
        refine ROps.l (r := AV.f64 a0) rfl rfl rfl (LOp.move rfl rfl) ?_
        refine ROps.l (r := AV.f64 x2) rfl rfl rfl (LOp.eqr (LOp.fneg rfl (OpF.tmp rfl)) (congrArg (AV.f .f64) hx4)) ?_
        refine ROps.l (r := AV.f64 x2) rfl rfl rfl (LOp.assign rfl rfl) ?_
        refine ROps.nil ?_
        exact ⟨x2, ⟨(ALe.refl _), trivial⟩, trivial, h⟩
      · refine RunC.regionW ?_
        refine ROps.l (r := AV.i64 a1) rfl rfl rfl (LOp.move rfl rfl) ?_
        refine ROps.l (r := AV.b false) rfl rfl rfl (LOp.eqb (LOp.lss rfl rfl rfl) hc3) ?_
        refine ROps.nil ?_
        refine RunC.cond_false rfl rfl ?_
        refine RunC.skip ?_
        exact ⟨a0, ⟨(ALe.refl _), trivial⟩, trivial, h⟩
  · rintro τ2 Γ2 ⟨y3, hw2, hd2, h⟩
    refine RunC.wl (τ' := [(0, AV.f64 y3)]) (Γ' := []) hw2 hd2 ?_
    unfold x_math_IsInf_k1 at h
    refine RunC.seq ?_
    refine RunC.regionW ?_
    refine ROps.l (r := AV.f64 y3) rfl rfl rfl (LOp.move rfl rfl) ?_
    refine ROps.l (r := AV.b (flt .f64 (some 9218868437227405311) y3)) rfl rfl rfl (LOp.fgt rfl (OpF.tmp rfl) (OpF.const rfl (by kernel_rfl) (by kernel_rfl))) ?_
    refine ROps.l (r := AV.b (flt .f64 (some 9218868437227405311) y3)) rfl rfl rfl (LOp.assign rfl rfl) ?_
    refine ROps.nil ?_
    refine RunC.ret ?_
    have hq := Option.some.inj h
    subst q0
    exact bodyQ.pure (.inr rfl) rfl (Res.one rfl (RV.tmp rfl))
noncomputable def i_isFinite64 (a0 : F) : Option (Bool) :=
  obind (x_math_IsNaN a0) fun (r1 : Bool) =>
  bsel r1 (
    some false) (
    obind (x_math_IsInf a0 0) fun (r2 : Bool) =>
    some (!r2))
theorem i_isFinite64_ok (a0 : F) (q0 : Bool) (h : i_isFinite64 a0 = some q0) : Ev Try.prog 90 [AV.f64 a0] [] (AV.b q0) [] := by
  refine Ev.start Try.func90 rfl rfl 0 (τ := [(0, AV.f64 a0)]) rfl (Γ' := []) rfl (n := 23) rfl (g := 0) rfl (fun _ => rfl) ?_
  unfold i_isFinite64 at h
  refine RunC.seq ?_
  refine RunC.regionW ?_
  refine ROps.l (r := AV.b false) rfl rfl rfl (LOp.assign rfl rfl) ?_
  refine ROps.nil ?_
  refine RunC.seq ?_
  obtain ⟨r1, hf1, h⟩ := obind_some h
  rcases bsel_some h with ⟨hc2, h⟩ | ⟨hc2, h⟩
  · refine RunC.regionW ?_
    refine ROps.l (r := AV.f64 a0) rfl rfl rfl (LOp.move rfl rfl) ?_
    refine ROps.d (r := AV.b true) (fs := []) (Γ' := []) rfl rfl rfl (TOp.eqb (TOp.callB (CallAs.func ent114 rfl rfl) (Bors.cons (Bor.pure rfl) Bors.nil) rfl rfl (x_math_IsNaN_ok a0 r1 hf1)) hc2) rfl ?_
    refine ROps.l (r := AV.b false) rfl rfl rfl (LOp.eqb (LOp.not rfl rfl) rfl) ?_
    refine ROps.l (r := AV.b false) rfl rfl rfl (LOp.move rfl rfl) ?_
    refine ROps.s rfl rfl rfl ?_
    refine ROps.s rfl rfl rfl ?_
    refine ROps.s rfl rfl rfl ?_
    refine ROps.l (r := AV.b false) rfl rfl rfl (LOp.pick_false rfl rfl rfl) ?_
    refine ROps.l (r := AV.b false) rfl rfl rfl (LOp.assign rfl rfl) ?_
    refine ROps.nil ?_
    refine RunC.ret ?_
    have hq := Option.some.inj h
    subst q0
    exact bodyQ.pure (.inr rfl) rfl (Res.one rfl (RV.tmp rfl))
  · obtain ⟨r2, hf3, h⟩ := obind_some h
    refine RunC.regionW ?_
    refine ROps.l (r := AV.f64 a0) rfl rfl rfl (LOp.move rfl rfl) ?_
    refine ROps.d (r := AV.b false) (fs := []) (Γ' := []) rfl rfl rfl (TOp.eqb (TOp.callB (CallAs.func ent114 rfl rfl) (Bors.cons (Bor.pure rfl) Bors.nil) rfl rfl (x_math_IsNaN_ok a0 r1 hf1)) hc2) rfl ?_
    refine ROps.l (r := AV.b true) rfl rfl rfl (LOp.eqb (LOp.not rfl rfl) rfl) ?_
    refine ROps.l (r := AV.b true) rfl rfl rfl (LOp.move rfl rfl) ?_
    refine ROps.l (r := AV.f64 a0) rfl rfl rfl (LOp.move rfl rfl) ?_
    refine ROps.d (r := AV.b r2) (fs := []) (Γ' := []) rfl rfl rfl (TOp.callB (CallAs.func ent115 rfl rfl) (Bors.cons (Bor.pure rfl) (Bors.cons (Bor.pure rfl) Bors.nil)) rfl rfl (x_math_IsInf_ok a0 0 r2 hf3)) rfl ?_
    refine ROps.l (r := AV.b (!r2)) rfl rfl rfl (LOp.not rfl rfl) ?_
    refine ROps.l (r := AV.b (!r2)) rfl rfl rfl (LOp.pick_true rfl rfl rfl) ?_
    refine ROps.l (r := AV.b (!r2)) rfl rfl rfl (LOp.assign rfl rfl) ?_
    refine ROps.nil ?_
    refine RunC.ret ?_
    have hq := Option.some.inj h
    subst q0
    exact bodyQ.pure (.inr rfl) rfl (Res.one rfl (RV.tmp rfl))
noncomputable def i_IsFinite (a0 : F) : Option (Bool) :=
  olet (fwiden a0) fun (x1 : F) =>
  obind (i_isFinite64 x1) fun (r2 : Bool) =>
  some r2
theorem i_IsFinite_ok (a0 : F) (q0 : Bool) (h : i_IsFinite a0 = some q0) : Ev Try.prog 46 [AV.f32 a0] [] (AV.b q0) [] := by
  refine Ev.start Try.func46 rfl rfl 0 (τ := [(0, AV.f32 a0)]) rfl (Γ' := []) rfl (n := 13) rfl (g := 0) rfl (fun _ => rfl) ?_
  unfold i_IsFinite at h
  refine RunC.seq ?_
  refine RunC.regionW ?_
  refine ROps.l (r := AV.b false) rfl rfl rfl (LOp.assign rfl rfl) ?_
  refine ROps.nil ?_
  refine RunC.seq ?_
  obtain ⟨x1, hx1, h⟩ := olet_some h
  obtain ⟨r2, hf2, h⟩ := obind_some h
  refine RunC.regionW ?_
  refine ROps.l (r := AV.f32 a0) rfl rfl rfl (LOp.move rfl rfl) ?_
  refine ROps.d (r := AV.f64 x1) (fs := []) (Γ' := []) rfl rfl rfl (TOp.eqr (TOp.widen (src := 25) (dst := 40) ⟨_, pun25⟩ pun40 rfl (OpF.tmp rfl)) (congrArg (AV.f .f64) hx1)) rfl ?_
  refine ROps.d (r := AV.b r2) (fs := []) (Γ' := []) rfl rfl rfl (TOp.callB (CallAs.func ent90 rfl rfl) (Bors.cons (Bor.pure rfl) Bors.nil) rfl rfl (i_isFinite64_ok x1 r2 hf2)) rfl ?_
  refine ROps.l (r := AV.b r2) rfl rfl rfl (LOp.assign rfl rfl) ?_
  refine ROps.nil ?_
  refine RunC.ret ?_
  have hq := Option.some.inj h
  subst q0
  exact bodyQ.pure (.inr rfl) rfl (Res.one rfl (RV.tmp rfl))
noncomputable def i_areFinite_1 (a0 : F) : Option (Bool) :=
  obind (i_IsFinite a0) fun (r1 : Bool) =>
  some (!r1)
theorem i_areFinite_1_ok (a0 : F) (q0 : Bool) (h : i_areFinite_1 a0 = some q0) : Ev Try.prog 113 [AV.f32 a0] [] (AV.b q0) [] := by
  refine Ev.start Try.func113 rfl rfl 0 (τ := [(0, AV.f32 a0)]) rfl (Γ' := []) rfl (n := 13) rfl (g := 0) rfl (fun _ => rfl) ?_
  unfold i_areFinite_1 at h
  refine RunC.seq ?_
  refine RunC.regionW ?_
  refine ROps.l (r := AV.b false) rfl rfl rfl (LOp.assign rfl rfl) ?_
  refine ROps.nil ?_
  refine RunC.seq ?_
  obtain ⟨r1, hf1, h⟩ := obind_some h
  refine RunC.regionW ?_
  refine ROps.l (r := AV.f32 a0) rfl rfl rfl (LOp.move rfl rfl) ?_
  refine ROps.d (r := AV.b r1) (fs := []) (Γ' := []) rfl rfl rfl (TOp.callB (CallAs.func ent46 rfl rfl) (Bors.cons (Bor.pure rfl) Bors.nil) rfl rfl (i_IsFinite_ok a0 r1 hf1)) rfl ?_
  refine ROps.l (r := AV.b (!r1)) rfl rfl rfl (LOp.not rfl rfl) ?_
  refine ROps.l (r := AV.b (!r1)) rfl rfl rfl (LOp.assign rfl rfl) ?_
  refine ROps.nil ?_
  refine RunC.ret ?_
  have hq := Option.some.inj h
  subst q0
  exact bodyQ.pure (.inr rfl) rfl (Res.one rfl (RV.tmp rfl))
noncomputable def x_slices_IndexFunc_float32_float32_1Fi_areFinite_1_b1 (a0 : List F) (v1 : Int) : Option (LR (Int) (Unit) (Int)) :=
  bsel (decide (v1 < (a0.length : Int))) (
    obind (at? a0 v1) fun (e2 : F) =>
    obind (i_areFinite_1 e2) fun (r3 : Bool) =>
    bsel r3 (
      some (LR.ret v1)) (
      olet (IntKind.i64.wrap (v1 + 1)) fun (x4 : Int) =>
      some (LR.next x4))) (
    some (LR.out ()))
noncomputable def x_slices_IndexFunc_float32_float32_1Fi_areFinite_1_s1 (a0 : List F) : (Int) → Option (LR (Int) (Unit) (Int)) := fun s => x_slices_IndexFunc_float32_float32_1Fi_areFinite_1_b1 a0 s
noncomputable def x_slices_IndexFunc_float32_float32_1Fi_areFinite_1_k1  : Option (Int) :=
  some (-1)
noncomputable def x_slices_IndexFunc_float32_float32_1Fi_areFinite_1 (a0 : List F) : Option (Int) :=
  obind (loopM (x_slices_IndexFunc_float32_float32_1Fi_areFinite_1_s1 a0) 0) fun z => osum z (fun _ => x_slices_IndexFunc_float32_float32_1Fi_areFinite_1_k1) (fun r => some r)
theorem x_slices_IndexFunc_float32_float32_1Fi_areFinite_1_ok (a0 : List F) (q0 : Int) (h : x_slices_IndexFunc_float32_float32_1Fi_areFinite_1 a0 = some q0) : Ev Try.prog 122 [AV.sl a0.length (a0.map AV.f32), AV.fn (.func 113) [] []] [] (AV.i64 q0) [] := by
  refine Ev.start Try.func122 rfl rfl 0 (τ := [(0, AV.sl a0.length (a0.map AV.f32)), (1, AV.fn (.func 113) [] [])]) rfl (Γ' := []) rfl (n := 39) rfl (g := 0) rfl (fun _ => rfl) ?_
  unfold x_slices_IndexFunc_float32_float32_1Fi_areFinite_1 at h
  refine RunC.seq ?_
  refine RunC.regionW ?_
  refine ROps.l (r := AV.i64 0) rfl rfl rfl (LOp.assign rfl rfl) ?_
  refine ROps.nil ?_
  refine RunC.seq ?_
  refine RunC.seq ?_
  refine RunC.regionW ?_
  refine ROps.l (r := AV.sl a0.length (a0.map AV.f32)) rfl rfl rfl (LOp.move rfl rfl) ?_
  refine ROps.l (r := AV.i64 (a0.length : Int)) rfl rfl rfl (LOp.len_sl und22 rfl rfl) ?_
  refine ROps.l (r := AV.i64 0) rfl rfl rfl (LOp.move rfl rfl) ?_
  refine ROps.nil ?_
  obtain ⟨z2, hz_2, h⟩ := obind_some h
  refine RunC.cutN (fun τ Γ => WeakLe τ [] ∧ DeadLe Γ [] ∧ z2 = .inl ()) ?_ ?_
  · refine RunC.block (RunC.loop (RunL.loopM (x := z2) (x_slices_IndexFunc_float32_float32_1Fi_areFinite_1_s1 a0) (fun (s : Int) τ Γ => WeakLe τ [(0, AV.sl a0.length (a0.map AV.f32)), (1, AV.fn (.func 113) [] []), (7, AV.i64 (a0.length : Int)), (8, AV.i64 s)] ∧ DeadLe Γ []) ?_ _ _ _ hz_2 ⟨⟨(ALe.refl _), (ALe.refl _), (ALe.refl _), (ALe.refl _), trivial⟩, trivial⟩))
    rintro v1 τ2 Γ2 y2_ ⟨hw2, hd2⟩ h2_ ho2 hr2
    refine RunC.wl (τ' := [(0, AV.sl a0.length (a0.map AV.f32)), (1, AV.fn (.func 113) [] []), (7, AV.i64 (a0.length : Int)), (8, AV.i64 v1)]) (Γ' := []) hw2 hd2 ?_
    replace h2_ : x_slices_IndexFunc_float32_float32_1Fi_areFinite_1_b1 a0 v1 = some y2_ := h2_
    unfold x_slices_IndexFunc_float32_float32_1Fi_areFinite_1_b1 at h2_
    refine RunC.seq ?_
    rcases bsel_some h2_ with ⟨hc1, h2_⟩ | ⟨hc1, h2_⟩
    · refine RunC.regionW ?_
      refine ROps.l (r := AV.b true) rfl rfl rfl (LOp.eqb (LOp.lss rfl rfl rfl) hc1) ?_
      refine ROps.nil ?_
      refine RunC.seq ?_
      refine RunC.cond_true rfl rfl ?_
      refine RunC.skip ?_
      refine RunC.seq ?_
      refine RunC.block ?_
      refine RunC.seq ?_
      refine RunC.regionW ?_
      refine ROps.l (r := AV.i64 v1) rfl rfl rfl (LOp.move rfl rfl) ?_
      refine ROps.l (r := AV.i64 v1) rfl rfl rfl (LOp.assign rfl rfl) ?_
      refine ROps.nil ?_
      refine RunC.seq ?_
      obtain ⟨e2, he2, h2_⟩ := obind_some h2_
      obtain ⟨r3, hf3, h2_⟩ := obind_some h2_
      rcases bsel_some h2_ with ⟨hc4, h2_⟩ | ⟨hc4, h2_⟩
      · refine RunC.regionW ?_
        refine ROps.l (r := AV.fn (.func 113) [] []) rfl rfl rfl (LOp.move rfl rfl) ?_
        refine ROps.l (r := AV.sl a0.length (a0.map AV.f32)) rfl rfl rfl (LOp.move rfl rfl) ?_
        refine ROps.l (r := AV.i64 v1) rfl rfl rfl (LOp.move rfl rfl) ?_
        refine ROps.l (r := AV.ptr [AV.f32 e2]) rfl rfl rfl (LOp.le (LOp.ix (f := AV.f32) und22 siz25 rfl rfl rfl rfl he2) ALe.ptr) ?_
        refine ROps.l (r := AV.f32 e2) rfl rfl rfl (LOp.load1 agg25 rfl rfl) ?_
        refine ROps.d (r := AV.b true) (fs := []) (Γ' := []) rfl rfl rfl (TOp.eqb (TOp.callB (CallAs.fn ent113 rfl rfl rfl rfl) (Bors.cons (Bor.pure rfl) Bors.nil) rfl rfl (i_areFinite_1_ok e2 r3 hf3)) hc4) rfl ?_
        refine ROps.nil ?_
        refine RunC.cond_true rfl rfl ?_
        refine RunC.seq ?_
        refine RunC.regionW ?_
        refine ROps.l (r := AV.i64 v1) rfl rfl rfl (LOp.move rfl rfl) ?_
        refine ROps.l (r := AV.i64 v1) rfl rfl rfl (LOp.assign rfl rfl) ?_
        refine ROps.nil ?_
        refine RunC.ret ?_
        cases Option.some.inj h2_
        have hx3_ := hr2 _ rfl
        subst hx3_
        have hq := Option.some.inj h
        subst q0
        exact bodyQ.pure (.inr rfl) rfl (Res.one rfl (RV.tmp rfl))
      · refine RunC.regionW ?_
        refine ROps.l (r := AV.fn (.func 113) [] []) rfl rfl rfl (LOp.move rfl rfl) ?_
        refine ROps.l (r := AV.sl a0.length (a0.map AV.f32)) rfl rfl rfl (LOp.move rfl rfl) ?_
        refine ROps.l (r := AV.i64 v1) rfl rfl rfl (LOp.move rfl rfl) ?_
        refine ROps.l (r := AV.ptr [AV.f32 e2]) rfl rfl rfl (LOp.le (LOp.ix (f := AV.f32) und22 siz25 rfl rfl rfl rfl he2) ALe.ptr) ?_
        refine ROps.l (r := AV.f32 e2) rfl rfl rfl (LOp.load1 agg25 rfl rfl) ?_
        refine ROps.d (r := AV.b false) (fs := []) (Γ' := []) rfl rfl rfl (TOp.eqb (TOp.callB (CallAs.fn ent113 rfl rfl rfl rfl) (Bors.cons (Bor.pure rfl) Bors.nil) rfl rfl (i_areFinite_1_ok e2 r3 hf3)) hc4) rfl ?_
        refine ROps.nil ?_
        refine RunC.cond_false rfl rfl ?_
        refine RunC.skip ?_
        obtain ⟨x4, hx5, h2_⟩ := olet_some h2_
        refine RunC.regionW ?_
        refine ROps.l (r := AV.i64 x4) rfl rfl rfl (LOp.eqr (LOp.add rfl rfl rfl) (congrArg (AV.ik .i64) hx5)) ?_
        refine ROps.l (r := AV.i64 x4) rfl rfl rfl (LOp.move rfl rfl) ?_
        refine ROps.nil ?_
        cases Option.some.inj h2_
        exact ⟨_, rfl, ⟨(ALe.refl _), (ALe.refl _), (ALe.refl _), (ALe.refl _), trivial⟩, trivial⟩
    · refine RunC.regionW ?_
      refine ROps.l (r := AV.b false) rfl rfl rfl (LOp.eqb (LOp.lss rfl rfl rfl) hc1) ?_
      refine ROps.nil ?_
      refine RunC.seq ?_
      refine RunC.cond_false rfl rfl ?_
      refine RunC.exit ?_
      cases Option.some.inj h2_
      have hx := ho2 _ rfl
      exact ⟨trivial, trivial, hx⟩
  · rintro τ4 Γ4 ⟨hw4, hd4, rfl⟩
    refine RunC.wl (τ' := []) (Γ' := []) hw4 hd4 ?_
    replace h : x_slices_IndexFunc_float32_float32_1Fi_areFinite_1_k1 = some q0 := h
    unfold x_slices_IndexFunc_float32_float32_1Fi_areFinite_1_k1 at h
    refine RunC.seq ?_
    refine RunC.regionW ?_
    refine ROps.l (r := AV.i64 (-1)) rfl rfl rfl (LOp.assign rfl rfl) ?_
    refine ROps.nil ?_
    refine RunC.ret ?_
    have hq := Option.some.inj h
    subst q0
    exact bodyQ.pure (.inr rfl) rfl (Res.one rfl (RV.tmp rfl))
noncomputable def x_slices_ContainsFunc_float32_float32_1Fi_areFinite_1 (a0 : List F) : Option (Bool) :=
  obind (x_slices_IndexFunc_float32_float32_1Fi_areFinite_1 a0) fun (r1 : Int) =>
  some (decide (0 ≤ r1))
theorem x_slices_ContainsFunc_float32_float32_1Fi_areFinite_1_ok (a0 : List F) (q0 : Bool) (h : x_slices_ContainsFunc_float32_float32_1Fi_areFinite_1 a0 = some q0) : Ev Try.prog 112 [AV.sl a0.length (a0.map AV.f32), AV.fn (.func 113) [] []] [] (AV.b q0) [] := by
  refine Ev.start Try.func112 rfl rfl 0 (τ := [(0, AV.sl a0.length (a0.map AV.f32)), (1, AV.fn (.func 113) [] [])]) rfl (Γ' := []) rfl (n := 19) rfl (g := 0) rfl (fun _ => rfl) ?_
  unfold x_slices_ContainsFunc_float32_float32_1Fi_areFinite_1 at h
  refine RunC.seq ?_
  refine RunC.regionW ?_
  refine ROps.l (r := AV.b false) rfl rfl rfl (LOp.assign rfl rfl) ?_
  refine ROps.nil ?_
  refine RunC.seq ?_
  obtain ⟨r1, hf1, h⟩ := obind_some h
  refine RunC.regionW ?_
  refine ROps.l (r := AV.sl a0.length (a0.map AV.f32)) rfl rfl rfl (LOp.move rfl rfl) ?_
  refine ROps.l (r := AV.fn (.func 113) [] []) rfl rfl rfl (LOp.move rfl rfl) ?_
  refine ROps.d (r := AV.i64 r1) (fs := []) (Γ' := []) rfl rfl rfl (TOp.callB (CallAs.func ent122 rfl rfl) (Bors.cons (Bor.sl (fun _ => rfl)) (Bors.cons (Bor.fn Bors.nil Bors.nil) Bors.nil)) rfl rfl (x_slices_IndexFunc_float32_float32_1Fi_areFinite_1_ok a0 r1 hf1)) rfl ?_
  refine ROps.l (r := AV.b (decide (0 ≤ r1))) rfl rfl rfl (LOp.geq rfl rfl rfl) ?_
  refine ROps.l (r := AV.b (decide (0 ≤ r1))) rfl rfl rfl (LOp.assign rfl rfl) ?_
  refine ROps.nil ?_
  refine RunC.ret ?_
  have hq := Option.some.inj h
  subst q0
  exact bodyQ.pure (.inr rfl) rfl (Res.one rfl (RV.tmp rfl))
noncomputable def i_areFinite (a0 : List F) : Option (Bool) :=
  obind (x_slices_ContainsFunc_float32_float32_1Fi_areFinite_1 a0) fun (r1 : Bool) =>
  some (!r1)
theorem i_areFinite_ok (a0 : List F) (q0 : Bool) (h : i_areFinite a0 = some q0) : Ev Try.prog 84 [AV.sl a0.length (a0.map AV.f32)] [] (AV.b q0) [] := by
  refine Ev.start Try.func84 rfl rfl 0 (τ := [(0, AV.sl a0.length (a0.map AV.f32))]) rfl (Γ' := []) rfl (n := 13) rfl (g := 0) rfl (fun _ => rfl) ?_
  unfold i_areFinite at h
  refine RunC.seq ?_
  refine RunC.regionW ?_
  refine ROps.l (r := AV.b false) rfl rfl rfl (LOp.assign rfl rfl) ?_
  refine ROps.nil ?_
  refine RunC.seq ?_
  obtain ⟨r1, hf1, h⟩ := obind_some h
  refine RunC.regionW ?_
  refine ROps.l (r := AV.sl a0.length (a0.map AV.f32)) rfl rfl rfl (LOp.move rfl rfl) ?_
  refine ROps.d (r := AV.b r1) (fs := []) (Γ' := []) rfl rfl rfl (TOp.callB (CallAs.func ent112 rfl rfl) (Bors.cons (Bor.sl (fun _ => rfl)) (Bors.cons (Bor.fn Bors.nil Bors.nil) Bors.nil)) rfl rfl (x_slices_ContainsFunc_float32_float32_1Fi_areFinite_1_ok a0 r1 hf1)) rfl ?_
  refine ROps.l (r := AV.b (!r1)) rfl rfl rfl (LOp.not rfl rfl) ?_
  refine ROps.l (r := AV.b (!r1)) rfl rfl rfl (LOp.assign rfl rfl) ?_
  refine ROps.nil ?_
  refine RunC.ret ?_
  have hq := Option.some.inj h
  subst q0
  exact bodyQ.pure (.inr rfl) rfl (Res.one rfl (RV.tmp rfl))
noncomputable def i_ValidMatrix (a0 : Int) (a1 : Int) (a2 : List F) : Option (Bool) :=
  obind (i_isSide a0) fun (r1 : Bool) =>
  bsel r1 (
    obind (i_isSide a1) fun (r2 : Bool) =>
    bsel r2 (
      obind (i_length_float32 a2) fun (r3 : Int) =>
      olet (IntKind.i64.wrap (a0 * a1)) fun (x4 : Int) =>
      bsel (decide (r3 = x4)) (
        obind (i_areFinite a2) fun (r5 : Bool) =>
        some r5) (
        some false)) (
      some false)) (
    some false)
theorem i_ValidMatrix_ok (a0 : Int) (a1 : Int) (a2 : List F) (q0 : Bool) (h : i_ValidMatrix a0 a1 a2 = some q0) : Ev Try.prog 45 [AV.agg [AV.i64 a0, AV.i64 a1, AV.sl a2.length (a2.map AV.f32)]] [] (AV.b q0) [] := by
  refine Ev.start Try.func45 rfl rfl 0 (τ := [(0, AV.agg [AV.i64 a0, AV.i64 a1, AV.sl a2.length (a2.map AV.f32)])]) rfl (Γ' := []) rfl (n := 55) rfl (g := 0) rfl (fun _ => rfl) ?_
  unfold i_ValidMatrix at h
  refine RunC.seq ?_
  refine RunC.regionW ?_
  refine ROps.d (r := AV.ptr [AV.i64 a0, AV.i64 a1, AV.sl a2.length (a2.map AV.f32)]) (fs := []) (Γ' := []) rfl rfl rfl (TOp.box_s rfl rfl rfl) rfl ?_
  refine ROps.l (r := AV.b false) rfl rfl rfl (LOp.assign rfl rfl) ?_
  refine ROps.nil ?_
  refine RunC.seq ?_
  obtain ⟨r1, hf1, h⟩ := obind_some h
  rcases bsel_some h with ⟨hc2, h⟩ | ⟨hc2, h⟩
  · obtain ⟨r2, hf3, h⟩ := obind_some h
    rcases bsel_some h with ⟨hc4, h⟩ | ⟨hc4, h⟩
    · obtain ⟨r3, hf5, h⟩ := obind_some h
      obtain ⟨x4, hx6, h⟩ := olet_some h
      rcases bsel_some h with ⟨hc7, h⟩ | ⟨hc7, h⟩
      · obtain ⟨r5, hf8, h⟩ := obind_some h
        refine RunC.region_draw (Γ' := []) 25 mixed 
          (TR.l (r := AV.ptr [AV.i64 a0, AV.i64 a1, AV.sl a2.length (a2.map AV.f32)]) rfl rfl (LOp.fap und27 rfl siz2 rfl rfl rfl) <|
          (TR.l (r := AV.i64 a0) rfl rfl (LOp.load1 agg2 rfl rfl) <|
          (TR.d (r := AV.b true) (fs := []) rfl rfl (TOp.eqb (TOp.callB (CallAs.func ent47 rfl rfl) (Bors.cons (Bor.pure rfl) Bors.nil) rfl rfl (i_isSide_ok a0 r1 hf1)) hc2) <|
          (TR.l (r := AV.b true) rfl rfl (LOp.move rfl rfl) <|
          (TR.l (r := AV.ptr [AV.i64 a1, AV.sl a2.length (a2.map AV.f32)]) rfl rfl (LOp.fap und27 rfl siz2 rfl rfl rfl) <|
          (TR.l (r := AV.i64 a1) rfl rfl (LOp.load1 agg2 rfl rfl) <|
          (TR.d (r := AV.b true) (fs := []) rfl rfl (TOp.eqb (TOp.callB (CallAs.func ent47 rfl rfl) (Bors.cons (Bor.pure rfl) Bors.nil) rfl rfl (i_isSide_ok a1 r2 hf3)) hc4) <|
          (TR.l (r := AV.b true) rfl rfl (LOp.pick_true rfl rfl rfl) <|
          (TR.l (r := AV.b true) rfl rfl (LOp.move rfl rfl) <|
          (TR.l (r := AV.ptr [AV.sl a2.length (a2.map AV.f32)]) rfl rfl (LOp.fap und27 rfl siz22 rfl rfl rfl) <|
          (TR.l (r := AV.sl a2.length (a2.map AV.f32)) rfl rfl (LOp.load1 agg22 rfl rfl) <|
          (TR.d (r := AV.i64 r3) (fs := []) rfl rfl (TOp.callB (CallAs.func ent89 rfl rfl) (Bors.cons (Bor.sl (fun _ => rfl)) Bors.nil) rfl rfl (i_length_float32_ok a2 r3 hf5)) <|
          (TR.l (r := AV.ptr [AV.i64 a0, AV.i64 a1, AV.sl a2.length (a2.map AV.f32)]) rfl rfl (LOp.fap und27 rfl siz2 rfl rfl rfl) <|
          (TR.l (r := AV.i64 a0) rfl rfl (LOp.load1 agg2 rfl rfl) <|
          (TR.l (r := AV.ptr [AV.i64 a1, AV.sl a2.length (a2.map AV.f32)]) rfl rfl (LOp.fap und27 rfl siz2 rfl rfl rfl) <|
          (TR.l (r := AV.i64 a1) rfl rfl (LOp.load1 agg2 rfl rfl) <|
          (TR.l (r := AV.i64 x4) rfl rfl (LOp.eqr (LOp.mul rfl rfl rfl) (congrArg (AV.ik .i64) hx6)) <|
          (TR.l (r := AV.b true) rfl rfl (LOp.eqb (LOp.eql rfl rfl rfl) hc7) <|
          (TR.l (r := AV.b true) rfl rfl (LOp.pick_true rfl rfl rfl) <|
          (TR.l (r := AV.b true) rfl rfl (LOp.move rfl rfl) <|
          (TR.l (r := AV.ptr [AV.sl a2.length (a2.map AV.f32)]) rfl rfl (LOp.fap und27 rfl siz22 rfl rfl rfl) <|
          (TR.l (r := AV.sl a2.length (a2.map AV.f32)) rfl rfl (LOp.load1 agg22 rfl rfl) <|
          (TR.d (r := AV.b r5) (fs := []) rfl rfl (TOp.callB (CallAs.func ent84 rfl rfl) (Bors.cons (Bor.sl (fun _ => rfl)) Bors.nil) rfl rfl (i_areFinite_ok a2 r5 hf8)) <|
          (TR.l (r := AV.b r5) rfl rfl (LOp.pick_true rfl rfl rfl) <|
          (TR.l (r := AV.b r5) rfl rfl (LOp.assign rfl rfl) <|
          TR.nil))))))))))))))))))))))))) rfl (by kernel_rfl) rfl fills_nil rfl ?_
        iterate 25 refine ROps.dropS ?_
        refine ROps.drop0 ?_
        refine ROps.nil ?_
        refine RunC.ret ?_
        have hq := Option.some.inj h
        subst q0
        exact bodyQ.pure (.inr rfl) rfl (Res.one rfl (RV.tmp rfl))
      · refine RunC.region_draw (Γ' := []) 25 mixed 
          (TR.l (r := AV.ptr [AV.i64 a0, AV.i64 a1, AV.sl a2.length (a2.map AV.f32)]) rfl rfl (LOp.fap und27 rfl siz2 rfl rfl rfl) <|
          (TR.l (r := AV.i64 a0) rfl rfl (LOp.load1 agg2 rfl rfl) <|
          (TR.d (r := AV.b true) (fs := []) rfl rfl (TOp.eqb (TOp.callB (CallAs.func ent47 rfl rfl) (Bors.cons (Bor.pure rfl) Bors.nil) rfl rfl (i_isSide_ok a0 r1 hf1)) hc2) <|
          (TR.l (r := AV.b true) rfl rfl (LOp.move rfl rfl) <|
          (TR.l (r := AV.ptr [AV.i64 a1, AV.sl a2.length (a2.map AV.f32)]) rfl rfl (LOp.fap und27 rfl siz2 rfl rfl rfl) <|
          (TR.l (r := AV.i64 a1) rfl rfl (LOp.load1 agg2 rfl rfl) <|
          (TR.d (r := AV.b true) (fs := []) rfl rfl (TOp.eqb (TOp.callB (CallAs.func ent47 rfl rfl) (Bors.cons (Bor.pure rfl) Bors.nil) rfl rfl (i_isSide_ok a1 r2 hf3)) hc4) <|
          (TR.l (r := AV.b true) rfl rfl (LOp.pick_true rfl rfl rfl) <|
          (TR.l (r := AV.b true) rfl rfl (LOp.move rfl rfl) <|
          (TR.l (r := AV.ptr [AV.sl a2.length (a2.map AV.f32)]) rfl rfl (LOp.fap und27 rfl siz22 rfl rfl rfl) <|
          (TR.l (r := AV.sl a2.length (a2.map AV.f32)) rfl rfl (LOp.load1 agg22 rfl rfl) <|
          (TR.d (r := AV.i64 r3) (fs := []) rfl rfl (TOp.callB (CallAs.func ent89 rfl rfl) (Bors.cons (Bor.sl (fun _ => rfl)) Bors.nil) rfl rfl (i_length_float32_ok a2 r3 hf5)) <|
          (TR.l (r := AV.ptr [AV.i64 a0, AV.i64 a1, AV.sl a2.length (a2.map AV.f32)]) rfl rfl (LOp.fap und27 rfl siz2 rfl rfl rfl) <|
          (TR.l (r := AV.i64 a0) rfl rfl (LOp.load1 agg2 rfl rfl) <|
          (TR.l (r := AV.ptr [AV.i64 a1, AV.sl a2.length (a2.map AV.f32)]) rfl rfl (LOp.fap und27 rfl siz2 rfl rfl rfl) <|
          (TR.l (r := AV.i64 a1) rfl rfl (LOp.load1 agg2 rfl rfl) <|
          (TR.l (r := AV.i64 x4) rfl rfl (LOp.eqr (LOp.mul rfl rfl rfl) (congrArg (AV.ik .i64) hx6)) <|
          (TR.l (r := AV.b false) rfl rfl (LOp.eqb (LOp.eql rfl rfl rfl) hc7) <|
          (TR.l (r := AV.b false) rfl rfl (LOp.pick_true rfl rfl rfl) <|
          (TR.l (r := AV.b false) rfl rfl (LOp.move rfl rfl) <|
          (TR.s rfl rfl <|
          (TR.s rfl rfl <|
          (TR.s rfl rfl <|
          (TR.l (r := AV.b false) rfl rfl (LOp.pick_false rfl rfl rfl) <|
          (TR.l (r := AV.b false) rfl rfl (LOp.assign rfl rfl) <|
          TR.nil))))))))))))))))))))))))) rfl (by kernel_rfl) rfl fills_nil rfl ?_
        iterate 25 refine ROps.dropS ?_
        refine ROps.drop0 ?_
        refine ROps.nil ?_
        refine RunC.ret ?_
        have hq := Option.some.inj h
        subst q0
        exact bodyQ.pure (.inr rfl) rfl (Res.one rfl (RV.tmp rfl))
    · refine RunC.region_draw (Γ' := []) 25 mixed 
        (TR.l (r := AV.ptr [AV.i64 a0, AV.i64 a1, AV.sl a2.length (a2.map AV.f32)]) rfl rfl (LOp.fap und27 rfl siz2 rfl rfl rfl) <|
        (TR.l (r := AV.i64 a0) rfl rfl (LOp.load1 agg2 rfl rfl) <|
        (TR.d (r := AV.b true) (fs := []) rfl rfl (TOp.eqb (TOp.callB (CallAs.func ent47 rfl rfl) (Bors.cons (Bor.pure rfl) Bors.nil) rfl rfl (i_isSide_ok a0 r1 hf1)) hc2) <|
        (TR.l (r := AV.b true) rfl rfl (LOp.move rfl rfl) <|
        (TR.l (r := AV.ptr [AV.i64 a1, AV.sl a2.length (a2.map AV.f32)]) rfl rfl (LOp.fap und27 rfl siz2 rfl rfl rfl) <|
        (TR.l (r := AV.i64 a1) rfl rfl (LOp.load1 agg2 rfl rfl) <|
        (TR.d (r := AV.b false) (fs := []) rfl rfl (TOp.eqb (TOp.callB (CallAs.func ent47 rfl rfl) (Bors.cons (Bor.pure rfl) Bors.nil) rfl rfl (i_isSide_ok a1 r2 hf3)) hc4) <|
        (TR.l (r := AV.b false) rfl rfl (LOp.pick_true rfl rfl rfl) <|
        (TR.l (r := AV.b false) rfl rfl (LOp.move rfl rfl) <|
        (TR.s rfl rfl <|
        (TR.s rfl rfl <|
        (TR.s rfl rfl <|
        (TR.s rfl rfl <|
        (TR.s rfl rfl <|
        (TR.s rfl rfl <|
        (TR.s rfl rfl <|
        (TR.s rfl rfl <|
        (TR.s rfl rfl <|
        (TR.l (r := AV.b false) rfl rfl (LOp.pick_false rfl rfl rfl) <|
        (TR.l (r := AV.b false) rfl rfl (LOp.move rfl rfl) <|
        (TR.s rfl rfl <|
        (TR.s rfl rfl <|
        (TR.s rfl rfl <|
        (TR.l (r := AV.b false) rfl rfl (LOp.pick_false rfl rfl rfl) <|
        (TR.l (r := AV.b false) rfl rfl (LOp.assign rfl rfl) <|
        TR.nil))))))))))))))))))))))))) rfl (by kernel_rfl) rfl fills_nil rfl ?_
      iterate 25 refine ROps.dropS ?_
      refine ROps.drop0 ?_
      refine ROps.nil ?_
      refine RunC.ret ?_
      have hq := Option.some.inj h
      subst q0
      exact bodyQ.pure (.inr rfl) rfl (Res.one rfl (RV.tmp rfl))
  · refine RunC.region_draw (Γ' := []) 25 mixed 
      (TR.l (r := AV.ptr [AV.i64 a0, AV.i64 a1, AV.sl a2.length (a2.map AV.f32)]) rfl rfl (LOp.fap und27 rfl siz2 rfl rfl rfl) <|
      (TR.l (r := AV.i64 a0) rfl rfl (LOp.load1 agg2 rfl rfl) <|
      (TR.d (r := AV.b false) (fs := []) rfl rfl (TOp.eqb (TOp.callB (CallAs.func ent47 rfl rfl) (Bors.cons (Bor.pure rfl) Bors.nil) rfl rfl (i_isSide_ok a0 r1 hf1)) hc2) <|
      (TR.l (r := AV.b false) rfl rfl (LOp.move rfl rfl) <|
      (TR.s rfl rfl <|
      (TR.s rfl rfl <|
      (TR.s rfl rfl <|
      (TR.l (r := AV.b false) rfl rfl (LOp.pick_false rfl rfl rfl) <|
      (TR.l (r := AV.b false) rfl rfl (LOp.move rfl rfl) <|
      (TR.s rfl rfl <|
      (TR.s rfl rfl <|
      (TR.s rfl rfl <|
      (TR.s rfl rfl <|
      (TR.s rfl rfl <|
      (TR.s rfl rfl <|
      (TR.s rfl rfl <|
      (TR.s rfl rfl <|
      (TR.s rfl rfl <|
      (TR.l (r := AV.b false) rfl rfl (LOp.pick_false rfl rfl rfl) <|
      (TR.l (r := AV.b false) rfl rfl (LOp.move rfl rfl) <|
      (TR.s rfl rfl <|
      (TR.s rfl rfl <|
      (TR.s rfl rfl <|
      (TR.l (r := AV.b false) rfl rfl (LOp.pick_false rfl rfl rfl) <|
      (TR.l (r := AV.b false) rfl rfl (LOp.assign rfl rfl) <|
      TR.nil))))))))))))))))))))))))) rfl (by kernel_rfl) rfl fills_nil rfl ?_
    iterate 25 refine ROps.dropS ?_
    refine ROps.drop0 ?_
    refine ROps.nil ?_
    refine RunC.ret ?_
    have hq := Option.some.inj h
    subst q0
    exact bodyQ.pure (.inr rfl) rfl (Res.one rfl (RV.tmp rfl))
noncomputable def i_isSquare (a0 : Int) (a1 : Int) (a2 : List F) : Option (Bool) :=
  obind (i_ValidMatrix a0 a1 a2) fun (r1 : Bool) =>
  bsel r1 (
    some (decide (a0 = a1))) (
    some false)
theorem i_isSquare_ok (a0 : Int) (a1 : Int) (a2 : List F) (q0 : Bool) (h : i_isSquare a0 a1 a2 = some q0) : Ev Try.prog 59 [AV.agg [AV.i64 a0, AV.i64 a1, AV.sl a2.length (a2.map AV.f32)]] [] (AV.b q0) [] := by
  refine Ev.start Try.func59 rfl rfl 0 (τ := [(0, AV.agg [AV.i64 a0, AV.i64 a1, AV.sl a2.length (a2.map AV.f32)])]) rfl (Γ' := []) rfl (n := 25) rfl (g := 0) rfl (fun _ => rfl) ?_
  unfold i_isSquare at h
  refine RunC.seq ?_
  refine RunC.regionW ?_
  refine ROps.d (r := AV.ptr [AV.i64 a0, AV.i64 a1, AV.sl a2.length (a2.map AV.f32)]) (fs := []) (Γ' := []) rfl rfl rfl (TOp.box_s rfl rfl rfl) rfl ?_
  refine ROps.l (r := AV.b false) rfl rfl rfl (LOp.assign rfl rfl) ?_
  refine ROps.nil ?_
  refine RunC.seq ?_
  obtain ⟨r1, hf1, h⟩ := obind_some h
  rcases bsel_some h with ⟨hc2, h⟩ | ⟨hc2, h⟩
  · refine RunC.regionW ?_
    refine ROps.l (r := AV.agg [AV.i64 a0, AV.i64 a1, AV.sl a2.length (a2.map AV.f32)]) rfl rfl rfl (LOp.loadAgg agg27 siz27 rfl rfl rfl rfl) ?_
    refine ROps.d (r := AV.b true) (fs := []) (Γ' := []) rfl rfl rfl (TOp.eqb (TOp.callB (CallAs.func ent45 rfl rfl) (Bors.cons (Bor.agg (Bors.cons (Bor.pure rfl) (Bors.cons (Bor.pure rfl) (Bors.cons (Bor.sl (fun _ => rfl)) Bors.nil)))) Bors.nil) rfl rfl (i_ValidMatrix_ok a0 a1 a2 r1 hf1)) hc2) rfl ?_
    refine ROps.l (r := AV.b true) rfl rfl rfl (LOp.move rfl rfl) ?_
    refine ROps.l (r := AV.ptr [AV.i64 a0, AV.i64 a1, AV.sl a2.length (a2.map AV.f32)]) rfl rfl rfl (LOp.fap und27 rfl siz2 rfl rfl rfl) ?_
    refine ROps.l (r := AV.i64 a0) rfl rfl rfl (LOp.load1 agg2 rfl rfl) ?_
    refine ROps.l (r := AV.ptr [AV.i64 a1, AV.sl a2.length (a2.map AV.f32)]) rfl rfl rfl (LOp.fap und27 rfl siz2 rfl rfl rfl) ?_
    refine ROps.l (r := AV.i64 a1) rfl rfl rfl (LOp.load1 agg2 rfl rfl) ?_
    refine ROps.l (r := AV.b (decide (a0 = a1))) rfl rfl rfl (LOp.eql rfl rfl rfl) ?_
    refine ROps.l (r := AV.b (decide (a0 = a1))) rfl rfl rfl (LOp.pick_true rfl rfl rfl) ?_
    refine ROps.l (r := AV.b (decide (a0 = a1))) rfl rfl rfl (LOp.assign rfl rfl) ?_
    refine ROps.nil ?_
    refine RunC.ret ?_
    have hq := Option.some.inj h
    subst q0
    exact bodyQ.pure (.inr rfl) rfl (Res.one rfl (RV.tmp rfl))
  · refine RunC.regionW ?_
    refine ROps.l (r := AV.agg [AV.i64 a0, AV.i64 a1, AV.sl a2.length (a2.map AV.f32)]) rfl rfl rfl (LOp.loadAgg agg27 siz27 rfl rfl rfl rfl) ?_
    refine ROps.d (r := AV.b false) (fs := []) (Γ' := []) rfl rfl rfl (TOp.eqb (TOp.callB (CallAs.func ent45 rfl rfl) (Bors.cons (Bor.agg (Bors.cons (Bor.pure rfl) (Bors.cons (Bor.pure rfl) (Bors.cons (Bor.sl (fun _ => rfl)) Bors.nil)))) Bors.nil) rfl rfl (i_ValidMatrix_ok a0 a1 a2 r1 hf1)) hc2) rfl ?_
    refine ROps.l (r := AV.b false) rfl rfl rfl (LOp.move rfl rfl) ?_
    refine ROps.s rfl rfl rfl ?_
    refine ROps.s rfl rfl rfl ?_
    refine ROps.s rfl rfl rfl ?_
    refine ROps.s rfl rfl rfl ?_
    refine ROps.s rfl rfl rfl ?_
    refine ROps.l (r := AV.b false) rfl rfl rfl (LOp.pick_false rfl rfl rfl) ?_
    refine ROps.l (r := AV.b false) rfl rfl rfl (LOp.assign rfl rfl) ?_
    refine ROps.nil ?_
    refine RunC.ret ?_
    have hq := Option.some.inj h
    subst q0
    exact bodyQ.pure (.inr rfl) rfl (Res.one rfl (RV.tmp rfl))
noncomputable def x_slices_Clone_float32_float32 (a0 : List F) : Option ((List F)) :=
  need (apok 4 0 a0.length) <|
  some (([] : List F) ++ a0)
theorem x_slices_Clone_float32_float32_ok (a0 : List F) (q0 : List F) (h : x_slices_Clone_float32_float32 a0 = some q0) : Ev Try.prog 92 [AV.sl a0.length (a0.map AV.f32)] [] (AV.oref 0 0 0 q0.length) [⟨0, some (q0.map AV.f32)⟩] := by
  refine Ev.start Try.func92 rfl rfl 1 (τ := [(0, AV.sl a0.length (a0.map AV.f32))]) rfl (Γ' := [⟨0, none⟩]) rfl (n := 17) rfl (g := 0) rfl (fun _ => rfl) ?_
  unfold x_slices_Clone_float32_float32 at h
  refine RunC.seq ?_
  refine RunC.regionW ?_
  refine ROps.l (r := AV.nilsl) rfl rfl rfl (LOp.assign rfl rfl) ?_
  refine ROps.nil ?_
  refine RunC.seq ?_
  refine RunC.seq ?_
  refine RunC.regionW ?_
  refine ROps.l (r := AV.sl a0.length (a0.map AV.f32)) rfl rfl rfl (LOp.move rfl rfl) ?_
  refine ROps.eqnil rfl pun22 rfl rfl rfl rfl rfl ?_ ?_
  · intro hnil1
    refine ROps.nil ?_
    refine RunC.cond_true rfl rfl ?_
    refine RunC.seq ?_
    refine RunC.regionW ?_
    refine ROps.l (r := AV.nilsl) rfl rfl rfl (LOp.assign rfl rfl) ?_
    refine ROps.nil ?_
    refine RunC.nil_slot (Γ' := [⟨1, some (([] : List F).map AV.f32)⟩]) 2 0 rfl rfl rfl ?_
    refine RunC.ret ?_
    have hnl := List.map_eq_nil_iff.1 hnil1
    have hq : some ([] : List F) = some q0 := by
      rw [← h]; subst hnl; simp [need, apok]
    have hq := Option.some.inj hq
    subst q0
    exact bodyQ.mk (r' := AV.oref 0 1 0 (([] : List F).length)) [(0, 1)] (.inr rfl) rfl (show List.Nodup [0] from by decide) rfl rfl (Res.eq (Res.one rfl (RV.tmp rfl)) (by rw [(show ([] : List F).length = 0 from rfl)] <;> rfl)) (SelL.arr0 (f := AV.f32) (fun _ => rfl) rfl trivial)
  · refine ROps.nil ?_
    refine RunC.cond_false rfl rfl ?_
    refine RunC.skip ?_
    refine RunC.seq ?_
    obtain ⟨hm2, h⟩ := need_some h
    refine RunC.regionW ?_
    refine ROps.d (r := AV.oref 0 1 0 0) (fs := [(0, (([] : List F).map AV.f32))]) (Γ' := [⟨1, some (([] : List F).map AV.f32)⟩]) rfl rfl rfl (TOp.buildSlice_o (g := ⟨0, none⟩) (za := AV.f32 (some 0)) (qs := []) 0 rfl und22 siz25 zer25 rfl zel25 rfl rfl trivial rfl) rfl ?_
    refine ROps.l (r := AV.sl a0.length (a0.map AV.f32)) rfl rfl rfl (LOp.move rfl rfl) ?_
    refine ROps.app (f := AV.f32) (xs := ([] : List F)) (ys := a0) (Γ' := [⟨2, some ((([] : List F) ++ a0).map AV.f32)⟩]) rfl pun22 inf25 rfl rfl rfl rfl rfl rfl rfl rfl rfl (by simp) (ReadAs.sl (by simp)) (ones_map (fun _ => rfl)) (ap_by hm2) (ap_mx hm2) rfl ?_
    refine ROps.l (r := AV.oref 0 2 0 (0 + a0.length)) rfl rfl rfl (LOp.assign rfl rfl) ?_
    refine ROps.nil ?_
    refine RunC.ret ?_
    have hq := Option.some.inj h
    subst q0
    exact bodyQ.mk (r' := AV.oref 0 2 0 ((([] : List F) ++ a0).length)) [(0, 2)] (.inr rfl) rfl (show List.Nodup [0] from by decide) rfl rfl (Res.eq (Res.one rfl (RV.tmp rfl)) (by rw [(show (([] : List F) ++ a0).length = (0 + a0.length) from (app_len rfl rfl))] <;> rfl)) (SelL.arr0 (f := AV.f32) (fun _ => rfl) rfl trivial)
noncomputable def i_Matrix_clone (a0 : Int) (a1 : Int) (a2 : List F) : Option (Int × Int × (List F)) :=
  obind (x_slices_Clone_float32_float32 a2) fun (r1 : List F) =>
  some (a0, a1, r1)
theorem i_Matrix_clone_ok (a0 : Int) (a1 : Int) (a2 : List F) (q0 : Int) (q1 : Int) (q2 : List F) (h : i_Matrix_clone a0 a1 a2 = some (q0, q1, q2)) : Ev Try.prog 48 [AV.agg [AV.i64 a0, AV.i64 a1, AV.sl a2.length (a2.map AV.f32)]] [] (AV.agg [AV.i64 q0, AV.i64 q1, AV.oref 0 0 0 q2.length]) [⟨0, some (q2.map AV.f32)⟩] := by
  refine Ev.start Try.func48 rfl rfl 2 (τ := [(0, AV.agg [AV.i64 a0, AV.i64 a1, AV.sl a2.length (a2.map AV.f32)])]) rfl (Γ' := [⟨0, none⟩, ⟨0, none⟩]) rfl (n := 23) rfl (g := 0) rfl (fun _ => rfl) ?_
  unfold i_Matrix_clone at h
  refine RunC.seq ?_
  refine RunC.regionW ?_
  refine ROps.d (r := AV.ptr [AV.i64 a0, AV.i64 a1, AV.sl a2.length (a2.map AV.f32)]) (fs := []) (Γ' := [⟨0, none⟩, ⟨0, none⟩]) rfl rfl rfl (TOp.box_s rfl rfl rfl) rfl ?_
  refine ROps.d (r := AV.optr 0 1 0) (fs := [(0, [AV.i64 0, AV.i64 0, AV.nilsl])]) (Γ' := [⟨1, some [AV.i64 0, AV.i64 0, AV.nilsl]⟩, ⟨0, none⟩]) rfl rfl rfl (TOp.alloc_o (g := ⟨0, none⟩) 0 rfl zer27 zok27 rfl) rfl ?_
  refine ROps.nil ?_
  refine RunC.seq ?_
  obtain ⟨r1, hf1, h⟩ := obind_some h
  refine RunC.region_draw (Γ' := [⟨1, some [AV.i64 0, AV.i64 0, AV.nilsl]⟩, ⟨1, some (r1.map AV.f32)⟩]) 8 mixed 
    (TR.l (r := AV.ptr [AV.i64 a0, AV.i64 a1, AV.sl a2.length (a2.map AV.f32)]) rfl rfl (LOp.fap und27 rfl siz2 rfl rfl rfl) <|
    (TR.l (r := AV.i64 a0) rfl rfl (LOp.load1 agg2 rfl rfl) <|
    (TR.l (r := AV.ptr [AV.i64 a1, AV.sl a2.length (a2.map AV.f32)]) rfl rfl (LOp.fap und27 rfl siz2 rfl rfl rfl) <|
    (TR.l (r := AV.i64 a1) rfl rfl (LOp.load1 agg2 rfl rfl) <|
    (TR.l (r := AV.ptr [AV.sl a2.length (a2.map AV.f32)]) rfl rfl (LOp.fap und27 rfl siz22 rfl rfl rfl) <|
    (TR.l (r := AV.sl a2.length (a2.map AV.f32)) rfl rfl (LOp.load1 agg22 rfl rfl) <|
    (TR.d (r := AV.oref 1 1 0 r1.length) (fs := [(1, (r1.map AV.f32))]) rfl rfl (TOp.callBN (ls := [(r1.map AV.f32)]) [1] (CallAs.func ent92 rfl rfl) (Bors.cons (Bor.sl (fun _ => rfl)) Bors.nil) rfl (x_slices_Clone_float32_float32_ok a2 r1 hf1) (and_all (lts0_map (f := AV.f32) (fun _ => rfl) _) rfl) (and_all (noss_map (f := AV.f32) (fun _ => rfl) _) rfl) rfl (by decide) (ns_of ⟨⟨_, rfl⟩, trivial⟩)) <|
    (TR.l (r := AV.agg [AV.i64 a0, AV.i64 a1, AV.oref 1 1 0 r1.length]) rfl rfl (LOp.build (qs := [(0, [AV.i64 a0]), (1, [AV.i64 a1]), (2, [AV.oref 1 1 0 r1.length])]) zer27 zok27 und27 plc27 rfl ⟨rfl, ⟨_, ALe.refl _, rfl⟩, ⟨rfl, ⟨_, ALe.refl _, rfl⟩, ⟨rfl, ⟨_, ALe.refl _, rfl⟩, trivial⟩⟩⟩ rfl) <|
    TR.nil)))))))) rfl (by kernel_rfl) rfl (fills_of (by show List.Nodup [1]; decide) ⟨⟨_, rfl⟩, trivial⟩) rfl ?_
  iterate 8 refine ROps.dropS ?_
  refine ROps.drop0 ?_
  refine ROps.store_le (r := AV.agg [AV.i64 a0, AV.i64 a1, AV.oref 1 1 0 r1.length]) (l' := [AV.i64 a0, AV.i64 a1, AV.oref 1 1 0 r1.length]) (Γ' := [⟨1, some [AV.i64 a0, AV.i64 a1, AV.oref 1 1 0 r1.length]⟩, ⟨1, some (r1.map AV.f32)⟩]) rfl siz27 rfl rfl rfl (ALe.refl _) rfl rfl rfl rfl (Nat.le_of_ble_eq_true rfl) rfl rfl ?_
  refine ROps.nil ?_
  refine RunC.ret ?_
  have hq := Option.some.inj h
  obtain ⟨hq0, hq⟩ := Prod.mk.inj hq
  obtain ⟨hq1, hq⟩ := Prod.mk.inj hq
  subst q0
  subst q1
  subst q2
  exact bodyQ.mk (r' := AV.agg [AV.i64 a0, AV.i64 a1, AV.oref 1 1 0 r1.length]) [(1, 1)] (.inr rfl) rfl (show List.Nodup [1] from by decide) rfl rfl (Res.one rfl (RV.cell agg27 siz27 rfl rfl rfl rfl)) (SelL.arr0 (f := AV.f32) (fun _ => rfl) rfl trivial)
noncomputable def i_Matrix_at (a0 : Int) (a1 : Int) (a2 : List F) (a3 : Int) (a4 : Int) : Option (F) :=
  olet (IntKind.i64.wrap (a3 * a1)) fun (x1 : Int) =>
  olet (IntKind.i64.wrap (x1 + a4)) fun (x2 : Int) =>
  obind (at? a2 x2) fun (e3 : F) =>
  some e3
theorem i_Matrix_at_ok (a0 : Int) (a1 : Int) (a2 : List F) (a3 : Int) (a4 : Int) (q0 : F) (h : i_Matrix_at a0 a1 a2 a3 a4 = some q0) : Ev Try.prog 51 [AV.agg [AV.i64 a0, AV.i64 a1, AV.sl a2.length (a2.map AV.f32)], AV.i64 a3, AV.i64 a4] [] (AV.f32 q0) [] := by
  refine Ev.start Try.func51 rfl rfl 0 (τ := [(0, AV.agg [AV.i64 a0, AV.i64 a1, AV.sl a2.length (a2.map AV.f32)]), (1, AV.i64 a3), (2, AV.i64 a4)]) rfl (Γ' := []) rfl (n := 35) rfl (g := 0) rfl (fun _ => rfl) ?_
  unfold i_Matrix_at at h
  refine RunC.seq ?_
  refine RunC.regionW ?_
  refine ROps.d (r := AV.ptr [AV.i64 a0, AV.i64 a1, AV.sl a2.length (a2.map AV.f32)]) (fs := []) (Γ' := []) rfl rfl rfl (TOp.box_s rfl rfl rfl) rfl ?_
  refine ROps.l (r := AV.f32 (some 0)) rfl rfl rfl (LOp.le (LOp.assign rfl rfl) (ALe.fl (by kernel_rfl) (by kernel_rfl))) ?_
  refine ROps.nil ?_
  refine RunC.seq ?_
  obtain ⟨x1, hx1, h⟩ := olet_some h
  obtain ⟨x2, hx2, h⟩ := olet_some h
  obtain ⟨e3, he3, h⟩ := obind_some h
  refine RunC.regionW ?_
  refine ROps.l (r := AV.ptr [AV.sl a2.length (a2.map AV.f32)]) rfl rfl rfl (LOp.fap und27 rfl siz22 rfl rfl rfl) ?_
  refine ROps.l (r := AV.sl a2.length (a2.map AV.f32)) rfl rfl rfl (LOp.load1 agg22 rfl rfl) ?_
  refine ROps.l (r := AV.i64 a3) rfl rfl rfl (LOp.move rfl rfl) ?_
  refine ROps.l (r := AV.ptr [AV.i64 a1, AV.sl a2.length (a2.map AV.f32)]) rfl rfl rfl (LOp.fap und27 rfl siz2 rfl rfl rfl) ?_
  refine ROps.l (r := AV.i64 a1) rfl rfl rfl (LOp.load1 agg2 rfl rfl) ?_
  refine ROps.l (r := AV.i64 x1) rfl rfl rfl (LOp.eqr (LOp.mul rfl rfl rfl) (congrArg (AV.ik .i64) hx1)) ?_
  refine ROps.l (r := AV.i64 a4) rfl rfl rfl (LOp.move rfl rfl) ?_
  refine ROps.l (r := AV.i64 x2) rfl rfl rfl (LOp.eqr (LOp.add rfl rfl rfl) (congrArg (AV.ik .i64) hx2)) ?_
  refine ROps.l (r := AV.ptr [AV.f32 e3]) rfl rfl rfl (LOp.le (LOp.ix (f := AV.f32) und22 siz25 rfl rfl rfl rfl he3) ALe.ptr) ?_
  refine ROps.l (r := AV.f32 e3) rfl rfl rfl (LOp.load1 agg25 rfl rfl) ?_
  refine ROps.l (r := AV.f32 e3) rfl rfl rfl (LOp.assign rfl rfl) ?_
  refine ROps.nil ?_
  refine RunC.ret ?_
  have hq := Option.some.inj h
  subst q0
  exact bodyQ.pure (.inr rfl) rfl (Res.one rfl (RV.tmp rfl))
noncomputable def i_Matrix_set_02o (a0 : Int) (a1 : Int) (a2 : Int) (a3 : Int) (a4 : F) (a5 : List F) : Option ((List F)) :=
  olet (IntKind.i64.wrap (a2 * a1)) fun (x1 : Int) =>
  olet (IntKind.i64.wrap (x1 + a3)) fun (x2 : Int) =>
  obind (setAt? a5 x2 a4) fun (L3 : List F) =>
  some L3
theorem i_Matrix_set_02o_ok (a0 : Int) (a1 : Int) (a2 : Int) (a3 : Int) (a4 : F) (a5 : List F) (q0 : List F) (h : i_Matrix_set_02o a0 a1 a2 a3 a4 a5 = some q0) : Ev Try.prog 60 [AV.agg [AV.i64 a0, AV.i64 a1, AV.oref 0 0 0 a5.length], AV.i64 a2, AV.i64 a3, AV.f32 a4] [⟨0, some (a5.map AV.f32)⟩] (AV.tup []) [⟨0, some (q0.map AV.f32)⟩] := by
  refine Ev.start Try.func60 rfl rfl 0 (τ := [(0, AV.agg [AV.i64 a0, AV.i64 a1, AV.oref 0 0 0 a5.length]), (1, AV.i64 a2), (2, AV.i64 a3), (3, AV.f32 a4)]) rfl (Γ' := [⟨0, some (a5.map AV.f32)⟩]) rfl (n := 36) rfl (g := 1) rfl (by decide) ?_
  unfold i_Matrix_set_02o at h
  refine RunC.seq ?_
  refine RunC.regionW ?_
  refine ROps.d (r := AV.ptr [AV.i64 a0, AV.i64 a1, AV.oref 0 0 0 a5.length]) (fs := []) (Γ' := [⟨0, some (a5.map AV.f32)⟩]) rfl rfl rfl (TOp.box_s rfl rfl rfl) rfl ?_
  refine ROps.nil ?_
  obtain ⟨x1, hx1, h⟩ := olet_some h
  obtain ⟨x2, hx2, h⟩ := olet_some h
  obtain ⟨L3, he3, h⟩ := obind_some h
  refine RunC.regionW ?_
  refine ROps.l (r := AV.ptr [AV.oref 0 0 0 a5.length]) rfl rfl rfl (LOp.fap und27 rfl siz22 rfl rfl rfl) ?_
  refine ROps.l (r := AV.oref 0 0 0 a5.length) rfl rfl rfl (LOp.load1 agg22 rfl rfl) ?_
  refine ROps.l (r := AV.i64 a2) rfl rfl rfl (LOp.move rfl rfl) ?_
  refine ROps.l (r := AV.ptr [AV.i64 a1, AV.oref 0 0 0 a5.length]) rfl rfl rfl (LOp.fap und27 rfl siz2 rfl rfl rfl) ?_
  refine ROps.l (r := AV.i64 a1) rfl rfl rfl (LOp.load1 agg2 rfl rfl) ?_
  refine ROps.l (r := AV.i64 x1) rfl rfl rfl (LOp.eqr (LOp.mul rfl rfl rfl) (congrArg (AV.ik .i64) hx1)) ?_
  refine ROps.l (r := AV.i64 a3) rfl rfl rfl (LOp.move rfl rfl) ?_
  refine ROps.l (r := AV.i64 x2) rfl rfl rfl (LOp.eqr (LOp.add rfl rfl rfl) (congrArg (AV.ik .i64) hx2)) ?_
  refine ROps.l (r := AV.f32 a4) rfl rfl rfl (LOp.move rfl rfl) ?_
  refine ROps.d (r := AV.optr 0 0 x2.toNat) (fs := []) (Γ' := [⟨0, some (a5.map AV.f32)⟩]) rfl rfl rfl (TOp.ixo und22 siz25 rfl rfl rfl (set_in he3 rfl) rfl) rfl ?_
  refine ROps.st (f := AV.f32) (i := x2) (Γ' := [⟨0, some (L3.map AV.f32)⟩]) rfl siz25 rfl rfl rfl (ALe.refl _) rfl rfl rfl he3 rfl ?_
  refine ROps.nil ?_
  have hq := Option.some.inj h
  subst q0
  exact bodyQ.mk (r' := AV.tup []) [(0, 0)] (.inl rfl) rfl (show List.Nodup [0] from by decide) rfl rfl (Res.zero rfl) (SelL.arr (f := AV.f32) (fun _ => rfl) rfl trivial)
noncomputable def i_areFactors (a0 : Int) (a1 : Int) (a2 : List F) (a3 : Int) (a4 : Int) (a5 : List F) : Option (Bool) :=
  obind (i_ValidMatrix a0 a1 a2) fun (r1 : Bool) =>
  bsel r1 (
    obind (i_ValidMatrix a3 a4 a5) fun (r2 : Bool) =>
    bsel r2 (
      some (decide (a1 = a3))) (
      some false)) (
    some false)
theorem i_areFactors_ok (a0 : Int) (a1 : Int) (a2 : List F) (a3 : Int) (a4 : Int) (a5 : List F) (q0 : Bool) (h : i_areFactors a0 a1 a2 a3 a4 a5 = some q0) : Ev Try.prog 101 [AV.agg [AV.i64 a0, AV.i64 a1, AV.sl a2.length (a2.map AV.f32)], AV.agg [AV.i64 a3, AV.i64 a4, AV.sl a5.length (a5.map AV.f32)]] [] (AV.b q0) [] := by
  refine Ev.start Try.func101 rfl rfl 0 (τ := [(0, AV.agg [AV.i64 a0, AV.i64 a1, AV.sl a2.length (a2.map AV.f32)]), (1, AV.agg [AV.i64 a3, AV.i64 a4, AV.sl a5.length (a5.map AV.f32)])]) rfl (Γ' := []) rfl (n := 37) rfl (g := 0) rfl (fun _ => rfl) ?_
  unfold i_areFactors at h
  refine RunC.seq ?_
  refine RunC.regionW ?_
  refine ROps.d (r := AV.ptr [AV.i64 a0, AV.i64 a1, AV.sl a2.length (a2.map AV.f32)]) (fs := []) (Γ' := []) rfl rfl rfl (TOp.box_s rfl rfl rfl) rfl ?_
  refine ROps.d (r := AV.ptr [AV.i64 a3, AV.i64 a4, AV.sl a5.length (a5.map AV.f32)]) (fs := []) (Γ' := []) rfl rfl rfl (TOp.box_s rfl rfl rfl) rfl ?_
  refine ROps.l (r := AV.b false) rfl rfl rfl (LOp.assign rfl rfl) ?_
  refine ROps.nil ?_
  refine RunC.seq ?_
  obtain ⟨r1, hf1, h⟩ := obind_some h
  rcases bsel_some h with ⟨hc2, h⟩ | ⟨hc2, h⟩
  · obtain ⟨r2, hf3, h⟩ := obind_some h
    rcases bsel_some h with ⟨hc4, h⟩ | ⟨hc4, h⟩
    · refine RunC.regionW ?_
      refine ROps.l (r := AV.agg [AV.i64 a0, AV.i64 a1, AV.sl a2.length (a2.map AV.f32)]) rfl rfl rfl (LOp.loadAgg agg27 siz27 rfl rfl rfl rfl) ?_
      refine ROps.d (r := AV.b true) (fs := []) (Γ' := []) rfl rfl rfl (TOp.eqb (TOp.callB (CallAs.func ent45 rfl rfl) (Bors.cons (Bor.agg (Bors.cons (Bor.pure rfl) (Bors.cons (Bor.pure rfl) (Bors.cons (Bor.sl (fun _ => rfl)) Bors.nil)))) Bors.nil) rfl rfl (i_ValidMatrix_ok a0 a1 a2 r1 hf1)) hc2) rfl ?_
      refine ROps.l (r := AV.b true) rfl rfl rfl (LOp.move rfl rfl) ?_
      refine ROps.l (r := AV.agg [AV.i64 a3, AV.i64 a4, AV.sl a5.length (a5.map AV.f32)]) rfl rfl rfl (LOp.loadAgg agg27 siz27 rfl rfl rfl rfl) ?_
      refine ROps.d (r := AV.b true) (fs := []) (Γ' := []) rfl rfl rfl (TOp.eqb (TOp.callB (CallAs.func ent45 rfl rfl) (Bors.cons (Bor.agg (Bors.cons (Bor.pure rfl) (Bors.cons (Bor.pure rfl) (Bors.cons (Bor.sl (fun _ => rfl)) Bors.nil)))) Bors.nil) rfl rfl (i_ValidMatrix_ok a3 a4 a5 r2 hf3)) hc4) rfl ?_
      refine ROps.l (r := AV.b true) rfl rfl rfl (LOp.pick_true rfl rfl rfl) ?_
      refine ROps.l (r := AV.b true) rfl rfl rfl (LOp.move rfl rfl) ?_
      refine ROps.l (r := AV.ptr [AV.i64 a1, AV.sl a2.length (a2.map AV.f32)]) rfl rfl rfl (LOp.fap und27 rfl siz2 rfl rfl rfl) ?_
      refine ROps.l (r := AV.i64 a1) rfl rfl rfl (LOp.load1 agg2 rfl rfl) ?_
      refine ROps.l (r := AV.ptr [AV.i64 a3, AV.i64 a4, AV.sl a5.length (a5.map AV.f32)]) rfl rfl rfl (LOp.fap und27 rfl siz2 rfl rfl rfl) ?_
      refine ROps.l (r := AV.i64 a3) rfl rfl rfl (LOp.load1 agg2 rfl rfl) ?_
      refine ROps.l (r := AV.b (decide (a1 = a3))) rfl rfl rfl (LOp.eql rfl rfl rfl) ?_
      refine ROps.l (r := AV.b (decide (a1 = a3))) rfl rfl rfl (LOp.pick_true rfl rfl rfl) ?_
      refine ROps.l (r := AV.b (decide (a1 = a3))) rfl rfl rfl (LOp.assign rfl rfl) ?_
      refine ROps.nil ?_
      refine RunC.ret ?_
      have hq := Option.some.inj h
      subst q0
      exact bodyQ.pure (.inr rfl) rfl (Res.one rfl (RV.tmp rfl))
    · refine RunC.regionW ?_
      refine ROps.l (r := AV.agg [AV.i64 a0, AV.i64 a1, AV.sl a2.length (a2.map AV.f32)]) rfl rfl rfl (LOp.loadAgg agg27 siz27 rfl rfl rfl rfl) ?_
      refine ROps.d (r := AV.b true) (fs := []) (Γ' := []) rfl rfl rfl (TOp.eqb (TOp.callB (CallAs.func ent45 rfl rfl) (Bors.cons (Bor.agg (Bors.cons (Bor.pure rfl) (Bors.cons (Bor.pure rfl) (Bors.cons (Bor.sl (fun _ => rfl)) Bors.nil)))) Bors.nil) rfl rfl (i_ValidMatrix_ok a0 a1 a2 r1 hf1)) hc2) rfl ?_
      refine ROps.l (r := AV.b true) rfl rfl rfl (LOp.move rfl rfl) ?_
      refine ROps.l (r := AV.agg [AV.i64 a3, AV.i64 a4, AV.sl a5.length (a5.map AV.f32)]) rfl rfl rfl (LOp.loadAgg agg27 siz27 rfl rfl rfl rfl) ?_
      refine ROps.d (r := AV.b false) (fs := []) (Γ' := []) rfl rfl rfl (TOp.eqb (TOp.callB (CallAs.func ent45 rfl rfl) (Bors.cons (Bor.agg (Bors.cons (Bor.pure rfl) (Bors.cons (Bor.pure rfl) (Bors.cons (Bor.sl (fun _ => rfl)) Bors.nil)))) Bors.nil) rfl rfl (i_ValidMatrix_ok a3 a4 a5 r2 hf3)) hc4) rfl ?_
      refine ROps.l (r := AV.b false) rfl rfl rfl (LOp.pick_true rfl rfl rfl) ?_
      refine ROps.l (r := AV.b false) rfl rfl rfl (LOp.move rfl rfl) ?_
      refine ROps.s rfl rfl rfl ?_
      refine ROps.s rfl rfl rfl ?_
      refine ROps.s rfl rfl rfl ?_
      refine ROps.s rfl rfl rfl ?_
      refine ROps.s rfl rfl rfl ?_
      refine ROps.l (r := AV.b false) rfl rfl rfl (LOp.pick_false rfl rfl rfl) ?_
      refine ROps.l (r := AV.b false) rfl rfl rfl (LOp.assign rfl rfl) ?_
      refine ROps.nil ?_
      refine RunC.ret ?_
      have hq := Option.some.inj h
      subst q0
      exact bodyQ.pure (.inr rfl) rfl (Res.one rfl (RV.tmp rfl))
  · refine RunC.regionW ?_
    refine ROps.l (r := AV.agg [AV.i64 a0, AV.i64 a1, AV.sl a2.length (a2.map AV.f32)]) rfl rfl rfl (LOp.loadAgg agg27 siz27 rfl rfl rfl rfl) ?_
    refine ROps.d (r := AV.b false) (fs := []) (Γ' := []) rfl rfl rfl (TOp.eqb (TOp.callB (CallAs.func ent45 rfl rfl) (Bors.cons (Bor.agg (Bors.cons (Bor.pure rfl) (Bors.cons (Bor.pure rfl) (Bors.cons (Bor.sl (fun _ => rfl)) Bors.nil)))) Bors.nil) rfl rfl (i_ValidMatrix_ok a0 a1 a2 r1 hf1)) hc2) rfl ?_
    refine ROps.l (r := AV.b false) rfl rfl rfl (LOp.move rfl rfl) ?_
    refine ROps.s rfl rfl rfl ?_
    refine ROps.s rfl rfl rfl ?_
    refine ROps.l (r := AV.b false) rfl rfl rfl (LOp.pick_false rfl rfl rfl) ?_
    refine ROps.l (r := AV.b false) rfl rfl rfl (LOp.move rfl rfl) ?_
    refine ROps.s rfl rfl rfl ?_
    refine ROps.s rfl rfl rfl ?_
    refine ROps.s rfl rfl rfl ?_
    refine ROps.s rfl rfl rfl ?_
    refine ROps.s rfl rfl rfl ?_
    refine ROps.l (r := AV.b false) rfl rfl rfl (LOp.pick_false rfl rfl rfl) ?_
    refine ROps.l (r := AV.b false) rfl rfl rfl (LOp.assign rfl rfl) ?_
    refine ROps.nil ?_
    refine RunC.ret ?_
    have hq := Option.some.inj h
    subst q0
    exact bodyQ.pure (.inr rfl) rfl (Res.one rfl (RV.tmp rfl))
noncomputable def i_newMatrix (a0 : Int) (a1 : Int) : Option (Int × Int × (List F)) :=
  olet (IntKind.i64.wrap (a0 * a1)) fun (x1 : Int) =>
  need (mkok 4 x1) <|
  some (a0, a1, (List.replicate x1.toNat (some 0)))
theorem i_newMatrix_ok (a0 : Int) (a1 : Int) (q0 : Int) (q1 : Int) (q2 : List F) (h : i_newMatrix a0 a1 = some (q0, q1, q2)) : Ev Try.prog 49 [AV.i64 a0, AV.i64 a1] [] (AV.agg [AV.i64 q0, AV.i64 q1, AV.oref 0 0 0 q2.length]) [⟨0, some (q2.map AV.f32)⟩] := by
  refine Ev.start Try.func49 rfl rfl 2 (τ := [(0, AV.i64 a0), (1, AV.i64 a1)]) rfl (Γ' := [⟨0, none⟩, ⟨0, none⟩]) rfl (n := 25) rfl (g := 0) rfl (fun _ => rfl) ?_
  unfold i_newMatrix at h
  refine RunC.seq ?_
  refine RunC.regionW ?_
  refine ROps.d (r := AV.optr 0 1 0) (fs := [(0, [AV.i64 0, AV.i64 0, AV.nilsl])]) (Γ' := [⟨1, some [AV.i64 0, AV.i64 0, AV.nilsl]⟩, ⟨0, none⟩]) rfl rfl rfl (TOp.alloc_o (g := ⟨0, none⟩) 0 rfl zer27 zok27 rfl) rfl ?_
  refine ROps.nil ?_
  refine RunC.seq ?_
  obtain ⟨x1, hx1, h⟩ := olet_some h
  obtain ⟨hm2, h⟩ := need_some h
  refine RunC.regionW ?_
  refine ROps.l (r := AV.i64 a0) rfl rfl rfl (LOp.move rfl rfl) ?_
  refine ROps.l (r := AV.i64 a1) rfl rfl rfl (LOp.move rfl rfl) ?_
  refine ROps.l (r := AV.i64 a0) rfl rfl rfl (LOp.move rfl rfl) ?_
  refine ROps.l (r := AV.i64 a1) rfl rfl rfl (LOp.move rfl rfl) ?_
  refine ROps.l (r := AV.i64 x1) rfl rfl rfl (LOp.eqr (LOp.mul rfl rfl rfl) (congrArg (AV.ik .i64) hx1)) ?_
  refine ROps.d (r := AV.oref 1 1 0 x1.toNat) (fs := [(1, ((List.replicate x1.toNat (some 0)).map AV.f32))]) (Γ' := [⟨1, some [AV.i64 0, AV.i64 0, AV.nilsl]⟩, ⟨1, some ((List.replicate x1.toNat (some 0)).map AV.f32)⟩]) rfl rfl rfl (TOp.mkS (g := ⟨0, none⟩) (t := 22) (e := 25) (by_ := 4) (f := AV.f32) (zv := some 0) 1 rfl und22 tin25 rfl siz25 zer25 rfl zel25 rfl rfl rfl hm2) rfl ?_
  refine ROps.l (r := AV.agg [AV.i64 a0, AV.i64 a1, AV.oref 1 1 0 x1.toNat]) rfl rfl rfl (LOp.build (qs := [(0, [AV.i64 a0]), (1, [AV.i64 a1]), (2, [AV.oref 1 1 0 x1.toNat])]) zer27 zok27 und27 plc27 rfl ⟨rfl, ⟨_, ALe.refl _, rfl⟩, ⟨rfl, ⟨_, ALe.refl _, rfl⟩, ⟨rfl, ⟨_, ALe.refl _, rfl⟩, trivial⟩⟩⟩ rfl) ?_
  refine ROps.store_le (r := AV.agg [AV.i64 a0, AV.i64 a1, AV.oref 1 1 0 x1.toNat]) (l' := [AV.i64 a0, AV.i64 a1, AV.oref 1 1 0 x1.toNat]) (Γ' := [⟨1, some [AV.i64 a0, AV.i64 a1, AV.oref 1 1 0 x1.toNat]⟩, ⟨1, some ((List.replicate x1.toNat (some 0)).map AV.f32)⟩]) rfl siz27 rfl rfl rfl (ALe.refl _) rfl rfl rfl rfl (Nat.le_of_ble_eq_true rfl) rfl rfl ?_
  refine ROps.nil ?_
  refine RunC.ret ?_
  have hq := Option.some.inj h
  obtain ⟨hq0, hq⟩ := Prod.mk.inj hq
  obtain ⟨hq1, hq⟩ := Prod.mk.inj hq
  subst q0
  subst q1
  subst q2
  exact bodyQ.mk (r' := AV.agg [AV.i64 a0, AV.i64 a1, AV.oref 1 1 0 ((List.replicate x1.toNat (some 0)).length)]) [(1, 1)] (.inr rfl) rfl (show List.Nodup [1] from by decide) rfl rfl (Res.eq (Res.one rfl (RV.cell agg27 siz27 rfl rfl rfl rfl)) (by rw [(show (List.replicate x1.toNat (some 0)).length = x1.toNat from by simp)] <;> rfl)) (SelL.arr0 (f := AV.f32) (fun _ => rfl) rfl trivial)
noncomputable def i_Matrix_row (a0 : Int) (a1 : Int) (a2 : List F) (a3 : Int) : Option ((List F)) :=
  olet (IntKind.i64.wrap (a3 * a1)) fun (x1 : Int) =>
  olet (IntKind.i64.wrap (a3 + 1)) fun (x2 : Int) =>
  olet (IntKind.i64.wrap (x2 * a1)) fun (x3 : Int) =>
  obind (sub? a2 x1 x3) fun (l4 : List F) =>
  obind (x_slices_Clone_float32_float32 l4) fun (r5 : List F) =>
  some r5
theorem i_Matrix_row_ok (a0 : Int) (a1 : Int) (a2 : List F) (a3 : Int) (q0 : List F) (h : i_Matrix_row a0 a1 a2 a3 = some q0) : Ev Try.prog 52 [AV.agg [AV.i64 a0, AV.i64 a1, AV.sl a2.length (a2.map AV.f32)], AV.i64 a3] [] (AV.oref 0 0 0 q0.length) [⟨0, some (q0.map AV.f32)⟩] := by
  refine Ev.start Try.func52 rfl rfl 1 (τ := [(0, AV.agg [AV.i64 a0, AV.i64 a1, AV.sl a2.length (a2.map AV.f32)]), (1, AV.i64 a3)]) rfl (Γ' := [⟨0, none⟩]) rfl (n := 37) rfl (g := 0) rfl (fun _ => rfl) ?_
  unfold i_Matrix_row at h
  refine RunC.seq ?_
  refine RunC.regionW ?_
  refine ROps.d (r := AV.ptr [AV.i64 a0, AV.i64 a1, AV.sl a2.length (a2.map AV.f32)]) (fs := []) (Γ' := [⟨0, none⟩]) rfl rfl rfl (TOp.box_s rfl rfl rfl) rfl ?_
  refine ROps.l (r := AV.nilsl) rfl rfl rfl (LOp.assign rfl rfl) ?_
  refine ROps.nil ?_
  refine RunC.seq ?_
  obtain ⟨x1, hx1, h⟩ := olet_some h
  obtain ⟨x2, hx2, h⟩ := olet_some h
  obtain ⟨x3, hx3, h⟩ := olet_some h
  obtain ⟨l4, hs4, h⟩ := obind_some h
  obtain ⟨r5, hf5, h⟩ := obind_some h
  refine RunC.regionW ?_
  refine ROps.l (r := AV.ptr [AV.sl a2.length (a2.map AV.f32)]) rfl rfl rfl (LOp.fap und27 rfl siz22 rfl rfl rfl) ?_
  refine ROps.l (r := AV.sl a2.length (a2.map AV.f32)) rfl rfl rfl (LOp.load1 agg22 rfl rfl) ?_
  refine ROps.l (r := AV.i64 a3) rfl rfl rfl (LOp.move rfl rfl) ?_
  refine ROps.l (r := AV.ptr [AV.i64 a1, AV.sl a2.length (a2.map AV.f32)]) rfl rfl rfl (LOp.fap und27 rfl siz2 rfl rfl rfl) ?_
  refine ROps.l (r := AV.i64 a1) rfl rfl rfl (LOp.load1 agg2 rfl rfl) ?_
  refine ROps.l (r := AV.i64 x1) rfl rfl rfl (LOp.eqr (LOp.mul rfl rfl rfl) (congrArg (AV.ik .i64) hx1)) ?_
  refine ROps.l (r := AV.i64 a3) rfl rfl rfl (LOp.move rfl rfl) ?_
  refine ROps.l (r := AV.i64 x2) rfl rfl rfl (LOp.eqr (LOp.add rfl rfl rfl) (congrArg (AV.ik .i64) hx2)) ?_
  refine ROps.l (r := AV.ptr [AV.i64 a1, AV.sl a2.length (a2.map AV.f32)]) rfl rfl rfl (LOp.fap und27 rfl siz2 rfl rfl rfl) ?_
  refine ROps.l (r := AV.i64 a1) rfl rfl rfl (LOp.load1 agg2 rfl rfl) ?_
  refine ROps.l (r := AV.i64 x3) rfl rfl rfl (LOp.eqr (LOp.mul rfl rfl rfl) (congrArg (AV.ik .i64) hx3)) ?_
  refine ROps.l (r := AV.sl l4.length (l4.map AV.f32)) rfl rfl rfl (LOp.slice_sl (f := AV.f32) und22 siz25 rfl rfl rfl rfl rfl hs4) ?_
  refine ROps.d (r := AV.oref 0 1 0 r5.length) (fs := [(0, (r5.map AV.f32))]) (Γ' := [⟨1, some (r5.map AV.f32)⟩]) rfl rfl rfl (TOp.callBN (ls := [(r5.map AV.f32)]) [0] (CallAs.func ent92 rfl rfl) (Bors.cons (Bor.sl (fun _ => rfl)) Bors.nil) rfl (x_slices_Clone_float32_float32_ok l4 r5 hf5) (and_all (lts0_map (f := AV.f32) (fun _ => rfl) _) rfl) (and_all (noss_map (f := AV.f32) (fun _ => rfl) _) rfl) rfl (by decide) (ns_of ⟨⟨_, rfl⟩, trivial⟩)) rfl ?_
  refine ROps.l (r := AV.oref 0 1 0 r5.length) rfl rfl rfl (LOp.assign rfl rfl) ?_
  refine ROps.nil ?_
  refine RunC.ret ?_
  have hq := Option.some.inj h
  subst q0
  exact bodyQ.mk (r' := AV.oref 0 1 0 r5.length) [(0, 1)] (.inr rfl) rfl (show List.Nodup [0] from by decide) rfl rfl (Res.one rfl (RV.tmp rfl)) (SelL.arr0 (f := AV.f32) (fun _ => rfl) rfl trivial)
end Go.Proofs.Ytjbifkimffmhpaa
