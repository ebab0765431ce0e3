/- Generated. -/
import Derived.Test.YtddegdokdpeboaaDoorTys
namespace Go.Proofs.YtddegdokdpeboaaDoor
open Go Go.AM
set_option maxRecDepth 20000
set_option maxHeartbeats 4000000
set_option linter.unusedVariables false
set_option linter.unusedSimpArgs false
noncomputable def w_szFloat32S (a0 : List F) (a1 : Int) : Option (Int) :=
  olet (IntKind.i64.wrap (a1 - (a0.length : Int))) fun (x1 : Int) =>
  bsel (decide (x1 < 0)) (
    some (-1)) (
    some x1)
theorem w_szFloat32S_ok (a0 : List F) (a1 : Int) (q0 : Int) (h : w_szFloat32S a0 a1 = some q0) : Ev Tryd.prog 55 [AV.sl a0.length (a0.map AV.f32), AV.i64 a1] [] (AV.i64 q0) [] := by
  refine Ev.start Tryd.func55 rfl rfl 0 (τ := [(0, AV.sl a0.length (a0.map AV.f32)), (1, AV.i64 a1)]) rfl (Γ' := []) rfl (n := 25) rfl (g := 0) rfl (fun _ => rfl) ?_
  unfold w_szFloat32S at h
  refine RunC.seq ?_
  refine RunC.regionW ?_
  refine ROps.l (r := AV.i64 0) rfl rfl rfl (LOp.assign rfl rfl) ?_
  refine ROps.nil ?_
  refine RunC.seq ?_
  obtain ⟨x1, hx1, h⟩ := olet_some h
  refine RunC.regionW ?_
  refine ROps.l (r := AV.i64 a1) rfl rfl rfl (LOp.move rfl rfl) ?_
  refine ROps.l (r := AV.sl a0.length (a0.map AV.f32)) rfl rfl rfl (LOp.move rfl rfl) ?_
  refine ROps.l (r := AV.i64 (a0.length : Int)) rfl rfl rfl (LOp.len_sl und43 rfl rfl) ?_
  refine ROps.l (r := AV.i64 x1) rfl rfl rfl (LOp.eqr (LOp.sub rfl rfl rfl) (congrArg (AV.ik .i64) hx1)) ?_
  refine ROps.l (r := AV.i64 x1) rfl rfl rfl (LOp.assign rfl rfl) ?_
  refine ROps.nil ?_
  refine RunC.seq ?_
  refine RunC.seq ?_
  rcases bsel_some h with ⟨hc2, h⟩ | ⟨hc2, h⟩
  · refine RunC.regionW ?_
    refine ROps.l (r := AV.i64 x1) rfl rfl rfl (LOp.move rfl rfl) ?_
    refine ROps.l (r := AV.b true) rfl rfl rfl (LOp.eqb (LOp.lss rfl rfl rfl) hc2) ?_
    refine ROps.nil ?_
    refine RunC.cond_true rfl rfl ?_
    refine RunC.seq ?_
    refine RunC.regionW ?_
    refine ROps.l (r := AV.i64 (-1)) rfl rfl rfl (LOp.assign rfl rfl) ?_
    refine ROps.nil ?_
    refine RunC.ret ?_
    have hq := Option.some.inj h
    subst q0
    exact bodyQ.pure (.inr rfl) rfl (Res.one rfl (RV.tmp rfl))
  · refine RunC.regionW ?_
    refine ROps.l (r := AV.i64 x1) rfl rfl rfl (LOp.move rfl rfl) ?_
    refine ROps.l (r := AV.b false) rfl rfl rfl (LOp.eqb (LOp.lss rfl rfl rfl) hc2) ?_
    refine ROps.nil ?_
    refine RunC.cond_false rfl rfl ?_
    refine RunC.skip ?_
    refine RunC.seq ?_
    refine RunC.regionW ?_
    refine ROps.l (r := AV.i64 x1) rfl rfl rfl (LOp.move rfl rfl) ?_
    refine ROps.l (r := AV.i64 x1) rfl rfl rfl (LOp.assign rfl rfl) ?_
    refine ROps.nil ?_
    refine RunC.ret ?_
    have hq := Option.some.inj h
    subst q0
    exact bodyQ.pure (.inr rfl) rfl (Res.one rfl (RV.tmp rfl))
noncomputable def w_szMatrix (a0 : Int) (a1 : Int) (a2 : List F) (a3 : Int) : Option (Int) :=
  obind (w_szFloat32S a2 a3) fun (r1 : Int) =>
  bsel (decide (r1 < 0)) (
    some (-1)) (
    some r1)
theorem w_szMatrix_ok (a0 : Int) (a1 : Int) (a2 : List F) (a3 : Int) (q0 : Int) (h : w_szMatrix a0 a1 a2 a3 = some q0) : Ev Tryd.prog 30 [AV.agg [AV.i64 a0, AV.i64 a1, AV.sl a2.length (a2.map AV.f32)], AV.i64 a3] [] (AV.i64 q0) [] := by
  refine Ev.start Tryd.func30 rfl rfl 0 (τ := [(0, AV.agg [AV.i64 a0, AV.i64 a1, AV.sl a2.length (a2.map AV.f32)]), (1, AV.i64 a3)]) rfl (Γ' := []) rfl (n := 25) rfl (g := 0) rfl (fun _ => rfl) ?_
  unfold w_szMatrix at h
  refine RunC.seq ?_
  refine RunC.regionW ?_
  refine ROps.d (r := AV.ptr [AV.i64 a0, AV.i64 a1, AV.sl a2.length (a2.map AV.f32)]) (fs := []) (Γ' := []) rfl rfl rfl (TOp.box_s rfl rfl rfl) rfl ?_
  refine ROps.l (r := AV.i64 0) rfl rfl rfl (LOp.assign rfl rfl) ?_
  refine ROps.nil ?_
  refine RunC.seq ?_
  obtain ⟨r1, hf1, h⟩ := obind_some h
  refine RunC.regionW ?_
  refine ROps.l (r := AV.ptr [AV.sl a2.length (a2.map AV.f32)]) rfl rfl rfl (LOp.fap und53 rfl siz43 rfl rfl rfl) ?_
  refine ROps.l (r := AV.sl a2.length (a2.map AV.f32)) rfl rfl rfl (LOp.load1 agg43 rfl rfl) ?_
  refine ROps.l (r := AV.i64 a3) rfl rfl rfl (LOp.move rfl rfl) ?_
  refine ROps.d (r := AV.i64 r1) (fs := []) (Γ' := []) rfl rfl rfl (TOp.callB (CallAs.func ent55 rfl rfl) (Bors.cons (Bor.sl (fun _ => rfl)) (Bors.cons (Bor.pure rfl) Bors.nil)) rfl rfl (w_szFloat32S_ok a2 a3 r1 hf1)) rfl ?_
  refine ROps.l (r := AV.i64 r1) rfl rfl rfl (LOp.assign rfl rfl) ?_
  refine ROps.nil ?_
  refine RunC.seq ?_
  refine RunC.seq ?_
  rcases bsel_some h with ⟨hc2, h⟩ | ⟨hc2, h⟩
  · refine RunC.regionW ?_
    refine ROps.l (r := AV.i64 r1) rfl rfl rfl (LOp.move rfl rfl) ?_
    refine ROps.l (r := AV.b true) rfl rfl rfl (LOp.eqb (LOp.lss rfl rfl rfl) hc2) ?_
    refine ROps.nil ?_
    refine RunC.cond_true rfl rfl ?_
    refine RunC.seq ?_
    refine RunC.regionW ?_
    refine ROps.l (r := AV.i64 (-1)) rfl rfl rfl (LOp.assign rfl rfl) ?_
    refine ROps.nil ?_
    refine RunC.ret ?_
    have hq := Option.some.inj h
    subst q0
    exact bodyQ.pure (.inr rfl) rfl (Res.one rfl (RV.tmp rfl))
  · refine RunC.regionW ?_
    refine ROps.l (r := AV.i64 r1) rfl rfl rfl (LOp.move rfl rfl) ?_
    refine ROps.l (r := AV.b false) rfl rfl rfl (LOp.eqb (LOp.lss rfl rfl rfl) hc2) ?_
    refine ROps.nil ?_
    refine RunC.cond_false rfl rfl ?_
    refine RunC.skip ?_
    refine RunC.seq ?_
    refine RunC.regionW ?_
    refine ROps.l (r := AV.i64 r1) rfl rfl rfl (LOp.move rfl rfl) ?_
    refine ROps.l (r := AV.i64 r1) rfl rfl rfl (LOp.assign rfl rfl) ?_
    refine ROps.nil ?_
    refine RunC.ret ?_
    have hq := Option.some.inj h
    subst q0
    exact bodyQ.pure (.inr rfl) rfl (Res.one rfl (RV.tmp rfl))
noncomputable def w_toFloat32S_b1 (a0 : List F) (L1 : List F) (v3 : Int) : Option (LR ((List F) × Int) ((List F)) ((List F))) :=
  bsel (decide (v3 < (a0.length : Int))) (
    obind (at? a0 v3) fun (e4 : F) =>
    obind (setAt? L1 v3 e4) fun (L5 : List F) =>
    olet (IntKind.i64.wrap (v3 + 1)) fun (x6 : Int) =>
    some (LR.next (L5, x6))) (
    some (LR.out L1))
noncomputable def w_toFloat32S_s1 (a0 : List F) : ((List F) × Int) → Option (LR ((List F) × Int) ((List F)) ((List F))) := fun s => w_toFloat32S_b1 a0 s.1 s.2
noncomputable def w_toFloat32S_k1 (L7 : List F) : Option ((List F)) :=
  some L7
noncomputable def w_toFloat32S (a0 : List F) : Option ((List F)) :=
  need (mkok 4 (a0.length : Int)) <|
  obind (loopM (w_toFloat32S_s1 a0) ((List.replicate (a0.length : Int).toNat (some 0)), 0)) fun z => osum z (fun e => w_toFloat32S_k1 e) (fun r => some r)
theorem w_toFloat32S_ok (a0 : List F) (q0 : List F) (h : w_toFloat32S a0 = some q0) : Ev Tryd.prog 58 [AV.sl a0.length (a0.map AV.f32)] [] (AV.oref 0 0 0 q0.length) [⟨0, some (q0.map AV.f32)⟩] := by
  refine Ev.start Tryd.func58 rfl rfl 1 (τ := [(0, AV.sl a0.length (a0.map AV.f32))]) rfl (Γ' := [⟨0, none⟩]) rfl (n := 45) rfl (g := 0) rfl (fun _ => rfl) ?_
  unfold w_toFloat32S at h
  refine RunC.seq ?_
  refine RunC.regionW ?_
  refine ROps.l (r := AV.nilsl) rfl rfl rfl (LOp.assign rfl rfl) ?_
  refine ROps.nil ?_
  refine RunC.seq ?_
  obtain ⟨hm1, h⟩ := need_some h
  refine RunC.regionW ?_
  refine ROps.l (r := AV.sl a0.length (a0.map AV.f32)) rfl rfl rfl (LOp.move rfl rfl) ?_
  refine ROps.l (r := AV.i64 (a0.length : Int)) rfl rfl rfl (LOp.len_sl und43 rfl rfl) ?_
  refine ROps.d (r := AV.oref 0 1 0 ((a0.length : Int).toNat)) (fs := [(0, ((List.replicate (a0.length : Int).toNat (some 0)).map AV.f32))]) (Γ' := [⟨1, some ((List.replicate (a0.length : Int).toNat (some 0)).map AV.f32)⟩]) rfl rfl rfl (TOp.mkS (g := ⟨0, none⟩) (t := 43) (e := 115) (by_ := 4) (f := AV.f32) (zv := some 0) 0 rfl und43 tin115 rfl siz115 zer115 rfl zel115 rfl rfl rfl hm1) rfl ?_
  refine ROps.l (r := AV.oref 0 1 0 ((a0.length : Int).toNat)) rfl rfl rfl (LOp.assign rfl rfl) ?_
  refine ROps.nil ?_
  refine RunC.seq ?_
  refine RunC.seq ?_
  refine RunC.regionW ?_
  refine ROps.l (r := AV.i64 0) rfl rfl rfl (LOp.assign rfl rfl) ?_
  refine ROps.nil ?_
  obtain ⟨z2, hz_2, h⟩ := obind_some h
  refine RunC.cutN (fun τ Γ => ∃ (L7 : List F), L7.length = (a0.length : Int).toNat ∧ WeakLe τ [(3, AV.oref 0 1 0 ((a0.length : Int).toNat))] ∧ DeadLe Γ [⟨1, some (L7.map AV.f32)⟩] ∧ z2 = .inl L7) ?_ ?_
  · refine RunC.block (RunC.loop (RunL.loopM (x := z2) (w_toFloat32S_s1 a0) (fun (s : (List F) × Int) τ Γ => s.1.length = (a0.length : Int).toNat ∧ WeakLe τ [(0, AV.sl a0.length (a0.map AV.f32)), (3, AV.oref 0 1 0 ((a0.length : Int).toNat)), (4, AV.i64 s.2)] ∧ DeadLe Γ [⟨1, some (s.1.map AV.f32)⟩]) ?_ _ _ _ hz_2 ⟨List.length_replicate, ⟨(ALe.refl _), (ALe.refl _), (ALe.refl _), trivial⟩, ⟨⟨rfl, .inr rfl⟩, trivial⟩⟩))
    rintro ⟨L1, v3⟩ τ2 Γ2 y2_ ⟨hl2, hw2, hd2⟩ h2_ ho2 hr2
    refine RunC.wl (τ' := [(0, AV.sl a0.length (a0.map AV.f32)), (3, AV.oref 0 1 0 ((a0.length : Int).toNat)), (4, AV.i64 v3)]) (Γ' := [⟨1, some (L1.map AV.f32)⟩]) hw2 hd2 ?_
    replace hl2 : L1.length = (a0.length : Int).toNat := hl2
    replace h2_ : w_toFloat32S_b1 a0 L1 v3 = some y2_ := h2_
    unfold w_toFloat32S_b1 at h2_
    refine RunC.seq ?_
    refine RunC.seq ?_
    rcases bsel_some h2_ with ⟨hc2, h2_⟩ | ⟨hc2, h2_⟩
    · refine RunC.regionW ?_
      refine ROps.l (r := AV.i64 v3) rfl rfl rfl (LOp.move rfl rfl) ?_
      refine ROps.l (r := AV.sl a0.length (a0.map AV.f32)) rfl rfl rfl (LOp.move rfl rfl) ?_
      refine ROps.l (r := AV.i64 (a0.length : Int)) rfl rfl rfl (LOp.len_sl und43 rfl rfl) ?_
      refine ROps.l (r := AV.b true) rfl rfl rfl (LOp.eqb (LOp.lss rfl rfl rfl) hc2) ?_
      refine ROps.nil ?_
      refine RunC.cond_true rfl rfl ?_
      refine RunC.skip ?_
      refine RunC.seq ?_
      refine RunC.block ?_
      obtain ⟨e4, he3, h2_⟩ := obind_some h2_
      obtain ⟨L5, he4, h2_⟩ := obind_some h2_
      refine RunC.regionW ?_
      refine ROps.l (r := AV.oref 0 1 0 ((a0.length : Int).toNat)) rfl rfl rfl (LOp.move rfl rfl) ?_
      refine ROps.l (r := AV.i64 v3) rfl rfl rfl (LOp.move rfl rfl) ?_
      refine ROps.l (r := AV.sl a0.length (a0.map AV.f32)) rfl rfl rfl (LOp.move rfl rfl) ?_
      refine ROps.l (r := AV.i64 v3) rfl rfl rfl (LOp.move rfl rfl) ?_
      refine ROps.l (r := AV.ptr [AV.f32 e4]) rfl rfl rfl (LOp.le (LOp.ix (f := AV.f32) und43 siz115 rfl rfl rfl rfl he3) ALe.ptr) ?_
      refine ROps.l (r := AV.f32 e4) rfl rfl rfl (LOp.load1 agg115 rfl rfl) ?_
      refine ROps.d (r := AV.optr 0 1 v3.toNat) (fs := []) (Γ' := [⟨1, some (L1.map AV.f32)⟩]) rfl rfl rfl (TOp.ixo und43 siz115 rfl rfl rfl (set_in he4 hl2) rfl) rfl ?_
      refine ROps.st (f := AV.f32) (i := v3) (Γ' := [⟨1, some (L5.map AV.f32)⟩]) rfl siz115 rfl rfl rfl (ALe.refl _) rfl rfl rfl he4 rfl ?_
      refine ROps.nil ?_
      obtain ⟨x6, hx5, h2_⟩ := olet_some h2_
      refine RunC.regionW ?_
      refine ROps.l (r := AV.i64 v3) rfl rfl rfl (LOp.move rfl rfl) ?_
      refine ROps.l (r := AV.i64 x6) rfl rfl rfl (LOp.eqr (LOp.add rfl rfl rfl) (congrArg (AV.ik .i64) hx5)) ?_
      refine ROps.l (r := AV.i64 x6) rfl rfl rfl (LOp.assign rfl rfl) ?_
      refine ROps.nil ?_
      cases Option.some.inj h2_
      exact ⟨_, rfl, ((setAt?_len he4).trans hl2), ⟨(ALe.refl _), (ALe.refl _), (ALe.refl _), trivial⟩, ⟨⟨rfl, .inr rfl⟩, trivial⟩⟩
    · refine RunC.regionW ?_
      refine ROps.l (r := AV.i64 v3) rfl rfl rfl (LOp.move rfl rfl) ?_
      refine ROps.l (r := AV.sl a0.length (a0.map AV.f32)) rfl rfl rfl (LOp.move rfl rfl) ?_
      refine ROps.l (r := AV.i64 (a0.length : Int)) rfl rfl rfl (LOp.len_sl und43 rfl rfl) ?_
      refine ROps.l (r := AV.b false) rfl rfl rfl (LOp.eqb (LOp.lss rfl rfl rfl) hc2) ?_
      refine ROps.nil ?_
      refine RunC.cond_false rfl rfl ?_
      refine RunC.exit ?_
      cases Option.some.inj h2_
      have hx := ho2 _ rfl
      exact ⟨L1, hl2, ⟨(ALe.refl _), trivial⟩, ⟨⟨rfl, .inr rfl⟩, trivial⟩, hx⟩
  · rintro τ3 Γ3 ⟨L7, hl8, hw3, hd3, rfl⟩
    refine RunC.wl (τ' := [(3, AV.oref 0 1 0 ((a0.length : Int).toNat))]) (Γ' := [⟨1, some (L7.map AV.f32)⟩]) hw3 hd3 ?_
    replace h : w_toFloat32S_k1 L7 = some q0 := h
    unfold w_toFloat32S_k1 at h
    refine RunC.seq ?_
    refine RunC.regionW ?_
    refine ROps.l (r := AV.oref 0 1 0 ((a0.length : Int).toNat)) rfl rfl rfl (LOp.move rfl rfl) ?_
    refine ROps.l (r := AV.oref 0 1 0 ((a0.length : Int).toNat)) rfl rfl rfl (LOp.assign rfl rfl) ?_
    refine ROps.nil ?_
    refine RunC.ret ?_
    have hq := Option.some.inj h
    subst q0
    exact bodyQ.mk (r' := AV.oref 0 1 0 L7.length) [(0, 1)] (.inr rfl) rfl (show List.Nodup [0] from by decide) rfl rfl (Res.eq (Res.one rfl (RV.tmp rfl)) (by rw [(show L7.length = (a0.length : Int).toNat from hl8)] <;> rfl)) (SelL.arr0 (f := AV.f32) (fun _ => rfl) rfl trivial)
noncomputable def w_toMatrix (a0 : Int) (a1 : Int) (a2 : List F) : Option (Int × Int × (List F)) :=
  obind (w_toFloat32S a2) fun (r1 : List F) =>
  some (a0, a1, r1)
theorem w_toMatrix_ok (a0 : Int) (a1 : Int) (a2 : List F) (q0 : Int) (q1 : Int) (q2 : List F) (h : w_toMatrix a0 a1 a2 = some (q0, q1, q2)) : Ev Tryd.prog 32 [AV.agg [AV.i64 a0, AV.i64 a1, AV.sl a2.length (a2.map AV.f32)]] [] (AV.agg [AV.i64 q0, AV.i64 q1, AV.oref 0 0 0 q2.length]) [⟨0, some (q2.map AV.f32)⟩] := by
  refine Ev.start Tryd.func32 rfl rfl 3 (τ := [(0, AV.agg [AV.i64 a0, AV.i64 a1, AV.sl a2.length (a2.map AV.f32)])]) rfl (Γ' := [⟨0, none⟩, ⟨0, none⟩, ⟨0, none⟩]) rfl (n := 31) rfl (g := 0) rfl (fun _ => rfl) ?_
  unfold w_toMatrix at h
  refine RunC.seq ?_
  refine RunC.regionW ?_
  refine ROps.d (r := AV.ptr [AV.i64 a0, AV.i64 a1, AV.sl a2.length (a2.map AV.f32)]) (fs := []) (Γ' := [⟨0, none⟩, ⟨0, none⟩, ⟨0, none⟩]) rfl rfl rfl (TOp.box_s rfl rfl rfl) rfl ?_
  refine ROps.d (r := AV.optr 0 1 0) (fs := [(0, [AV.i64 0, AV.i64 0, AV.nilsl])]) (Γ' := [⟨1, some [AV.i64 0, AV.i64 0, AV.nilsl]⟩, ⟨0, none⟩, ⟨0, none⟩]) rfl rfl rfl (TOp.alloc_o (g := ⟨0, none⟩) 0 rfl zer56 zok56 rfl) rfl ?_
  refine ROps.nil ?_
  refine RunC.seq ?_
  refine RunC.regionW ?_
  refine ROps.d (r := AV.optr 1 1 0) (fs := [(1, [AV.i64 0, AV.i64 0, AV.nilsl])]) (Γ' := [⟨1, some [AV.i64 0, AV.i64 0, AV.nilsl]⟩, ⟨1, some [AV.i64 0, AV.i64 0, AV.nilsl]⟩, ⟨0, none⟩]) rfl rfl rfl (TOp.alloc_o (g := ⟨0, none⟩) 1 rfl zer56 zok56 rfl) rfl ?_
  refine ROps.nil ?_
  refine RunC.seq ?_
  refine RunC.regionW ?_
  refine ROps.l (r := AV.ptr [AV.i64 a0, AV.i64 a1, AV.sl a2.length (a2.map AV.f32)]) rfl rfl rfl (LOp.fap und53 rfl siz2 rfl rfl rfl) ?_
  refine ROps.l (r := AV.i64 a0) rfl rfl rfl (LOp.load1 agg2 rfl rfl) ?_
  refine ROps.l (r := AV.optr 1 1 0) rfl rfl rfl (LOp.fao und56 rfl siz2 rfl rfl rfl) ?_
  refine ROps.store_le (r := AV.i64 a0) (l' := [AV.i64 a0, AV.i64 0, AV.nilsl]) (Γ' := [⟨1, some [AV.i64 0, AV.i64 0, AV.nilsl]⟩, ⟨1, some [AV.i64 a0, AV.i64 0, AV.nilsl]⟩, ⟨0, none⟩]) rfl siz2 rfl rfl rfl (ALe.refl _) rfl rfl rfl rfl (Nat.le_of_ble_eq_true rfl) rfl rfl ?_
  refine ROps.nil ?_
  refine RunC.seq ?_
  refine RunC.regionW ?_
  refine ROps.l (r := AV.ptr [AV.i64 a1, AV.sl a2.length (a2.map AV.f32)]) rfl rfl rfl (LOp.fap und53 rfl siz2 rfl rfl rfl) ?_
  refine ROps.l (r := AV.i64 a1) rfl rfl rfl (LOp.load1 agg2 rfl rfl) ?_
  refine ROps.l (r := AV.optr 1 1 1) rfl rfl rfl (LOp.fao und56 rfl siz2 rfl rfl rfl) ?_
  refine ROps.store_le (r := AV.i64 a1) (l' := [AV.i64 a0, AV.i64 a1, AV.nilsl]) (Γ' := [⟨1, some [AV.i64 0, AV.i64 0, AV.nilsl]⟩, ⟨1, some [AV.i64 a0, AV.i64 a1, AV.nilsl]⟩, ⟨0, none⟩]) rfl siz2 rfl rfl rfl (ALe.refl _) rfl rfl rfl rfl (Nat.le_of_ble_eq_true rfl) rfl rfl ?_
  refine ROps.nil ?_
  refine RunC.seq ?_
  obtain ⟨r1, hf1, h⟩ := obind_some h
  refine RunC.regionW ?_
  refine ROps.l (r := AV.ptr [AV.sl a2.length (a2.map AV.f32)]) rfl rfl rfl (LOp.fap und53 rfl siz43 rfl rfl rfl) ?_
  refine ROps.l (r := AV.sl a2.length (a2.map AV.f32)) rfl rfl rfl (LOp.load1 agg43 rfl rfl) ?_
  refine ROps.d (r := AV.oref 2 1 0 r1.length) (fs := [(2, (r1.map AV.f32))]) (Γ' := [⟨1, some [AV.i64 0, AV.i64 0, AV.nilsl]⟩, ⟨1, some [AV.i64 a0, AV.i64 a1, AV.nilsl]⟩, ⟨1, some (r1.map AV.f32)⟩]) rfl rfl rfl (TOp.callBN (ls := [(r1.map AV.f32)]) [2] (CallAs.func ent58 rfl rfl) (Bors.cons (Bor.sl (fun _ => rfl)) Bors.nil) rfl (w_toFloat32S_ok a2 r1 hf1) (and_all (lts0_map (f := AV.f32) (fun _ => rfl) _) rfl) (and_all (noss_map (f := AV.f32) (fun _ => rfl) _) rfl) rfl (by decide) (ns_of ⟨⟨_, rfl⟩, trivial⟩)) rfl ?_
  refine ROps.l (r := AV.optr 1 1 2) rfl rfl rfl (LOp.fao und56 rfl siz43 rfl rfl rfl) ?_
  refine ROps.store_le (r := AV.oref 2 1 0 r1.length) (l' := [AV.i64 a0, AV.i64 a1, AV.oref 2 1 0 r1.length]) (Γ' := [⟨1, some [AV.i64 0, AV.i64 0, AV.nilsl]⟩, ⟨1, some [AV.i64 a0, AV.i64 a1, AV.oref 2 1 0 r1.length]⟩, ⟨1, some (r1.map AV.f32)⟩]) rfl siz43 rfl rfl rfl (ALe.refl _) rfl rfl rfl rfl (Nat.le_of_ble_eq_true rfl) rfl rfl ?_
  refine ROps.nil ?_
  refine RunC.seq ?_
  refine RunC.regionW ?_
  refine ROps.d (r := AV.agg [AV.i64 a0, AV.i64 a1, AV.oref 2 1 0 r1.length]) (fs := []) (Γ' := [⟨1, some [AV.i64 0, AV.i64 0, AV.nilsl]⟩, ⟨1, some [AV.i64 a0, AV.i64 a1, AV.oref 2 1 0 r1.length]⟩, ⟨1, some (r1.map AV.f32)⟩]) rfl rfl rfl (TOp.loadAgg_o rfl agg56 siz56 rfl rfl rfl rfl) rfl ?_
  refine ROps.store_le (r := AV.agg [AV.i64 a0, AV.i64 a1, AV.oref 2 1 0 r1.length]) (l' := [AV.i64 a0, AV.i64 a1, AV.oref 2 1 0 r1.length]) (Γ' := [⟨1, some [AV.i64 a0, AV.i64 a1, AV.oref 2 1 0 r1.length]⟩, ⟨1, some [AV.i64 a0, AV.i64 a1, AV.oref 2 1 0 r1.length]⟩, ⟨1, some (r1.map AV.f32)⟩]) rfl siz56 rfl rfl rfl (ALe.refl _) rfl rfl rfl rfl (Nat.le_of_ble_eq_true rfl) rfl rfl ?_
  refine ROps.nil ?_
  refine RunC.ret ?_
  have hq := Option.some.inj h
  obtain ⟨hq0, hq⟩ := Prod.mk.inj hq
  obtain ⟨hq1, hq⟩ := Prod.mk.inj hq
  subst q0
  subst q1
  subst q2
  exact bodyQ.mk (r' := AV.agg [AV.i64 a0, AV.i64 a1, AV.oref 2 1 0 r1.length]) [(2, 1)] (.inr rfl) rfl (show List.Nodup [2] from by decide) rfl rfl (Res.one rfl (RV.cell agg56 siz56 rfl rfl rfl rfl)) (SelL.arr0 (f := AV.f32) (fun _ => rfl) rfl trivial)
noncomputable def s_l00In (a0 : Int) (a1 : Int) (a2 : Int) : Option (Bool) :=
  bsel (decide (a1 ≤ a0)) (
    some (decide (a0 ≤ a2))) (
    some false)
theorem s_l00In_ok (a0 : Int) (a1 : Int) (a2 : Int) (q0 : Bool) (h : s_l00In a0 a1 a2 = some q0) : Ev Tryd.prog 67 [AV.i64 a0, AV.i64 a1, AV.i64 a2] [] (AV.b q0) [] := by
  refine Ev.start Tryd.func67 rfl rfl 0 (τ := [(0, AV.i64 a0), (1, AV.i64 a1), (2, AV.i64 a2)]) rfl (Γ' := []) rfl (n := 31) rfl (g := 0) rfl (fun _ => rfl) ?_
  unfold s_l00In at h
  refine RunC.seq ?_
  refine RunC.regionW ?_
  refine ROps.l (r := AV.b false) rfl rfl rfl (LOp.assign rfl rfl) ?_
  refine ROps.nil ?_
  refine RunC.seq ?_
  rcases bsel_some h with ⟨hc1, h⟩ | ⟨hc1, h⟩
  · refine RunC.regionW ?_
    refine ROps.l (r := AV.i64 a0) rfl rfl rfl (LOp.move rfl rfl) ?_
    refine ROps.l (r := AV.i64 a1) rfl rfl rfl (LOp.move rfl rfl) ?_
    refine ROps.l (r := AV.b true) rfl rfl rfl (LOp.eqb (LOp.geq rfl rfl rfl) hc1) ?_
    refine ROps.l (r := AV.b true) rfl rfl rfl (LOp.move rfl rfl) ?_
    refine ROps.l (r := AV.i64 a0) rfl rfl rfl (LOp.move rfl rfl) ?_
    refine ROps.l (r := AV.i64 a2) rfl rfl rfl (LOp.move rfl rfl) ?_
    refine ROps.l (r := AV.b (decide (a0 ≤ a2))) rfl rfl rfl (LOp.leq rfl rfl rfl) ?_
    refine ROps.l (r := AV.b (decide (a0 ≤ a2))) rfl rfl rfl (LOp.pick_true rfl rfl rfl) ?_
    refine ROps.l (r := AV.b (decide (a0 ≤ a2))) rfl rfl rfl (LOp.assign rfl rfl) ?_
    refine ROps.nil ?_
    refine RunC.ret ?_
    have hq := Option.some.inj h
    subst q0
    exact bodyQ.pure (.inr rfl) rfl (Res.one rfl (RV.tmp rfl))
  · refine RunC.regionW ?_
    refine ROps.l (r := AV.i64 a0) rfl rfl rfl (LOp.move rfl rfl) ?_
    refine ROps.l (r := AV.i64 a1) rfl rfl rfl (LOp.move rfl rfl) ?_
    refine ROps.l (r := AV.b false) rfl rfl rfl (LOp.eqb (LOp.geq rfl rfl rfl) hc1) ?_
    refine ROps.l (r := AV.b false) rfl rfl rfl (LOp.move rfl rfl) ?_
    refine ROps.s rfl rfl rfl ?_
    refine ROps.s rfl rfl rfl ?_
    refine ROps.s rfl rfl rfl ?_
    refine ROps.l (r := AV.b false) rfl rfl rfl (LOp.pick_false rfl rfl rfl) ?_
    refine ROps.l (r := AV.b false) rfl rfl rfl (LOp.assign rfl rfl) ?_
    refine ROps.nil ?_
    refine RunC.ret ?_
    have hq := Option.some.inj h
    subst q0
    exact bodyQ.pure (.inr rfl) rfl (Res.one rfl (RV.tmp rfl))
noncomputable def s_l02Sides (a0 : Int) (a1 : Int) : Option (Bool) :=
  obind (s_l00In a0 1 12) fun (r1 : Bool) =>
  bsel r1 (
    obind (s_l00In a1 1 12) fun (r2 : Bool) =>
    some r2) (
    some false)
theorem s_l02Sides_ok (a0 : Int) (a1 : Int) (q0 : Bool) (h : s_l02Sides a0 a1 = some q0) : Ev Tryd.prog 85 [AV.i64 a0, AV.i64 a1] [] (AV.b q0) [] := by
  refine Ev.start Tryd.func85 rfl rfl 0 (τ := [(0, AV.i64 a0), (1, AV.i64 a1)]) rfl (Γ' := []) rfl (n := 23) rfl (g := 0) rfl (fun _ => rfl) ?_
  unfold s_l02Sides at h
  refine RunC.seq ?_
  refine RunC.regionW ?_
  refine ROps.l (r := AV.b false) rfl rfl rfl (LOp.assign rfl rfl) ?_
  refine ROps.nil ?_
  refine RunC.seq ?_
  obtain ⟨r1, hf1, h⟩ := obind_some h
  rcases bsel_some h with ⟨hc2, h⟩ | ⟨hc2, h⟩
  · obtain ⟨r2, hf3, h⟩ := obind_some h
    refine RunC.regionW ?_
    refine ROps.l (r := AV.i64 a0) rfl rfl rfl (LOp.move rfl rfl) ?_
    refine ROps.d (r := AV.b true) (fs := []) (Γ' := []) rfl rfl rfl (TOp.eqb (TOp.callB (CallAs.func ent67 rfl rfl) (Bors.cons (Bor.pure rfl) (Bors.cons (Bor.pure rfl) (Bors.cons (Bor.pure rfl) Bors.nil))) rfl rfl (s_l00In_ok a0 1 12 r1 hf1)) hc2) rfl ?_
    refine ROps.l (r := AV.b true) rfl rfl rfl (LOp.move rfl rfl) ?_
    refine ROps.l (r := AV.i64 a1) rfl rfl rfl (LOp.move rfl rfl) ?_
    refine ROps.d (r := AV.b r2) (fs := []) (Γ' := []) rfl rfl rfl (TOp.callB (CallAs.func ent67 rfl rfl) (Bors.cons (Bor.pure rfl) (Bors.cons (Bor.pure rfl) (Bors.cons (Bor.pure rfl) Bors.nil))) rfl rfl (s_l00In_ok a1 1 12 r2 hf3)) rfl ?_
    refine ROps.l (r := AV.b r2) rfl rfl rfl (LOp.pick_true rfl rfl rfl) ?_
    refine ROps.l (r := AV.b r2) rfl rfl rfl (LOp.assign rfl rfl) ?_
    refine ROps.nil ?_
    refine RunC.ret ?_
    have hq := Option.some.inj h
    subst q0
    exact bodyQ.pure (.inr rfl) rfl (Res.one rfl (RV.tmp rfl))
  · refine RunC.regionW ?_
    refine ROps.l (r := AV.i64 a0) rfl rfl rfl (LOp.move rfl rfl) ?_
    refine ROps.d (r := AV.b false) (fs := []) (Γ' := []) rfl rfl rfl (TOp.eqb (TOp.callB (CallAs.func ent67 rfl rfl) (Bors.cons (Bor.pure rfl) (Bors.cons (Bor.pure rfl) (Bors.cons (Bor.pure rfl) Bors.nil))) rfl rfl (s_l00In_ok a0 1 12 r1 hf1)) hc2) rfl ?_
    refine ROps.l (r := AV.b false) rfl rfl rfl (LOp.move rfl rfl) ?_
    refine ROps.s rfl rfl rfl ?_
    refine ROps.s rfl rfl rfl ?_
    refine ROps.l (r := AV.b false) rfl rfl rfl (LOp.pick_false rfl rfl rfl) ?_
    refine ROps.l (r := AV.b false) rfl rfl rfl (LOp.assign rfl rfl) ?_
    refine ROps.nil ?_
    refine RunC.ret ?_
    have hq := Option.some.inj h
    subst q0
    exact bodyQ.pure (.inr rfl) rfl (Res.one rfl (RV.tmp rfl))
noncomputable def s_l01Finite (a0 : F) : Option (Bool) :=
  olet (fop .sub .f32 a0 a0) fun (x1 : F) =>
  some (feq .f32 x1 (some 0))
theorem s_l01Finite_ok (a0 : F) (q0 : Bool) (h : s_l01Finite a0 = some q0) : Ev Tryd.prog 94 [AV.f32 a0] [] (AV.b q0) [] := by
  refine Ev.start Tryd.func94 rfl rfl 0 (τ := [(0, AV.f32 a0)]) rfl (Γ' := []) rfl (n := 15) rfl (g := 0) rfl (fun _ => rfl) ?_
  unfold s_l01Finite at h
  refine RunC.seq ?_
  refine RunC.regionW ?_
  refine ROps.l (r := AV.b false) rfl rfl rfl (LOp.assign rfl rfl) ?_
  refine ROps.nil ?_
  refine RunC.seq ?_
  obtain ⟨x1, hx1, h⟩ := olet_some h
  refine RunC.regionW ?_
  refine ROps.l (r := AV.f32 a0) rfl rfl rfl (LOp.move rfl rfl) ?_
  refine ROps.l (r := AV.f32 a0) rfl rfl rfl (LOp.move rfl rfl) ?_
  refine ROps.d (r := AV.f32 x1) (fs := []) (Γ' := []) rfl rfl rfl (TOp.eqr (TOp.fop (.inr (.inl rfl)) rfl (OpF.tmp rfl) (OpF.tmp rfl)) (congrArg (AV.f .f32) hx1)) rfl ?_
  refine ROps.l (r := AV.b (feq .f32 x1 (some 0))) rfl rfl rfl (LOp.feq rfl (OpF.tmp rfl) (OpF.const rfl (by kernel_rfl) (by kernel_rfl))) ?_
  refine ROps.l (r := AV.b (feq .f32 x1 (some 0))) rfl rfl rfl (LOp.assign rfl rfl) ?_
  refine ROps.nil ?_
  refine RunC.ret ?_
  have hq := Option.some.inj h
  subst q0
  exact bodyQ.pure (.inr rfl) rfl (Res.one rfl (RV.tmp rfl))
noncomputable def s_l02Finite_b1 (a0 : List F) (v1 : Int) : Option (LR (Int) (Unit) (Bool)) :=
  bsel (decide (v1 < (a0.length : Int))) (
    obind (at? a0 v1) fun (e2 : F) =>
    obind (s_l01Finite e2) fun (r3 : Bool) =>
    bsel r3 (
      olet (IntKind.i64.wrap (v1 + 1)) fun (x4 : Int) =>
      some (LR.next x4)) (
      some (LR.ret false))) (
    some (LR.out ()))
noncomputable def s_l02Finite_s1 (a0 : List F) : (Int) → Option (LR (Int) (Unit) (Bool)) := fun s => s_l02Finite_b1 a0 s
noncomputable def s_l02Finite_k1  : Option (Bool) :=
  some true
noncomputable def s_l02Finite (a0 : List F) : Option (Bool) :=
  obind (loopM (s_l02Finite_s1 a0) 0) fun z => osum z (fun _ => s_l02Finite_k1) (fun r => some r)
theorem s_l02Finite_ok (a0 : List F) (q0 : Bool) (h : s_l02Finite a0 = some q0) : Ev Tryd.prog 78 [AV.sl a0.length (a0.map AV.f32)] [] (AV.b q0) [] := by
  refine Ev.start Tryd.func78 rfl rfl 0 (τ := [(0, AV.sl a0.length (a0.map AV.f32))]) rfl (Γ' := []) rfl (n := 33) rfl (g := 0) rfl (fun _ => rfl) ?_
  unfold s_l02Finite at h
  refine RunC.seq ?_
  refine RunC.regionW ?_
  refine ROps.l (r := AV.b false) rfl rfl rfl (LOp.assign rfl rfl) ?_
  refine ROps.nil ?_
  refine RunC.seq ?_
  refine RunC.seq ?_
  refine RunC.regionW ?_
  refine ROps.l (r := AV.i64 0) rfl rfl rfl (LOp.assign rfl rfl) ?_
  refine ROps.nil ?_
  obtain ⟨z2, hz_2, h⟩ := obind_some h
  refine RunC.cutN (fun τ Γ => WeakLe τ [] ∧ DeadLe Γ [] ∧ z2 = .inl ()) ?_ ?_
  · refine RunC.block (RunC.loop (RunL.loopM (x := z2) (s_l02Finite_s1 a0) (fun (s : Int) τ Γ => WeakLe τ [(0, AV.sl a0.length (a0.map AV.f32)), (3, AV.i64 s)] ∧ DeadLe Γ []) ?_ _ _ _ hz_2 ⟨⟨(ALe.refl _), (ALe.refl _), trivial⟩, trivial⟩))
    rintro v1 τ2 Γ2 y2_ ⟨hw2, hd2⟩ h2_ ho2 hr2
    refine RunC.wl (τ' := [(0, AV.sl a0.length (a0.map AV.f32)), (3, AV.i64 v1)]) (Γ' := []) hw2 hd2 ?_
    replace h2_ : s_l02Finite_b1 a0 v1 = some y2_ := h2_
    unfold s_l02Finite_b1 at h2_
    refine RunC.seq ?_
    refine RunC.seq ?_
    rcases bsel_some h2_ with ⟨hc1, h2_⟩ | ⟨hc1, h2_⟩
    · refine RunC.regionW ?_
      refine ROps.l (r := AV.i64 v1) rfl rfl rfl (LOp.move rfl rfl) ?_
      refine ROps.l (r := AV.sl a0.length (a0.map AV.f32)) rfl rfl rfl (LOp.move rfl rfl) ?_
      refine ROps.l (r := AV.i64 (a0.length : Int)) rfl rfl rfl (LOp.len_sl und43 rfl rfl) ?_
      refine ROps.l (r := AV.b true) rfl rfl rfl (LOp.eqb (LOp.lss rfl rfl rfl) hc1) ?_
      refine ROps.nil ?_
      refine RunC.cond_true rfl rfl ?_
      refine RunC.skip ?_
      refine RunC.seq ?_
      refine RunC.block ?_
      refine RunC.seq ?_
      obtain ⟨e2, he2, h2_⟩ := obind_some h2_
      obtain ⟨r3, hf3, h2_⟩ := obind_some h2_
      rcases bsel_some h2_ with ⟨hc4, h2_⟩ | ⟨hc4, h2_⟩
      · refine RunC.regionW ?_
        refine ROps.l (r := AV.sl a0.length (a0.map AV.f32)) rfl rfl rfl (LOp.move rfl rfl) ?_
        refine ROps.l (r := AV.i64 v1) rfl rfl rfl (LOp.move rfl rfl) ?_
        refine ROps.l (r := AV.ptr [AV.f32 e2]) rfl rfl rfl (LOp.le (LOp.ix (f := AV.f32) und43 siz115 rfl rfl rfl rfl he2) ALe.ptr) ?_
        refine ROps.l (r := AV.f32 e2) rfl rfl rfl (LOp.load1 agg115 rfl rfl) ?_
        refine ROps.d (r := AV.b true) (fs := []) (Γ' := []) rfl rfl rfl (TOp.eqb (TOp.callB (CallAs.func ent94 rfl rfl) (Bors.cons (Bor.pure rfl) Bors.nil) rfl rfl (s_l01Finite_ok e2 r3 hf3)) hc4) rfl ?_
        refine ROps.l (r := AV.b false) rfl rfl rfl (LOp.eqb (LOp.not rfl rfl) rfl) ?_
        refine ROps.nil ?_
        refine RunC.cond_false rfl rfl ?_
        refine RunC.skip ?_
        obtain ⟨x4, hx5, h2_⟩ := olet_some h2_
        refine RunC.regionW ?_
        refine ROps.l (r := AV.i64 v1) rfl rfl rfl (LOp.move rfl rfl) ?_
        refine ROps.l (r := AV.i64 x4) rfl rfl rfl (LOp.eqr (LOp.add rfl rfl rfl) (congrArg (AV.ik .i64) hx5)) ?_
        refine ROps.l (r := AV.i64 x4) rfl rfl rfl (LOp.assign rfl rfl) ?_
        refine ROps.nil ?_
        cases Option.some.inj h2_
        exact ⟨_, rfl, ⟨(ALe.refl _), (ALe.refl _), trivial⟩, trivial⟩
      · refine RunC.regionW ?_
        refine ROps.l (r := AV.sl a0.length (a0.map AV.f32)) rfl rfl rfl (LOp.move rfl rfl) ?_
        refine ROps.l (r := AV.i64 v1) rfl rfl rfl (LOp.move rfl rfl) ?_
        refine ROps.l (r := AV.ptr [AV.f32 e2]) rfl rfl rfl (LOp.le (LOp.ix (f := AV.f32) und43 siz115 rfl rfl rfl rfl he2) ALe.ptr) ?_
        refine ROps.l (r := AV.f32 e2) rfl rfl rfl (LOp.load1 agg115 rfl rfl) ?_
        refine ROps.d (r := AV.b false) (fs := []) (Γ' := []) rfl rfl rfl (TOp.eqb (TOp.callB (CallAs.func ent94 rfl rfl) (Bors.cons (Bor.pure rfl) Bors.nil) rfl rfl (s_l01Finite_ok e2 r3 hf3)) hc4) rfl ?_
        refine ROps.l (r := AV.b true) rfl rfl rfl (LOp.eqb (LOp.not rfl rfl) rfl) ?_
        refine ROps.nil ?_
        refine RunC.cond_true rfl rfl ?_
        refine RunC.seq ?_
        refine RunC.regionW ?_
        refine ROps.l (r := AV.b false) rfl rfl rfl (LOp.assign rfl rfl) ?_
        refine ROps.nil ?_
        refine RunC.ret ?_
        cases Option.some.inj h2_
        have hx3_ := hr2 _ rfl
        subst hx3_
        have hq := Option.some.inj h
        subst q0
        exact bodyQ.pure (.inr rfl) rfl (Res.one rfl (RV.tmp rfl))
    · refine RunC.regionW ?_
      refine ROps.l (r := AV.i64 v1) rfl rfl rfl (LOp.move rfl rfl) ?_
      refine ROps.l (r := AV.sl a0.length (a0.map AV.f32)) rfl rfl rfl (LOp.move rfl rfl) ?_
      refine ROps.l (r := AV.i64 (a0.length : Int)) rfl rfl rfl (LOp.len_sl und43 rfl rfl) ?_
      refine ROps.l (r := AV.b false) rfl rfl rfl (LOp.eqb (LOp.lss rfl rfl rfl) hc1) ?_
      refine ROps.nil ?_
      refine RunC.cond_false rfl rfl ?_
      refine RunC.exit ?_
      cases Option.some.inj h2_
      have hx := ho2 _ rfl
      exact ⟨trivial, trivial, hx⟩
  · rintro τ4 Γ4 ⟨hw4, hd4, rfl⟩
    refine RunC.wl (τ' := []) (Γ' := []) hw4 hd4 ?_
    replace h : s_l02Finite_k1 = some q0 := h
    unfold s_l02Finite_k1 at h
    refine RunC.seq ?_
    refine RunC.regionW ?_
    refine ROps.l (r := AV.b true) rfl rfl rfl (LOp.assign rfl rfl) ?_
    refine ROps.nil ?_
    refine RunC.ret ?_
    have hq := Option.some.inj h
    subst q0
    exact bodyQ.pure (.inr rfl) rfl (Res.one rfl (RV.tmp rfl))
noncomputable def s_l02Is (a0 : Int) (a1 : Int) (a2 : List F) : Option (Bool) :=
  obind (s_l02Sides a0 a1) fun (r1 : Bool) =>
  bsel r1 (
    olet (IntKind.i64.wrap (a0 * a1)) fun (x2 : Int) =>
    bsel (decide ((a2.length : Int) = x2)) (
      obind (s_l02Finite a2) fun (r3 : Bool) =>
      some r3) (
      some false)) (
    some false)
theorem s_l02Is_ok (a0 : Int) (a1 : Int) (a2 : List F) (q0 : Bool) (h : s_l02Is a0 a1 a2 = some q0) : Ev Tryd.prog 62 [AV.ptr [AV.i64 a0, AV.i64 a1, AV.sl a2.length (a2.map AV.f32)]] [] (AV.b q0) [] := by
  refine Ev.start Tryd.func62 rfl rfl 0 (τ := [(0, AV.ptr [AV.i64 a0, AV.i64 a1, AV.sl a2.length (a2.map AV.f32)])]) rfl (Γ' := []) rfl (n := 73) rfl (g := 0) rfl (fun _ => rfl) ?_
  unfold s_l02Is at h
  refine RunC.seq ?_
  refine RunC.regionW ?_
  refine ROps.l (r := AV.b false) rfl rfl rfl (LOp.assign rfl rfl) ?_
  refine ROps.nil ?_
  refine RunC.seq ?_
  obtain ⟨r1, hf1, h⟩ := obind_some h
  rcases bsel_some h with ⟨hc2, h⟩ | ⟨hc2, h⟩
  · obtain ⟨x2, hx3, h⟩ := olet_some h
    rcases bsel_some h with ⟨hc4, h⟩ | ⟨hc4, h⟩
    · obtain ⟨r3, hf5, h⟩ := obind_some h
      refine RunC.region_draw (Γ' := []) 34 mixed 
        (TR.l (r := AV.ptr [AV.i64 a0, AV.i64 a1, AV.sl a2.length (a2.map AV.f32)]) rfl rfl (LOp.move rfl rfl) <|
        (TR.l (r := AV.ptr [AV.i64 a0, AV.i64 a1, AV.sl a2.length (a2.map AV.f32)]) rfl rfl (LOp.nilCheck_ptr rfl rfl) <|
        (TR.l (r := AV.ptr [AV.i64 a0, AV.i64 a1, AV.sl a2.length (a2.map AV.f32)]) rfl rfl (LOp.fap und56 rfl siz2 rfl rfl rfl) <|
        (TR.l (r := AV.i64 a0) rfl rfl (LOp.load1 agg2 rfl rfl) <|
        (TR.l (r := AV.ptr [AV.i64 a0, AV.i64 a1, AV.sl a2.length (a2.map AV.f32)]) rfl rfl (LOp.move rfl rfl) <|
        (TR.l (r := AV.ptr [AV.i64 a0, AV.i64 a1, AV.sl a2.length (a2.map AV.f32)]) rfl rfl (LOp.nilCheck_ptr rfl rfl) <|
        (TR.l (r := AV.ptr [AV.i64 a1, AV.sl a2.length (a2.map AV.f32)]) rfl rfl (LOp.fap und56 rfl siz2 rfl rfl rfl) <|
        (TR.l (r := AV.i64 a1) rfl rfl (LOp.load1 agg2 rfl rfl) <|
        (TR.d (r := AV.b true) (fs := []) rfl rfl (TOp.eqb (TOp.callB (CallAs.func ent85 rfl rfl) (Bors.cons (Bor.pure rfl) (Bors.cons (Bor.pure rfl) Bors.nil)) rfl rfl (s_l02Sides_ok a0 a1 r1 hf1)) hc2) <|
        (TR.l (r := AV.b true) rfl rfl (LOp.move rfl rfl) <|
        (TR.l (r := AV.ptr [AV.i64 a0, AV.i64 a1, AV.sl a2.length (a2.map AV.f32)]) rfl rfl (LOp.move rfl rfl) <|
        (TR.l (r := AV.ptr [AV.i64 a0, AV.i64 a1, AV.sl a2.length (a2.map AV.f32)]) rfl rfl (LOp.nilCheck_ptr rfl rfl) <|
        (TR.l (r := AV.ptr [AV.sl a2.length (a2.map AV.f32)]) rfl rfl (LOp.fap und56 rfl siz43 rfl rfl rfl) <|
        (TR.l (r := AV.sl a2.length (a2.map AV.f32)) rfl rfl (LOp.load1 agg43 rfl rfl) <|
        (TR.l (r := AV.i64 (a2.length : Int)) rfl rfl (LOp.len_sl und43 rfl rfl) <|
        (TR.l (r := AV.ptr [AV.i64 a0, AV.i64 a1, AV.sl a2.length (a2.map AV.f32)]) rfl rfl (LOp.move rfl rfl) <|
        (TR.l (r := AV.ptr [AV.i64 a0, AV.i64 a1, AV.sl a2.length (a2.map AV.f32)]) rfl rfl (LOp.nilCheck_ptr rfl rfl) <|
        (TR.l (r := AV.ptr [AV.i64 a0, AV.i64 a1, AV.sl a2.length (a2.map AV.f32)]) rfl rfl (LOp.fap und56 rfl siz2 rfl rfl rfl) <|
        (TR.l (r := AV.i64 a0) rfl rfl (LOp.load1 agg2 rfl rfl) <|
        (TR.l (r := AV.ptr [AV.i64 a0, AV.i64 a1, AV.sl a2.length (a2.map AV.f32)]) rfl rfl (LOp.move rfl rfl) <|
        (TR.l (r := AV.ptr [AV.i64 a0, AV.i64 a1, AV.sl a2.length (a2.map AV.f32)]) rfl rfl (LOp.nilCheck_ptr rfl rfl) <|
        (TR.l (r := AV.ptr [AV.i64 a1, AV.sl a2.length (a2.map AV.f32)]) rfl rfl (LOp.fap und56 rfl siz2 rfl rfl rfl) <|
        (TR.l (r := AV.i64 a1) rfl rfl (LOp.load1 agg2 rfl rfl) <|
        (TR.l (r := AV.i64 x2) rfl rfl (LOp.eqr (LOp.mul rfl rfl rfl) (congrArg (AV.ik .i64) hx3)) <|
        (TR.l (r := AV.b true) rfl rfl (LOp.eqb (LOp.eql rfl rfl rfl) hc4) <|
        (TR.l (r := AV.b true) rfl rfl (LOp.pick_true rfl rfl rfl) <|
        (TR.l (r := AV.b true) rfl rfl (LOp.move rfl rfl) <|
        (TR.l (r := AV.ptr [AV.i64 a0, AV.i64 a1, AV.sl a2.length (a2.map AV.f32)]) rfl rfl (LOp.move rfl rfl) <|
        (TR.l (r := AV.ptr [AV.i64 a0, AV.i64 a1, AV.sl a2.length (a2.map AV.f32)]) rfl rfl (LOp.nilCheck_ptr rfl rfl) <|
        (TR.l (r := AV.ptr [AV.sl a2.length (a2.map AV.f32)]) rfl rfl (LOp.fap und56 rfl siz43 rfl rfl rfl) <|
        (TR.l (r := AV.sl a2.length (a2.map AV.f32)) rfl rfl (LOp.load1 agg43 rfl rfl) <|
        (TR.d (r := AV.b r3) (fs := []) rfl rfl (TOp.callB (CallAs.func ent78 rfl rfl) (Bors.cons (Bor.sl (fun _ => rfl)) Bors.nil) rfl rfl (s_l02Finite_ok a2 r3 hf5)) <|
        (TR.l (r := AV.b r3) rfl rfl (LOp.pick_true rfl rfl rfl) <|
        (TR.l (r := AV.b r3) rfl rfl (LOp.assign rfl rfl) <|
        TR.nil)))))))))))))))))))))))))))))))))) rfl (by kernel_rfl) rfl fills_nil rfl ?_
      iterate 34 refine ROps.dropS ?_
      refine ROps.drop0 ?_
      refine ROps.nil ?_
      refine RunC.ret ?_
      have hq := Option.some.inj h
      subst q0
      exact bodyQ.pure (.inr rfl) rfl (Res.one rfl (RV.tmp rfl))
    · refine RunC.region_draw (Γ' := []) 34 mixed 
        (TR.l (r := AV.ptr [AV.i64 a0, AV.i64 a1, AV.sl a2.length (a2.map AV.f32)]) rfl rfl (LOp.move rfl rfl) <|
        (TR.l (r := AV.ptr [AV.i64 a0, AV.i64 a1, AV.sl a2.length (a2.map AV.f32)]) rfl rfl (LOp.nilCheck_ptr rfl rfl) <|
        (TR.l (r := AV.ptr [AV.i64 a0, AV.i64 a1, AV.sl a2.length (a2.map AV.f32)]) rfl rfl (LOp.fap und56 rfl siz2 rfl rfl rfl) <|
        (TR.l (r := AV.i64 a0) rfl rfl (LOp.load1 agg2 rfl rfl) <|
        (TR.l (r := AV.ptr [AV.i64 a0, AV.i64 a1, AV.sl a2.length (a2.map AV.f32)]) rfl rfl (LOp.move rfl rfl) <|
        (TR.l (r := AV.ptr [AV.i64 a0, AV.i64 a1, AV.sl a2.length (a2.map AV.f32)]) rfl rfl (LOp.nilCheck_ptr rfl rfl) <|
        (TR.l (r := AV.ptr [AV.i64 a1, AV.sl a2.length (a2.map AV.f32)]) rfl rfl (LOp.fap und56 rfl siz2 rfl rfl rfl) <|
        (TR.l (r := AV.i64 a1) rfl rfl (LOp.load1 agg2 rfl rfl) <|
        (TR.d (r := AV.b true) (fs := []) rfl rfl (TOp.eqb (TOp.callB (CallAs.func ent85 rfl rfl) (Bors.cons (Bor.pure rfl) (Bors.cons (Bor.pure rfl) Bors.nil)) rfl rfl (s_l02Sides_ok a0 a1 r1 hf1)) hc2) <|
        (TR.l (r := AV.b true) rfl rfl (LOp.move rfl rfl) <|
        (TR.l (r := AV.ptr [AV.i64 a0, AV.i64 a1, AV.sl a2.length (a2.map AV.f32)]) rfl rfl (LOp.move rfl rfl) <|
        (TR.l (r := AV.ptr [AV.i64 a0, AV.i64 a1, AV.sl a2.length (a2.map AV.f32)]) rfl rfl (LOp.nilCheck_ptr rfl rfl) <|
        (TR.l (r := AV.ptr [AV.sl a2.length (a2.map AV.f32)]) rfl rfl (LOp.fap und56 rfl siz43 rfl rfl rfl) <|
        (TR.l (r := AV.sl a2.length (a2.map AV.f32)) rfl rfl (LOp.load1 agg43 rfl rfl) <|
        (TR.l (r := AV.i64 (a2.length : Int)) rfl rfl (LOp.len_sl und43 rfl rfl) <|
        (TR.l (r := AV.ptr [AV.i64 a0, AV.i64 a1, AV.sl a2.length (a2.map AV.f32)]) rfl rfl (LOp.move rfl rfl) <|
        (TR.l (r := AV.ptr [AV.i64 a0, AV.i64 a1, AV.sl a2.length (a2.map AV.f32)]) rfl rfl (LOp.nilCheck_ptr rfl rfl) <|
        (TR.l (r := AV.ptr [AV.i64 a0, AV.i64 a1, AV.sl a2.length (a2.map AV.f32)]) rfl rfl (LOp.fap und56 rfl siz2 rfl rfl rfl) <|
        (TR.l (r := AV.i64 a0) rfl rfl (LOp.load1 agg2 rfl rfl) <|
        (TR.l (r := AV.ptr [AV.i64 a0, AV.i64 a1, AV.sl a2.length (a2.map AV.f32)]) rfl rfl (LOp.move rfl rfl) <|
        (TR.l (r := AV.ptr [AV.i64 a0, AV.i64 a1, AV.sl a2.length (a2.map AV.f32)]) rfl rfl (LOp.nilCheck_ptr rfl rfl) <|
        (TR.l (r := AV.ptr [AV.i64 a1, AV.sl a2.length (a2.map AV.f32)]) rfl rfl (LOp.fap und56 rfl siz2 rfl rfl rfl) <|
        (TR.l (r := AV.i64 a1) rfl rfl (LOp.load1 agg2 rfl rfl) <|
        (TR.l (r := AV.i64 x2) rfl rfl (LOp.eqr (LOp.mul rfl rfl rfl) (congrArg (AV.ik .i64) hx3)) <|
        (TR.l (r := AV.b false) rfl rfl (LOp.eqb (LOp.eql rfl rfl rfl) hc4) <|
        (TR.l (r := AV.b false) rfl rfl (LOp.pick_true rfl rfl rfl) <|
        (TR.l (r := AV.b false) rfl rfl (LOp.move rfl rfl) <|
        (TR.s rfl rfl <|
        (TR.s rfl rfl <|
        (TR.s rfl rfl <|
        (TR.s rfl rfl <|
        (TR.s rfl rfl <|
        (TR.l (r := AV.b false) rfl rfl (LOp.pick_false rfl rfl rfl) <|
        (TR.l (r := AV.b false) rfl rfl (LOp.assign rfl rfl) <|
        TR.nil)))))))))))))))))))))))))))))))))) rfl (by kernel_rfl) rfl fills_nil rfl ?_
      iterate 34 refine ROps.dropS ?_
      refine ROps.drop0 ?_
      refine ROps.nil ?_
      refine RunC.ret ?_
      have hq := Option.some.inj h
      subst q0
      exact bodyQ.pure (.inr rfl) rfl (Res.one rfl (RV.tmp rfl))
  · refine RunC.region_draw (Γ' := []) 34 mixed 
      (TR.l (r := AV.ptr [AV.i64 a0, AV.i64 a1, AV.sl a2.length (a2.map AV.f32)]) rfl rfl (LOp.move rfl rfl) <|
      (TR.l (r := AV.ptr [AV.i64 a0, AV.i64 a1, AV.sl a2.length (a2.map AV.f32)]) rfl rfl (LOp.nilCheck_ptr rfl rfl) <|
      (TR.l (r := AV.ptr [AV.i64 a0, AV.i64 a1, AV.sl a2.length (a2.map AV.f32)]) rfl rfl (LOp.fap und56 rfl siz2 rfl rfl rfl) <|
      (TR.l (r := AV.i64 a0) rfl rfl (LOp.load1 agg2 rfl rfl) <|
      (TR.l (r := AV.ptr [AV.i64 a0, AV.i64 a1, AV.sl a2.length (a2.map AV.f32)]) rfl rfl (LOp.move rfl rfl) <|
      (TR.l (r := AV.ptr [AV.i64 a0, AV.i64 a1, AV.sl a2.length (a2.map AV.f32)]) rfl rfl (LOp.nilCheck_ptr rfl rfl) <|
      (TR.l (r := AV.ptr [AV.i64 a1, AV.sl a2.length (a2.map AV.f32)]) rfl rfl (LOp.fap und56 rfl siz2 rfl rfl rfl) <|
      (TR.l (r := AV.i64 a1) rfl rfl (LOp.load1 agg2 rfl rfl) <|
      (TR.d (r := AV.b false) (fs := []) rfl rfl (TOp.eqb (TOp.callB (CallAs.func ent85 rfl rfl) (Bors.cons (Bor.pure rfl) (Bors.cons (Bor.pure rfl) Bors.nil)) rfl rfl (s_l02Sides_ok a0 a1 r1 hf1)) hc2) <|
      (TR.l (r := AV.b false) rfl rfl (LOp.move rfl rfl) <|
      (TR.s rfl rfl <|
      (TR.s rfl rfl <|
      (TR.s rfl rfl <|
      (TR.s rfl rfl <|
      (TR.s rfl rfl <|
      (TR.s rfl rfl <|
      (TR.s rfl rfl <|
      (TR.s rfl rfl <|
      (TR.s rfl rfl <|
      (TR.s rfl rfl <|
      (TR.s rfl rfl <|
      (TR.s rfl rfl <|
      (TR.s rfl rfl <|
      (TR.s rfl rfl <|
      (TR.s rfl rfl <|
      (TR.l (r := AV.b false) rfl rfl (LOp.pick_false rfl rfl rfl) <|
      (TR.l (r := AV.b false) rfl rfl (LOp.move rfl rfl) <|
      (TR.s rfl rfl <|
      (TR.s rfl rfl <|
      (TR.s rfl rfl <|
      (TR.s rfl rfl <|
      (TR.s rfl rfl <|
      (TR.l (r := AV.b false) rfl rfl (LOp.pick_false rfl rfl rfl) <|
      (TR.l (r := AV.b false) rfl rfl (LOp.assign rfl rfl) <|
      TR.nil)))))))))))))))))))))))))))))))))) rfl (by kernel_rfl) rfl fills_nil rfl ?_
    iterate 34 refine ROps.dropS ?_
    refine ROps.drop0 ?_
    refine ROps.nil ?_
    refine RunC.ret ?_
    have hq := Option.some.inj h
    subst q0
    exact bodyQ.pure (.inr rfl) rfl (Res.one rfl (RV.tmp rfl))
noncomputable def s_l01Dec_k6 (l3 : List Int) (v4 : Int) (v7 : Int) : Option (LR ((List Int) × Int) ((List Int)) (ByteArray)) :=
  olet (IntKind.i64.wrap (48 + v7)) fun (x8 : Int) =>
  olet (IntKind.u8.wrap x8) fun (x9 : Int) =>
  need (apok 1 1 l3.length) <|
  need (!decide (10 = 0)) <|
  olet (IntKind.i64.wrap (v4.tdiv 10)) fun (x10 : Int) =>
  some (LR.next ((([x9] : List Int) ++ l3), x10))
noncomputable def s_l01Dec_k5 (l3 : List Int) (v4 : Int) : Option (LR ((List Int) × Int) ((List Int)) (ByteArray)) :=
  need (!decide (10 = 0)) <|
  olet (v4.tmod 10) fun (x5 : Int) =>
  bsel (decide (x5 < 0)) (
    olet (IntKind.i64.wrap (0 - x5)) fun (x6 : Int) =>
    s_l01Dec_k6 l3 v4 x6) (
    s_l01Dec_k6 l3 v4 x5)
noncomputable def s_l01Dec_b7 (l3 : List Int) (v4 : Int) : Option (LR ((List Int) × Int) ((List Int)) (ByteArray)) :=
  bsel (decide ((l3.length : Int) = 0)) (
    s_l01Dec_k5 l3 v4) (
    bsel (!decide (v4 = 0)) (
      s_l01Dec_k5 l3 v4) (
      some (LR.out l3)))
noncomputable def s_l01Dec_s7  : ((List Int) × Int) → Option (LR ((List Int) × Int) ((List Int)) (ByteArray)) := fun s => s_l01Dec_b7 s.1 s.2
noncomputable def s_l01Dec_k8 (l15 : List Int) : Option (ByteArray) :=
  some (strOfNums l15)
noncomputable def s_l01Dec_k7 (a0 : Int) (l13 : List Int) : Option (ByteArray) :=
  bsel (decide (a0 < 0)) (
    need (apok 1 1 l13.length) <|
    s_l01Dec_k8 (([45] : List Int) ++ l13)) (
    s_l01Dec_k8 l13)
noncomputable def s_l01Dec (a0 : Int) : Option (ByteArray) :=
  obind (loopM (s_l01Dec_s7) (([] : List Int), a0)) fun z => osum z (fun e => s_l01Dec_k7 a0 e) (fun r => some r)
theorem s_l01Dec_ok (a0 : Int) (q0 : ByteArray) (h : s_l01Dec a0 = some q0) : Ev Tryd.prog 73 [AV.i64 a0] [] (AV.str q0) [] := by
  refine Ev.start Tryd.func73 rfl rfl 2 (τ := [(0, AV.i64 a0)]) rfl (Γ' := [⟨0, none⟩, ⟨0, none⟩]) rfl (n := 73) rfl (g := 0) rfl (fun _ => rfl) ?_
  unfold s_l01Dec at h
  refine RunC.seq ?_
  refine RunC.regionW ?_
  refine ROps.l (r := AV.str lit_99ba06bc) rfl rfl rfl (LOp.assign rfl rfl) ?_
  refine ROps.nil ?_
  refine RunC.seq ?_
  refine RunC.regionW ?_
  refine ROps.d (r := AV.oref 0 1 0 0) (fs := [(0, (([] : List Int).map (AV.ik .u8)))]) (Γ' := [⟨1, some (([] : List Int).map (AV.ik .u8))⟩, ⟨0, none⟩]) rfl rfl rfl (TOp.buildSlice_o (g := ⟨0, none⟩) (za := AV.ik .u8 0) (qs := []) 0 rfl und75 siz5 zer5 rfl zel5 rfl rfl trivial rfl) rfl ?_
  refine ROps.l (r := AV.oref 0 1 0 0) rfl rfl rfl (LOp.assign rfl rfl) ?_
  refine ROps.nil ?_
  refine RunC.seq ?_
  refine RunC.regionW ?_
  refine ROps.l (r := AV.i64 a0) rfl rfl rfl (LOp.move rfl rfl) ?_
  refine ROps.l (r := AV.i64 a0) rfl rfl rfl (LOp.assign rfl rfl) ?_
  refine ROps.nil ?_
  refine RunC.seq ?_
  obtain ⟨z9, hz_9, h⟩ := obind_some h
  refine RunC.cutN (fun τ Γ => ∃ (l13 : List Int) (u11 : Nat) (u12 : Nat), Le 73 τ Γ [(0, AV.i64 a0), (3, AV.sl l13.length (l13.map (AV.ik .u8)))] [⟨u11, none⟩, ⟨u12, none⟩] ∧ z9 = .inl l13) ?_ ?_
  · refine RunC.block (RunC.loop (RunL.loopM (x := z9) (s_l01Dec_s7) (fun (s : (List Int) × Int) τ Γ => ∃ (u1 : Nat) (u2 : Nat), Le 73 τ Γ [(0, AV.i64 a0), (3, AV.sl s.1.length (s.1.map (AV.ik .u8))), (4, AV.i64 s.2)] [⟨u1, none⟩, ⟨u2, none⟩]) ?_ _ _ _ hz_9 ⟨1, 0, (Le.trans (Le.settle 0 [(0, AV.i64 a0), (3, AV.sl ([] : List Int).length (([] : List Int).map (AV.ik .u8))), (4, AV.i64 a0)] rfl rfl rfl ⟨.inl rfl, .inr (Bor.own (f := (AV.ik .u8)) (fun _ => rfl) rfl rfl), .inl rfl, trivial⟩) (Le.of ⟨(ALe.refl _), (ALe.refl _), (ALe.refl _), trivial⟩ ⟨⟨rfl, .inl rfl⟩, ⟨rfl, .inl rfl⟩, trivial⟩))⟩))
    rintro ⟨l3, v4⟩ τ9 Γ9 y9_ ⟨u1, u2, hw9⟩ h9_ ho9 hr9
    refine RunC.le (τ' := [(0, AV.i64 a0), (3, AV.sl l3.length (l3.map (AV.ik .u8))), (4, AV.i64 v4)]) (Γ' := [⟨u1, none⟩, ⟨u2, none⟩]) hw9 ?_
    replace h9_ : s_l01Dec_b7 l3 v4 = some y9_ := h9_
    unfold s_l01Dec_b7 at h9_
    refine RunC.seq ?_
    refine RunC.cutN (fun τ Γ =>  Le 73 τ Γ [(0, AV.i64 a0), (3, AV.sl l3.length (l3.map (AV.ik .u8))), (4, AV.i64 v4)] [⟨u1, none⟩, ⟨u2, none⟩] ∧ s_l01Dec_k5 l3 v4 = some y9_) ?_ ?_
    · refine RunC.seq ?_
      rcases bsel_some h9_ with ⟨hc1, h9_⟩ | ⟨hc1, h9_⟩
      · refine RunC.regionW ?_
        refine ROps.l (r := AV.sl l3.length (l3.map (AV.ik .u8))) rfl rfl rfl (LOp.move rfl rfl) ?_
        refine ROps.l (r := AV.i64 (l3.length : Int)) rfl rfl rfl (LOp.len_sl und75 rfl rfl) ?_
        refine ROps.l (r := AV.b true) rfl rfl rfl (LOp.eqb (LOp.eql rfl rfl rfl) hc1) ?_
        refine ROps.l (r := AV.b true) rfl rfl rfl (LOp.move rfl rfl) ?_
        refine ROps.s rfl rfl rfl ?_
        refine ROps.s rfl rfl rfl ?_
        refine ROps.l (r := AV.b true) rfl rfl rfl (LOp.pick_true rfl rfl rfl) ?_
        refine ROps.nil ?_
        refine RunC.cond_true rfl rfl ?_
        refine RunC.skip ?_
        exact ⟨(Le.of ⟨(ALe.refl _), (ALe.refl _), (ALe.refl _), trivial⟩ ⟨⟨rfl, .inl rfl⟩, ⟨rfl, .inl rfl⟩, trivial⟩), h9_⟩
      · rcases bsel_some h9_ with ⟨hc2, h9_⟩ | ⟨hc2, h9_⟩
        · refine RunC.regionW ?_
          refine ROps.l (r := AV.sl l3.length (l3.map (AV.ik .u8))) rfl rfl rfl (LOp.move rfl rfl) ?_
          refine ROps.l (r := AV.i64 (l3.length : Int)) rfl rfl rfl (LOp.len_sl und75 rfl rfl) ?_
          refine ROps.l (r := AV.b false) rfl rfl rfl (LOp.eqb (LOp.eql rfl rfl rfl) hc1) ?_
          refine ROps.l (r := AV.b false) rfl rfl rfl (LOp.move rfl rfl) ?_
          refine ROps.l (r := AV.i64 v4) rfl rfl rfl (LOp.move rfl rfl) ?_
          refine ROps.l (r := AV.b true) rfl rfl rfl (LOp.eqb (LOp.neq rfl rfl rfl) hc2) ?_
          refine ROps.l (r := AV.b true) rfl rfl rfl (LOp.pick_false rfl rfl rfl) ?_
          refine ROps.nil ?_
          refine RunC.cond_true rfl rfl ?_
          refine RunC.skip ?_
          exact ⟨(Le.of ⟨(ALe.refl _), (ALe.refl _), (ALe.refl _), trivial⟩ ⟨⟨rfl, .inl rfl⟩, ⟨rfl, .inl rfl⟩, trivial⟩), h9_⟩
        · refine RunC.regionW ?_
          refine ROps.l (r := AV.sl l3.length (l3.map (AV.ik .u8))) rfl rfl rfl (LOp.move rfl rfl) ?_
          refine ROps.l (r := AV.i64 (l3.length : Int)) rfl rfl rfl (LOp.len_sl und75 rfl rfl) ?_
          refine ROps.l (r := AV.b false) rfl rfl rfl (LOp.eqb (LOp.eql rfl rfl rfl) hc1) ?_
          refine ROps.l (r := AV.b false) rfl rfl rfl (LOp.move rfl rfl) ?_
          refine ROps.l (r := AV.i64 v4) rfl rfl rfl (LOp.move rfl rfl) ?_
          refine ROps.l (r := AV.b false) rfl rfl rfl (LOp.eqb (LOp.neq rfl rfl rfl) hc2) ?_
          refine ROps.l (r := AV.b false) rfl rfl rfl (LOp.pick_false rfl rfl rfl) ?_
          refine ROps.nil ?_
          refine RunC.cond_false rfl rfl ?_
          refine RunC.exit ?_
          cases Option.some.inj h9_
          have hx := ho9 _ rfl
          exact ⟨l3, u1, u2, (Le.of ⟨(ALe.refl _), (ALe.refl _), trivial⟩ ⟨⟨rfl, .inl rfl⟩, ⟨rfl, .inl rfl⟩, trivial⟩), hx⟩
    · rintro τ10 Γ10 ⟨hw10, h9_⟩
      refine RunC.le (τ' := [(0, AV.i64 a0), (3, AV.sl l3.length (l3.map (AV.ik .u8))), (4, AV.i64 v4)]) (Γ' := [⟨u1, none⟩, ⟨u2, none⟩]) hw10 ?_
      unfold s_l01Dec_k5 at h9_
      refine RunC.block ?_
      refine RunC.seq ?_
      obtain ⟨hz3, h9_⟩ := need_some h9_
      obtain ⟨x5, hx4, h9_⟩ := olet_some h9_
      refine RunC.regionW ?_
      refine ROps.l (r := AV.i64 v4) rfl rfl rfl (LOp.move rfl rfl) ?_
      refine ROps.l (r := AV.i64 x5) rfl rfl rfl (LOp.eqr (LOp.rem rfl rfl rfl (nz hz3)) (congrArg (AV.ik .i64) hx4)) ?_
      refine ROps.l (r := AV.i64 x5) rfl rfl rfl (LOp.assign rfl rfl) ?_
      refine ROps.nil ?_
      refine RunC.seq ?_
      refine RunC.cutN (fun τ Γ => ∃ (v7 : Int), Le 73 τ Γ [(0, AV.i64 a0), (3, AV.sl l3.length (l3.map (AV.ik .u8))), (4, AV.i64 v4), (5, AV.i64 v7)] [⟨u1, none⟩, ⟨u2, none⟩] ∧ s_l01Dec_k6 l3 v4 v7 = some y9_) ?_ ?_
      · refine RunC.seq ?_
        rcases bsel_some h9_ with ⟨hc5, h9_⟩ | ⟨hc5, h9_⟩
        · refine RunC.regionW ?_
          refine ROps.l (r := AV.i64 x5) rfl rfl rfl (LOp.move rfl rfl) ?_
          refine ROps.l (r := AV.b true) rfl rfl rfl (LOp.eqb (LOp.lss rfl rfl rfl) hc5) ?_
          refine ROps.nil ?_
          refine RunC.cond_true rfl rfl ?_
          obtain ⟨x6, hx6, h9_⟩ := olet_some h9_
          refine RunC.regionW ?_
          refine ROps.l (r := AV.i64 x5) rfl rfl rfl (LOp.move rfl rfl) ?_
          refine ROps.l (r := AV.i64 x6) rfl rfl rfl (LOp.eqr (LOp.neg_int rfl rfl) (congrArg (AV.ik .i64) hx6)) ?_
          refine ROps.l (r := AV.i64 x6) rfl rfl rfl (LOp.assign rfl rfl) ?_
          refine ROps.nil ?_
          exact ⟨x6, (Le.of ⟨(ALe.refl _), (ALe.refl _), (ALe.refl _), (ALe.refl _), trivial⟩ ⟨⟨rfl, .inl rfl⟩, ⟨rfl, .inl rfl⟩, trivial⟩), h9_⟩
        · refine RunC.regionW ?_
          refine ROps.l (r := AV.i64 x5) rfl rfl rfl (LOp.move rfl rfl) ?_
          refine ROps.l (r := AV.b false) rfl rfl rfl (LOp.eqb (LOp.lss rfl rfl rfl) hc5) ?_
          refine ROps.nil ?_
          refine RunC.cond_false rfl rfl ?_
          refine RunC.skip ?_
          exact ⟨x5, (Le.of ⟨(ALe.refl _), (ALe.refl _), (ALe.refl _), (ALe.refl _), trivial⟩ ⟨⟨rfl, .inl rfl⟩, ⟨rfl, .inl rfl⟩, trivial⟩), h9_⟩
      · rintro τ11 Γ11 ⟨v7, hw11, h9_⟩
        refine RunC.le (τ' := [(0, AV.i64 a0), (3, AV.sl l3.length (l3.map (AV.ik .u8))), (4, AV.i64 v4), (5, AV.i64 v7)]) (Γ' := [⟨u1, none⟩, ⟨u2, none⟩]) hw11 ?_
        unfold s_l01Dec_k6 at h9_
        refine RunC.seq ?_
        obtain ⟨x8, hx7, h9_⟩ := olet_some h9_
        obtain ⟨x9, hx8, h9_⟩ := olet_some h9_
        obtain ⟨hm9, h9_⟩ := need_some h9_
        refine RunC.regionW ?_
        refine ROps.l (r := AV.i64 v7) rfl rfl rfl (LOp.move rfl rfl) ?_
        refine ROps.l (r := AV.i64 x8) rfl rfl rfl (LOp.eqr (LOp.add rfl rfl rfl) (congrArg (AV.ik .i64) hx7)) ?_
        refine ROps.l (r := AV.ik .u8 x9) rfl rfl rfl (LOp.eqr (LOp.i2i (src := 2) (dst := 5) ⟨_, pun2⟩ pun5 rfl rfl) (congrArg (AV.ik .u8) hx8)) ?_
        refine ROps.d (r := AV.oref 0 (u1 + 1) 0 1) (fs := [(0, (([x9] : List Int).map (AV.ik .u8)))]) (Γ' := [⟨(u1 + 1), some (([x9] : List Int).map (AV.ik .u8))⟩, ⟨u2, none⟩]) rfl rfl rfl (TOp.buildSlice_o (g := ⟨u1, none⟩) (za := AV.ik .u8 0) (qs := [(0, [AV.ik .u8 x9])]) 0 rfl und75 siz5 zer5 rfl zel5 rfl rfl ⟨rfl, ⟨_, ALe.refl _, rfl⟩, trivial⟩ rfl) rfl ?_
        refine ROps.l (r := AV.sl l3.length (l3.map (AV.ik .u8))) rfl rfl rfl (LOp.move rfl rfl) ?_
        refine ROps.app (f := (AV.ik .u8)) (xs := ([x9] : List Int)) (ys := l3) (Γ' := [⟨(u1 + 2), some ((([x9] : List Int) ++ l3).map (AV.ik .u8))⟩, ⟨u2, none⟩]) rfl pun75 inf5 rfl rfl rfl rfl rfl rfl rfl rfl rfl (by simp) (ReadAs.sl (by simp)) (ones_map (fun _ => rfl)) (ap_by hm9) (ap_mx hm9) rfl ?_
        refine ROps.l (r := AV.oref 0 (u1 + 2) 0 (1 + l3.length)) rfl rfl rfl (LOp.assign rfl rfl) ?_
        refine ROps.nil ?_
        obtain ⟨hz10, h9_⟩ := need_some h9_
        obtain ⟨x10, hx11, h9_⟩ := olet_some h9_
        refine RunC.regionW ?_
        refine ROps.l (r := AV.i64 v4) rfl rfl rfl (LOp.move rfl rfl) ?_
        refine ROps.l (r := AV.i64 x10) rfl rfl rfl (LOp.eqr (LOp.quo rfl rfl rfl (nz hz10)) (congrArg (AV.ik .i64) hx11)) ?_
        refine ROps.l (r := AV.i64 x10) rfl rfl rfl (LOp.assign rfl rfl) ?_
        refine ROps.nil ?_
        cases Option.some.inj h9_
        exact ⟨_, rfl, (u1 + 2), u2, (Le.trans (Le.settle 0 [(0, AV.i64 a0), (3, AV.sl (([x9] : List Int) ++ l3).length ((([x9] : List Int) ++ l3).map (AV.ik .u8))), (4, AV.i64 x10)] rfl rfl rfl ⟨.inl rfl, .inr (Bor.own (f := (AV.ik .u8)) (fun _ => rfl) rfl (show (([x9] : List Int) ++ l3).length = (1 + l3.length) from (app_len rfl rfl))), .inl rfl, trivial⟩) (Le.of ⟨(ALe.refl _), (ALe.refl _), (ALe.refl _), trivial⟩ ⟨⟨rfl, .inl rfl⟩, ⟨rfl, .inl rfl⟩, trivial⟩))⟩
  · rintro τ12 Γ12 ⟨l13, u11, u12, hw12, rfl⟩
    refine RunC.le (τ' := [(0, AV.i64 a0), (3, AV.sl l13.length (l13.map (AV.ik .u8)))]) (Γ' := [⟨u11, none⟩, ⟨u12, none⟩]) hw12 ?_
    replace h : s_l01Dec_k7 a0 l13 = some q0 := h
    unfold s_l01Dec_k7 at h
    refine RunC.seq ?_
    refine RunC.cutN (fun τ Γ => ∃ (l15 : List Int) (u14 : Nat), Le 73 τ Γ [(3, AV.sl l15.length (l15.map (AV.ik .u8)))] [⟨u14, none⟩, ⟨u12, none⟩] ∧ s_l01Dec_k8 l15 = some q0) ?_ ?_
    · refine RunC.seq ?_
      rcases bsel_some h with ⟨hc12, h⟩ | ⟨hc12, h⟩
      · refine RunC.regionW ?_
        refine ROps.l (r := AV.i64 a0) rfl rfl rfl (LOp.move rfl rfl) ?_
        refine ROps.l (r := AV.b true) rfl rfl rfl (LOp.eqb (LOp.lss rfl rfl rfl) hc12) ?_
        refine ROps.nil ?_
        refine RunC.cond_true rfl rfl ?_
        obtain ⟨hm13, h⟩ := need_some h
        refine RunC.regionW ?_
        refine ROps.d (r := AV.oref 0 (u11 + 1) 0 1) (fs := [(0, (([45] : List Int).map (AV.ik .u8)))]) (Γ' := [⟨(u11 + 1), some (([45] : List Int).map (AV.ik .u8))⟩, ⟨u12, none⟩]) rfl rfl rfl (TOp.buildSlice_o (g := ⟨u11, none⟩) (za := AV.ik .u8 0) (qs := [(0, [AV.ik .u8 45])]) 0 rfl und75 siz5 zer5 rfl zel5 rfl rfl ⟨rfl, ⟨_, ALe.refl _, rfl⟩, trivial⟩ rfl) rfl ?_
        refine ROps.l (r := AV.sl l13.length (l13.map (AV.ik .u8))) rfl rfl rfl (LOp.move rfl rfl) ?_
        refine ROps.app (f := (AV.ik .u8)) (xs := ([45] : List Int)) (ys := l13) (Γ' := [⟨(u11 + 2), some ((([45] : List Int) ++ l13).map (AV.ik .u8))⟩, ⟨u12, none⟩]) rfl pun75 inf5 rfl rfl rfl rfl rfl rfl rfl rfl rfl (by simp) (ReadAs.sl (by simp)) (ones_map (fun _ => rfl)) (ap_by hm13) (ap_mx hm13) rfl ?_
        refine ROps.l (r := AV.oref 0 (u11 + 2) 0 (1 + l13.length)) rfl rfl rfl (LOp.assign rfl rfl) ?_
        refine ROps.nil ?_
        exact ⟨(([45] : List Int) ++ l13), (u11 + 2), (Le.trans (Le.settle 0 [(3, AV.sl (([45] : List Int) ++ l13).length ((([45] : List Int) ++ l13).map (AV.ik .u8)))] rfl rfl rfl ⟨.inr (Bor.own (f := (AV.ik .u8)) (fun _ => rfl) rfl (show (([45] : List Int) ++ l13).length = (1 + l13.length) from (app_len rfl rfl))), trivial⟩) (Le.of ⟨(ALe.refl _), trivial⟩ ⟨⟨rfl, .inl rfl⟩, ⟨rfl, .inl rfl⟩, trivial⟩)), h⟩
      · refine RunC.regionW ?_
        refine ROps.l (r := AV.i64 a0) rfl rfl rfl (LOp.move rfl rfl) ?_
        refine ROps.l (r := AV.b false) rfl rfl rfl (LOp.eqb (LOp.lss rfl rfl rfl) hc12) ?_
        refine ROps.nil ?_
        refine RunC.cond_false rfl rfl ?_
        refine RunC.skip ?_
        exact ⟨l13, u11, (Le.of ⟨(ALe.refl _), trivial⟩ ⟨⟨rfl, .inl rfl⟩, ⟨rfl, .inl rfl⟩, trivial⟩), h⟩
    · rintro τ13 Γ13 ⟨l15, u14, hw13, h⟩
      refine RunC.le (τ' := [(3, AV.sl l15.length (l15.map (AV.ik .u8)))]) (Γ' := [⟨u14, none⟩, ⟨u12, none⟩]) hw13 ?_
      unfold s_l01Dec_k8 at h
      refine RunC.seq ?_
      refine RunC.regionW ?_
      refine ROps.l (r := AV.sl l15.length (l15.map (AV.ik .u8))) rfl rfl rfl (LOp.move rfl rfl) ?_
      refine ROps.d (r := AV.str (strOfNums l15)) (fs := []) (Γ' := [⟨u14, none⟩, ⟨u12, none⟩]) rfl rfl rfl (TOp.b2s (xs := l15) pun75 pun5 pun9 rfl (fun _ _ => ReadAs.sl (by simp))) rfl ?_
      refine ROps.l (r := AV.str (strOfNums l15)) rfl rfl rfl (LOp.assign rfl rfl) ?_
      refine ROps.nil ?_
      refine RunC.ret ?_
      have hq := Option.some.inj h
      subst q0
      exact bodyQ.pure (.inr rfl) rfl (Res.one rfl (RV.tmp rfl))
noncomputable def s_l01Text_b1 (a0 : List Int) (s3 : ByteArray) (v4 : Int) : Option (LR (ByteArray × Int) (ByteArray) (ByteArray)) :=
  bsel (decide (v4 < (a0.length : Int))) (
    obind (at? a0 v4) fun (e5 : Int) =>
    obind (s_l01Dec e5) fun (r6 : ByteArray) =>
    obind (cats? lit_be717853 r6) fun (t7 : ByteArray) =>
    obind (cats? s3 t7) fun (t8 : ByteArray) =>
    olet (IntKind.i64.wrap (v4 + 1)) fun (x9 : Int) =>
    some (LR.next (t8, x9))) (
    some (LR.out s3))
noncomputable def s_l01Text_s1 (a0 : List Int) : (ByteArray × Int) → Option (LR (ByteArray × Int) (ByteArray) (ByteArray)) := fun s => s_l01Text_b1 a0 s.1 s.2
noncomputable def s_l01Text_k1 (s10 : ByteArray) : Option (ByteArray) :=
  some s10
noncomputable def s_l01Text (a0 : List Int) : Option (ByteArray) :=
  bsel (decide ((a0.length : Int) = 0)) (
    some lit_5ac87db9) (
    obind (at? a0 0) fun (e1 : Int) =>
    obind (s_l01Dec e1) fun (r2 : ByteArray) =>
    obind (loopM (s_l01Text_s1 a0) (r2, 1)) fun z => osum z (fun e => s_l01Text_k1 e) (fun r => some r))
theorem s_l01Text_ok (a0 : List Int) (q0 : ByteArray) (h : s_l01Text a0 = some q0) : Ev Tryd.prog 69 [AV.sl a0.length (a0.map AV.i64)] [] (AV.str q0) [] := by
  refine Ev.start Tryd.func69 rfl rfl 0 (τ := [(0, AV.sl a0.length (a0.map AV.i64))]) rfl (Γ' := []) rfl (n := 55) rfl (g := 0) rfl (fun _ => rfl) ?_
  unfold s_l01Text at h
  refine RunC.seq ?_
  refine RunC.regionW ?_
  refine ROps.l (r := AV.str lit_99ba06bc) rfl rfl rfl (LOp.assign rfl rfl) ?_
  refine ROps.nil ?_
  refine RunC.seq ?_
  refine RunC.seq ?_
  rcases bsel_some h with ⟨hc1, h⟩ | ⟨hc1, h⟩
  · refine RunC.regionW ?_
    refine ROps.l (r := AV.sl a0.length (a0.map AV.i64)) rfl rfl rfl (LOp.move rfl rfl) ?_
    refine ROps.l (r := AV.i64 (a0.length : Int)) rfl rfl rfl (LOp.len_sl und25 rfl rfl) ?_
    refine ROps.l (r := AV.b true) rfl rfl rfl (LOp.eqb (LOp.eql rfl rfl rfl) hc1) ?_
    refine ROps.nil ?_
    refine RunC.cond_true rfl rfl ?_
    refine RunC.seq ?_
    refine RunC.regionW ?_
    refine ROps.l (r := AV.str lit_5ac87db9) rfl rfl rfl (LOp.assign rfl rfl) ?_
    refine ROps.nil ?_
    refine RunC.ret ?_
    have hq := Option.some.inj h
    subst q0
    exact bodyQ.pure (.inr rfl) rfl (Res.one rfl (RV.tmp rfl))
  · refine RunC.regionW ?_
    refine ROps.l (r := AV.sl a0.length (a0.map AV.i64)) rfl rfl rfl (LOp.move rfl rfl) ?_
    refine ROps.l (r := AV.i64 (a0.length : Int)) rfl rfl rfl (LOp.len_sl und25 rfl rfl) ?_
    refine ROps.l (r := AV.b false) rfl rfl rfl (LOp.eqb (LOp.eql rfl rfl rfl) hc1) ?_
    refine ROps.nil ?_
    refine RunC.cond_false rfl rfl ?_
    refine RunC.skip ?_
    refine RunC.seq ?_
    obtain ⟨e1, he2, h⟩ := obind_some h
    obtain ⟨r2, hf3, h⟩ := obind_some h
    refine RunC.regionW ?_
    refine ROps.l (r := AV.sl a0.length (a0.map AV.i64)) rfl rfl rfl (LOp.move rfl rfl) ?_
    refine ROps.l (r := AV.ptr [AV.i64 e1]) rfl rfl rfl (LOp.le (LOp.ix (f := AV.i64) und25 siz2 rfl rfl rfl rfl he2) ALe.ptr) ?_
    refine ROps.l (r := AV.i64 e1) rfl rfl rfl (LOp.load1 agg2 rfl rfl) ?_
    refine ROps.d (r := AV.str r2) (fs := []) (Γ' := []) rfl rfl rfl (TOp.callB (CallAs.func ent73 rfl rfl) (Bors.cons (Bor.pure rfl) Bors.nil) rfl rfl (s_l01Dec_ok e1 r2 hf3)) rfl ?_
    refine ROps.l (r := AV.str r2) rfl rfl rfl (LOp.assign rfl rfl) ?_
    refine ROps.nil ?_
    refine RunC.seq ?_
    refine RunC.seq ?_
    refine RunC.regionW ?_
    refine ROps.l (r := AV.i64 1) rfl rfl rfl (LOp.assign rfl rfl) ?_
    refine ROps.nil ?_
    obtain ⟨z2, hz_2, h⟩ := obind_some h
    refine RunC.cutN (fun τ Γ => ∃ (s10 : ByteArray), WeakLe τ [(3, AV.str s10)] ∧ DeadLe Γ [] ∧ z2 = .inl s10) ?_ ?_
    · refine RunC.block (RunC.loop (RunL.loopM (x := z2) (s_l01Text_s1 a0) (fun (s : ByteArray × Int) τ Γ => WeakLe τ [(0, AV.sl a0.length (a0.map AV.i64)), (3, AV.str s.1), (4, AV.i64 s.2)] ∧ DeadLe Γ []) ?_ _ _ _ hz_2 ⟨⟨(ALe.refl _), (ALe.refl _), (ALe.refl _), trivial⟩, trivial⟩))
      rintro ⟨s3, v4⟩ τ2 Γ2 y2_ ⟨hw2, hd2⟩ h2_ ho2 hr2
      refine RunC.wl (τ' := [(0, AV.sl a0.length (a0.map AV.i64)), (3, AV.str s3), (4, AV.i64 v4)]) (Γ' := []) hw2 hd2 ?_
      replace h2_ : s_l01Text_b1 a0 s3 v4 = some y2_ := h2_
      unfold s_l01Text_b1 at h2_
      refine RunC.seq ?_
      refine RunC.seq ?_
      rcases bsel_some h2_ with ⟨hc4, h2_⟩ | ⟨hc4, h2_⟩
      · refine RunC.regionW ?_
        refine ROps.l (r := AV.i64 v4) rfl rfl rfl (LOp.move rfl rfl) ?_
        refine ROps.l (r := AV.sl a0.length (a0.map AV.i64)) rfl rfl rfl (LOp.move rfl rfl) ?_
        refine ROps.l (r := AV.i64 (a0.length : Int)) rfl rfl rfl (LOp.len_sl und25 rfl rfl) ?_
        refine ROps.l (r := AV.b true) rfl rfl rfl (LOp.eqb (LOp.lss rfl rfl rfl) hc4) ?_
        refine ROps.nil ?_
        refine RunC.cond_true rfl rfl ?_
        refine RunC.skip ?_
        refine RunC.seq ?_
        refine RunC.block ?_
        obtain ⟨e5, he5, h2_⟩ := obind_some h2_
        obtain ⟨r6, hf6, h2_⟩ := obind_some h2_
        obtain ⟨t7, hs7, h2_⟩ := obind_some h2_
        obtain ⟨t8, hs8, h2_⟩ := obind_some h2_
        refine RunC.regionW ?_
        refine ROps.l (r := AV.str s3) rfl rfl rfl (LOp.move rfl rfl) ?_
        refine ROps.l (r := AV.sl a0.length (a0.map AV.i64)) rfl rfl rfl (LOp.move rfl rfl) ?_
        refine ROps.l (r := AV.i64 v4) rfl rfl rfl (LOp.move rfl rfl) ?_
        refine ROps.l (r := AV.ptr [AV.i64 e5]) rfl rfl rfl (LOp.le (LOp.ix (f := AV.i64) und25 siz2 rfl rfl rfl rfl he5) ALe.ptr) ?_
        refine ROps.l (r := AV.i64 e5) rfl rfl rfl (LOp.load1 agg2 rfl rfl) ?_
        refine ROps.d (r := AV.str r6) (fs := []) (Γ' := []) rfl rfl rfl (TOp.callB (CallAs.func ent73 rfl rfl) (Bors.cons (Bor.pure rfl) Bors.nil) rfl rfl (s_l01Dec_ok e5 r6 hf6)) rfl ?_
        refine ROps.l (r := AV.str t7) rfl rfl rfl (LOp.cats rfl rfl rfl hs7) ?_
        refine ROps.l (r := AV.str t8) rfl rfl rfl (LOp.cats rfl rfl rfl hs8) ?_
        refine ROps.l (r := AV.str t8) rfl rfl rfl (LOp.assign rfl rfl) ?_
        refine ROps.nil ?_
        obtain ⟨x9, hx9, h2_⟩ := olet_some h2_
        refine RunC.regionW ?_
        refine ROps.l (r := AV.i64 v4) rfl rfl rfl (LOp.move rfl rfl) ?_
        refine ROps.l (r := AV.i64 x9) rfl rfl rfl (LOp.eqr (LOp.add rfl rfl rfl) (congrArg (AV.ik .i64) hx9)) ?_
        refine ROps.l (r := AV.i64 x9) rfl rfl rfl (LOp.assign rfl rfl) ?_
        refine ROps.nil ?_
        cases Option.some.inj h2_
        exact ⟨_, rfl, ⟨(ALe.refl _), (ALe.refl _), (ALe.refl _), trivial⟩, trivial⟩
      · refine RunC.regionW ?_
        refine ROps.l (r := AV.i64 v4) rfl rfl rfl (LOp.move rfl rfl) ?_
        refine ROps.l (r := AV.sl a0.length (a0.map AV.i64)) rfl rfl rfl (LOp.move rfl rfl) ?_
        refine ROps.l (r := AV.i64 (a0.length : Int)) rfl rfl rfl (LOp.len_sl und25 rfl rfl) ?_
        refine ROps.l (r := AV.b false) rfl rfl rfl (LOp.eqb (LOp.lss rfl rfl rfl) hc4) ?_
        refine ROps.nil ?_
        refine RunC.cond_false rfl rfl ?_
        refine RunC.exit ?_
        cases Option.some.inj h2_
        have hx := ho2 _ rfl
        exact ⟨s3, ⟨(ALe.refl _), trivial⟩, trivial, hx⟩
    · rintro τ3 Γ3 ⟨s10, hw3, hd3, rfl⟩
      refine RunC.wl (τ' := [(3, AV.str s10)]) (Γ' := []) hw3 hd3 ?_
      replace h : s_l01Text_k1 s10 = some q0 := h
      unfold s_l01Text_k1 at h
      refine RunC.seq ?_
      refine RunC.regionW ?_
      refine ROps.l (r := AV.str s10) rfl rfl rfl (LOp.move rfl rfl) ?_
      refine ROps.l (r := AV.str s10) rfl rfl rfl (LOp.assign rfl rfl) ?_
      refine ROps.nil ?_
      refine RunC.ret ?_
      have hq := Option.some.inj h
      subst q0
      exact bodyQ.pure (.inr rfl) rfl (Res.one rfl (RV.tmp rfl))
noncomputable def s_l01Bits (a0 : F) : Option (Int) :=
  bsel (!feq .f32 a0 a0) (
    some 2143289344) (
    obind (a0) fun (b1 : Nat) =>
    olet (IntKind.i64.wrap (b1 : Int)) fun (x2 : Int) =>
    some x2)
theorem s_l01Bits_ok (a0 : F) (q0 : Int) (h : s_l01Bits a0 = some q0) : Ev Tryd.prog 114 [AV.f32 a0] [] (AV.i64 q0) [] := by
  refine Ev.start Tryd.func114 rfl rfl 0 (τ := [(0, AV.f32 a0)]) rfl (Γ' := []) rfl (n := 19) rfl (g := 0) rfl (fun _ => rfl) ?_
  unfold s_l01Bits at h
  refine RunC.seq ?_
  refine RunC.regionW ?_
  refine ROps.l (r := AV.i64 0) rfl rfl rfl (LOp.assign rfl rfl) ?_
  refine ROps.nil ?_
  refine RunC.seq ?_
  refine RunC.seq ?_
  rcases bsel_some h with ⟨hc1, h⟩ | ⟨hc1, h⟩
  · refine RunC.regionW ?_
    refine ROps.l (r := AV.f32 a0) rfl rfl rfl (LOp.move rfl rfl) ?_
    refine ROps.l (r := AV.f32 a0) rfl rfl rfl (LOp.move rfl rfl) ?_
    refine ROps.l (r := AV.b true) rfl rfl rfl (LOp.eqb (LOp.fne rfl (OpF.tmp rfl) (OpF.tmp rfl)) hc1) ?_
    refine ROps.nil ?_
    refine RunC.cond_true rfl rfl ?_
    refine RunC.seq ?_
    refine RunC.regionW ?_
    refine ROps.l (r := AV.i64 2143289344) rfl rfl rfl (LOp.assign rfl rfl) ?_
    refine ROps.nil ?_
    refine RunC.ret ?_
    have hq := Option.some.inj h
    subst q0
    exact bodyQ.pure (.inr rfl) rfl (Res.one rfl (RV.tmp rfl))
  · refine RunC.regionW ?_
    refine ROps.l (r := AV.f32 a0) rfl rfl rfl (LOp.move rfl rfl) ?_
    refine ROps.l (r := AV.f32 a0) rfl rfl rfl (LOp.move rfl rfl) ?_
    refine ROps.l (r := AV.b false) rfl rfl rfl (LOp.eqb (LOp.fne rfl (OpF.tmp rfl) (OpF.tmp rfl)) hc1) ?_
    refine ROps.nil ?_
    refine RunC.cond_false rfl rfl ?_
    refine RunC.skip ?_
    refine RunC.seq ?_
    obtain ⟨b1, he2, h⟩ := obind_some h
    obtain ⟨x2, hx3, h⟩ := olet_some h
    refine RunC.regionW ?_
    refine ROps.l (r := AV.f32 a0) rfl rfl rfl (LOp.move rfl rfl) ?_
    refine ROps.l (r := AV.ik .u32 (b1 : Int)) rfl rfl rfl (LOp.fbx ext117 rfl (OpF.tmp rfl) he2) ?_
    refine ROps.l (r := AV.i64 x2) rfl rfl rfl (LOp.eqr (LOp.i2i (src := 147) (dst := 2) ⟨_, pun147⟩ pun2 rfl rfl) (congrArg (AV.ik .i64) hx3)) ?_
    refine ROps.l (r := AV.i64 x2) rfl rfl rfl (LOp.assign rfl rfl) ?_
    refine ROps.nil ?_
    refine RunC.ret ?_
    have hq := Option.some.inj h
    subst q0
    exact bodyQ.pure (.inr rfl) rfl (Res.one rfl (RV.tmp rfl))
noncomputable def s_l01Hex_b1 (r1 : Int) (L4 : List Int) (v5 : Int) : Option (LR ((List Int) × Int) ((List Int)) (ByteArray)) :=
  bsel (decide (0 ≤ v5)) (
    olet (IntKind.u64.wrap v5) fun (x6 : Int) =>
    need (decide (0 ≤ x6)) <|
    olet (ishr .i64 r1 x6) fun (x7 : Int) =>
    olet (iand .i64 x7 15) fun (x8 : Int) =>
    obind (sat? lit_2dfa74a3 x8) fun (e9 : Int) =>
    need (apok 1 L4.length 1) <|
    olet (IntKind.i64.wrap (v5 - 4)) fun (x10 : Int) =>
    some (LR.next ((L4 ++ ([e9] : List Int)), x10))) (
    some (LR.out L4))
noncomputable def s_l01Hex_s1 (r1 : Int) : ((List Int) × Int) → Option (LR ((List Int) × Int) ((List Int)) (ByteArray)) := fun s => s_l01Hex_b1 r1 s.1 s.2
noncomputable def s_l01Hex_k1 (L13 : List Int) : Option (ByteArray) :=
  some (strOfNums L13)
noncomputable def s_l01Hex (a0 : F) : Option (ByteArray) :=
  obind (s_l01Bits a0) fun (r1 : Int) =>
  obind (loopM (s_l01Hex_s1 r1) (([] : List Int), 28)) fun z => osum z (fun e => s_l01Hex_k1 e) (fun r => some r)
theorem s_l01Hex_ok (a0 : F) (q0 : ByteArray) (h : s_l01Hex a0 = some q0) : Ev Tryd.prog 95 [AV.f32 a0] [] (AV.str q0) [] := by
  refine Ev.start Tryd.func95 rfl rfl 2 (τ := [(0, AV.f32 a0)]) rfl (Γ' := [⟨0, none⟩, ⟨0, none⟩]) rfl (n := 49) rfl (g := 0) rfl (fun _ => rfl) ?_
  unfold s_l01Hex at h
  refine RunC.seq ?_
  refine RunC.regionW ?_
  refine ROps.l (r := AV.str lit_99ba06bc) rfl rfl rfl (LOp.assign rfl rfl) ?_
  refine ROps.nil ?_
  refine RunC.seq ?_
  obtain ⟨r1, hf1, h⟩ := obind_some h
  refine RunC.regionW ?_
  refine ROps.l (r := AV.f32 a0) rfl rfl rfl (LOp.move rfl rfl) ?_
  refine ROps.d (r := AV.i64 r1) (fs := []) (Γ' := [⟨0, none⟩, ⟨0, none⟩]) rfl rfl rfl (TOp.callB (CallAs.func ent114 rfl rfl) (Bors.cons (Bor.pure rfl) Bors.nil) rfl rfl (s_l01Bits_ok a0 r1 hf1)) rfl ?_
  refine ROps.l (r := AV.i64 r1) rfl rfl rfl (LOp.assign rfl rfl) ?_
  refine ROps.nil ?_
  refine RunC.seq ?_
  refine RunC.regionW ?_
  refine ROps.d (r := AV.oref 0 1 0 0) (fs := [(0, (([] : List Int).map (AV.ik .u8)))]) (Γ' := [⟨1, some (([] : List Int).map (AV.ik .u8))⟩, ⟨0, none⟩]) rfl rfl rfl (TOp.buildSlice_o (g := ⟨0, none⟩) (za := AV.ik .u8 0) (qs := []) 0 rfl und75 siz5 zer5 rfl zel5 rfl rfl trivial rfl) rfl ?_
  refine ROps.l (r := AV.oref 0 1 0 0) rfl rfl rfl (LOp.assign rfl rfl) ?_
  refine ROps.nil ?_
  refine RunC.seq ?_
  refine RunC.seq ?_
  refine RunC.regionW ?_
  refine ROps.l (r := AV.i64 28) rfl rfl rfl (LOp.assign rfl rfl) ?_
  refine ROps.nil ?_
  obtain ⟨z2, hz_2, h⟩ := obind_some h
  refine RunC.cutN (fun τ Γ => ∃ (L13 : List Int) (u11 : Nat) (u12 : Nat), WeakLe τ [(4, AV.oref 0 u11 0 L13.length)] ∧ DeadLe Γ [⟨u11, some (L13.map (AV.ik .u8))⟩, ⟨u12, none⟩] ∧ z2 = .inl L13) ?_ ?_
  · refine RunC.block (RunC.loop (RunL.loopM (x := z2) (s_l01Hex_s1 r1) (fun (s : (List Int) × Int) τ Γ => ∃ (u2 : Nat) (u3 : Nat), WeakLe τ [(3, AV.i64 r1), (4, AV.oref 0 u2 0 s.1.length), (5, AV.i64 s.2)] ∧ DeadLe Γ [⟨u2, some (s.1.map (AV.ik .u8))⟩, ⟨u3, none⟩]) ?_ _ _ _ hz_2 ⟨1, 0, ⟨(ALe.refl _), (ALe.refl _), (ALe.refl _), trivial⟩, ⟨⟨rfl, .inr rfl⟩, ⟨rfl, .inl rfl⟩, trivial⟩⟩))
    rintro ⟨L4, v5⟩ τ2 Γ2 y2_ ⟨u2, u3, hw2, hd2⟩ h2_ ho2 hr2
    refine RunC.wl (τ' := [(3, AV.i64 r1), (4, AV.oref 0 u2 0 L4.length), (5, AV.i64 v5)]) (Γ' := [⟨u2, some (L4.map (AV.ik .u8))⟩, ⟨u3, none⟩]) hw2 hd2 ?_
    replace h2_ : s_l01Hex_b1 r1 L4 v5 = some y2_ := h2_
    unfold s_l01Hex_b1 at h2_
    refine RunC.seq ?_
    refine RunC.seq ?_
    rcases bsel_some h2_ with ⟨hc2, h2_⟩ | ⟨hc2, h2_⟩
    · refine RunC.regionW ?_
      refine ROps.l (r := AV.i64 v5) rfl rfl rfl (LOp.move rfl rfl) ?_
      refine ROps.l (r := AV.b true) rfl rfl rfl (LOp.eqb (LOp.geq rfl rfl rfl) hc2) ?_
      refine ROps.nil ?_
      refine RunC.cond_true rfl rfl ?_
      refine RunC.skip ?_
      refine RunC.seq ?_
      refine RunC.block ?_
      obtain ⟨x6, hx3, h2_⟩ := olet_some h2_
      obtain ⟨hz4, h2_⟩ := need_some h2_
      obtain ⟨x7, hx5, h2_⟩ := olet_some h2_
      obtain ⟨x8, hx6, h2_⟩ := olet_some h2_
      obtain ⟨e9, he7, h2_⟩ := obind_some h2_
      obtain ⟨hm8, h2_⟩ := need_some h2_
      refine RunC.regionW ?_
      refine ROps.l (r := AV.oref 0 u2 0 L4.length) rfl rfl rfl (LOp.move rfl rfl) ?_
      refine ROps.l (r := AV.i64 r1) rfl rfl rfl (LOp.move rfl rfl) ?_
      refine ROps.l (r := AV.i64 v5) rfl rfl rfl (LOp.move rfl rfl) ?_
      refine ROps.l (r := AV.ik .u64 x6) rfl rfl rfl (LOp.eqr (LOp.i2i (src := 3) (dst := 144) ⟨_, pun3⟩ pun144 rfl rfl) (congrArg (AV.ik .u64) hx3)) ?_
      refine ROps.l (r := AV.i64 x7) rfl rfl rfl (LOp.eqr (LOp.shr rfl rfl rfl (of_decide_eq_true hz4)) (congrArg (AV.ik .i64) hx5)) ?_
      refine ROps.l (r := AV.i64 x8) rfl rfl rfl (LOp.eqr (LOp.iand rfl rfl rfl) (congrArg (AV.ik .i64) hx6)) ?_
      refine ROps.l (r := AV.ik .u8 e9) rfl rfl rfl (LOp.index_str und9 rfl rfl rfl he7) ?_
      refine ROps.d (r := AV.oref 1 (u3 + 1) 0 1) (fs := [(1, (([e9] : List Int).map (AV.ik .u8)))]) (Γ' := [⟨u2, some (L4.map (AV.ik .u8))⟩, ⟨(u3 + 1), some (([e9] : List Int).map (AV.ik .u8))⟩]) rfl rfl rfl (TOp.buildSlice_o (g := ⟨u3, none⟩) (za := AV.ik .u8 0) (qs := [(0, [AV.ik .u8 e9])]) 1 rfl und75 siz5 zer5 rfl zel5 rfl rfl ⟨rfl, ⟨_, ALe.refl _, rfl⟩, trivial⟩ rfl) rfl ?_
      refine ROps.app (f := (AV.ik .u8)) (xs := L4) (ys := ([e9] : List Int)) (Γ' := [⟨(u2 + 1), some ((L4 ++ ([e9] : List Int)).map (AV.ik .u8))⟩, ⟨(u3 + 1), some (([e9] : List Int).map (AV.ik .u8))⟩]) rfl pun75 inf5 rfl rfl rfl rfl rfl rfl rfl rfl rfl (by simp) (ReadAs.own rfl (by simp)) (ones_map (fun _ => rfl)) (ap_by hm8) (ap_mx hm8) rfl ?_
      refine ROps.l (r := AV.oref 0 (u2 + 1) 0 (L4.length + 1)) rfl rfl rfl (LOp.assign rfl rfl) ?_
      refine ROps.nil ?_
      refine RunC.wl (τ' := [(3, AV.i64 r1), (4, AV.oref 0 (u2 + 1) 0 (L4.length + 1)), (5, AV.i64 v5)]) (Γ' := [⟨(u2 + 1), some ((L4 ++ ([e9] : List Int)).map (AV.ik .u8))⟩, ⟨(u3 + 1), none⟩]) ⟨(ALe.refl _), (ALe.refl _), (ALe.refl _), trivial⟩ ⟨⟨rfl, .inr rfl⟩, ⟨rfl, .inl rfl⟩, trivial⟩ ?_
      obtain ⟨x10, hx9, h2_⟩ := olet_some h2_
      refine RunC.regionW ?_
      refine ROps.l (r := AV.i64 v5) rfl rfl rfl (LOp.move rfl rfl) ?_
      refine ROps.l (r := AV.i64 x10) rfl rfl rfl (LOp.eqr (LOp.sub rfl rfl rfl) (congrArg (AV.ik .i64) hx9)) ?_
      refine ROps.l (r := AV.i64 x10) rfl rfl rfl (LOp.assign rfl rfl) ?_
      refine ROps.nil ?_
      cases Option.some.inj h2_
      exact ⟨_, rfl, (u2 + 1), (u3 + 1), ⟨(ALe.refl _), (ALe.eq (by rw [(app_len rfl rfl)] <;> rfl)), (ALe.refl _), trivial⟩, ⟨⟨rfl, .inr rfl⟩, ⟨rfl, .inl rfl⟩, trivial⟩⟩
    · refine RunC.regionW ?_
      refine ROps.l (r := AV.i64 v5) rfl rfl rfl (LOp.move rfl rfl) ?_
      refine ROps.l (r := AV.b false) rfl rfl rfl (LOp.eqb (LOp.geq rfl rfl rfl) hc2) ?_
      refine ROps.nil ?_
      refine RunC.cond_false rfl rfl ?_
      refine RunC.exit ?_
      cases Option.some.inj h2_
      have hx := ho2 _ rfl
      exact ⟨L4, u2, u3, ⟨(ALe.refl _), trivial⟩, ⟨⟨rfl, .inr rfl⟩, ⟨rfl, .inl rfl⟩, trivial⟩, hx⟩
  · rintro τ3 Γ3 ⟨L13, u11, u12, hw3, hd3, rfl⟩
    refine RunC.wl (τ' := [(4, AV.oref 0 u11 0 L13.length)]) (Γ' := [⟨u11, some (L13.map (AV.ik .u8))⟩, ⟨u12, none⟩]) hw3 hd3 ?_
    replace h : s_l01Hex_k1 L13 = some q0 := h
    unfold s_l01Hex_k1 at h
    refine RunC.seq ?_
    refine RunC.regionW ?_
    refine ROps.l (r := AV.oref 0 u11 0 L13.length) rfl rfl rfl (LOp.move rfl rfl) ?_
    refine ROps.d (r := AV.str (strOfNums L13)) (fs := []) (Γ' := [⟨u11, some (L13.map (AV.ik .u8))⟩, ⟨u12, none⟩]) rfl rfl rfl (TOp.b2s (xs := L13) pun75 pun5 pun9 rfl (fun _ hL => ReadAs.own (hL.2 _ _ _ rfl) (by simp))) rfl ?_
    refine ROps.l (r := AV.str (strOfNums L13)) rfl rfl rfl (LOp.assign rfl rfl) ?_
    refine ROps.nil ?_
    refine RunC.ret ?_
    have hq := Option.some.inj h
    subst q0
    exact bodyQ.pure (.inr rfl) rfl (Res.one rfl (RV.tmp rfl))
noncomputable def s_l01NText_b1 (a0 : List F) (s3 : ByteArray) (v4 : Int) : Option (LR (ByteArray × Int) (ByteArray) (ByteArray)) :=
  bsel (decide (v4 < (a0.length : Int))) (
    obind (at? a0 v4) fun (e5 : F) =>
    obind (s_l01Hex e5) fun (r6 : ByteArray) =>
    obind (cats? lit_be717853 r6) fun (t7 : ByteArray) =>
    obind (cats? s3 t7) fun (t8 : ByteArray) =>
    olet (IntKind.i64.wrap (v4 + 1)) fun (x9 : Int) =>
    some (LR.next (t8, x9))) (
    some (LR.out s3))
noncomputable def s_l01NText_s1 (a0 : List F) : (ByteArray × Int) → Option (LR (ByteArray × Int) (ByteArray) (ByteArray)) := fun s => s_l01NText_b1 a0 s.1 s.2
noncomputable def s_l01NText_k1 (s10 : ByteArray) : Option (ByteArray) :=
  some s10
noncomputable def s_l01NText (a0 : List F) : Option (ByteArray) :=
  bsel (decide ((a0.length : Int) = 0)) (
    some lit_5ac87db9) (
    obind (at? a0 0) fun (e1 : F) =>
    obind (s_l01Hex e1) fun (r2 : ByteArray) =>
    obind (loopM (s_l01NText_s1 a0) (r2, 1)) fun z => osum z (fun e => s_l01NText_k1 e) (fun r => some r))
theorem s_l01NText_ok (a0 : List F) (q0 : ByteArray) (h : s_l01NText a0 = some q0) : Ev Tryd.prog 79 [AV.sl a0.length (a0.map AV.f32)] [] (AV.str q0) [] := by
  refine Ev.start Tryd.func79 rfl rfl 0 (τ := [(0, AV.sl a0.length (a0.map AV.f32))]) rfl (Γ' := []) rfl (n := 55) rfl (g := 0) rfl (fun _ => rfl) ?_
  unfold s_l01NText at h
  refine RunC.seq ?_
  refine RunC.regionW ?_
  refine ROps.l (r := AV.str lit_99ba06bc) rfl rfl rfl (LOp.assign rfl rfl) ?_
  refine ROps.nil ?_
  refine RunC.seq ?_
  refine RunC.seq ?_
  rcases bsel_some h with ⟨hc1, h⟩ | ⟨hc1, h⟩
  · refine RunC.regionW ?_
    refine ROps.l (r := AV.sl a0.length (a0.map AV.f32)) rfl rfl rfl (LOp.move rfl rfl) ?_
    refine ROps.l (r := AV.i64 (a0.length : Int)) rfl rfl rfl (LOp.len_sl und43 rfl rfl) ?_
    refine ROps.l (r := AV.b true) rfl rfl rfl (LOp.eqb (LOp.eql rfl rfl rfl) hc1) ?_
    refine ROps.nil ?_
    refine RunC.cond_true rfl rfl ?_
    refine RunC.seq ?_
    refine RunC.regionW ?_
    refine ROps.l (r := AV.str lit_5ac87db9) rfl rfl rfl (LOp.assign rfl rfl) ?_
    refine ROps.nil ?_
    refine RunC.ret ?_
    have hq := Option.some.inj h
    subst q0
    exact bodyQ.pure (.inr rfl) rfl (Res.one rfl (RV.tmp rfl))
  · refine RunC.regionW ?_
    refine ROps.l (r := AV.sl a0.length (a0.map AV.f32)) rfl rfl rfl (LOp.move rfl rfl) ?_
    refine ROps.l (r := AV.i64 (a0.length : Int)) rfl rfl rfl (LOp.len_sl und43 rfl rfl) ?_
    refine ROps.l (r := AV.b false) rfl rfl rfl (LOp.eqb (LOp.eql rfl rfl rfl) hc1) ?_
    refine ROps.nil ?_
    refine RunC.cond_false rfl rfl ?_
    refine RunC.skip ?_
    refine RunC.seq ?_
    obtain ⟨e1, he2, h⟩ := obind_some h
    obtain ⟨r2, hf3, h⟩ := obind_some h
    refine RunC.regionW ?_
    refine ROps.l (r := AV.sl a0.length (a0.map AV.f32)) rfl rfl rfl (LOp.move rfl rfl) ?_
    refine ROps.l (r := AV.ptr [AV.f32 e1]) rfl rfl rfl (LOp.le (LOp.ix (f := AV.f32) und43 siz115 rfl rfl rfl rfl he2) ALe.ptr) ?_
    refine ROps.l (r := AV.f32 e1) rfl rfl rfl (LOp.load1 agg115 rfl rfl) ?_
    refine ROps.d (r := AV.str r2) (fs := []) (Γ' := []) rfl rfl rfl (TOp.callB (CallAs.func ent95 rfl rfl) (Bors.cons (Bor.pure rfl) Bors.nil) rfl rfl (s_l01Hex_ok e1 r2 hf3)) rfl ?_
    refine ROps.l (r := AV.str r2) rfl rfl rfl (LOp.assign rfl rfl) ?_
    refine ROps.nil ?_
    refine RunC.seq ?_
    refine RunC.seq ?_
    refine RunC.regionW ?_
    refine ROps.l (r := AV.i64 1) rfl rfl rfl (LOp.assign rfl rfl) ?_
    refine ROps.nil ?_
    obtain ⟨z2, hz_2, h⟩ := obind_some h
    refine RunC.cutN (fun τ Γ => ∃ (s10 : ByteArray), WeakLe τ [(3, AV.str s10)] ∧ DeadLe Γ [] ∧ z2 = .inl s10) ?_ ?_
    · refine RunC.block (RunC.loop (RunL.loopM (x := z2) (s_l01NText_s1 a0) (fun (s : ByteArray × Int) τ Γ => WeakLe τ [(0, AV.sl a0.length (a0.map AV.f32)), (3, AV.str s.1), (4, AV.i64 s.2)] ∧ DeadLe Γ []) ?_ _ _ _ hz_2 ⟨⟨(ALe.refl _), (ALe.refl _), (ALe.refl _), trivial⟩, trivial⟩))
      rintro ⟨s3, v4⟩ τ2 Γ2 y2_ ⟨hw2, hd2⟩ h2_ ho2 hr2
      refine RunC.wl (τ' := [(0, AV.sl a0.length (a0.map AV.f32)), (3, AV.str s3), (4, AV.i64 v4)]) (Γ' := []) hw2 hd2 ?_
      replace h2_ : s_l01NText_b1 a0 s3 v4 = some y2_ := h2_
      unfold s_l01NText_b1 at h2_
      refine RunC.seq ?_
      refine RunC.seq ?_
      rcases bsel_some h2_ with ⟨hc4, h2_⟩ | ⟨hc4, h2_⟩
      · refine RunC.regionW ?_
        refine ROps.l (r := AV.i64 v4) rfl rfl rfl (LOp.move rfl rfl) ?_
        refine ROps.l (r := AV.sl a0.length (a0.map AV.f32)) rfl rfl rfl (LOp.move rfl rfl) ?_
        refine ROps.l (r := AV.i64 (a0.length : Int)) rfl rfl rfl (LOp.len_sl und43 rfl rfl) ?_
        refine ROps.l (r := AV.b true) rfl rfl rfl (LOp.eqb (LOp.lss rfl rfl rfl) hc4) ?_
        refine ROps.nil ?_
        refine RunC.cond_true rfl rfl ?_
        refine RunC.skip ?_
        refine RunC.seq ?_
        refine RunC.block ?_
        obtain ⟨e5, he5, h2_⟩ := obind_some h2_
        obtain ⟨r6, hf6, h2_⟩ := obind_some h2_
        obtain ⟨t7, hs7, h2_⟩ := obind_some h2_
        obtain ⟨t8, hs8, h2_⟩ := obind_some h2_
        refine RunC.regionW ?_
        refine ROps.l (r := AV.str s3) rfl rfl rfl (LOp.move rfl rfl) ?_
        refine ROps.l (r := AV.sl a0.length (a0.map AV.f32)) rfl rfl rfl (LOp.move rfl rfl) ?_
        refine ROps.l (r := AV.i64 v4) rfl rfl rfl (LOp.move rfl rfl) ?_
        refine ROps.l (r := AV.ptr [AV.f32 e5]) rfl rfl rfl (LOp.le (LOp.ix (f := AV.f32) und43 siz115 rfl rfl rfl rfl he5) ALe.ptr) ?_
        refine ROps.l (r := AV.f32 e5) rfl rfl rfl (LOp.load1 agg115 rfl rfl) ?_
        refine ROps.d (r := AV.str r6) (fs := []) (Γ' := []) rfl rfl rfl (TOp.callB (CallAs.func ent95 rfl rfl) (Bors.cons (Bor.pure rfl) Bors.nil) rfl rfl (s_l01Hex_ok e5 r6 hf6)) rfl ?_
        refine ROps.l (r := AV.str t7) rfl rfl rfl (LOp.cats rfl rfl rfl hs7) ?_
        refine ROps.l (r := AV.str t8) rfl rfl rfl (LOp.cats rfl rfl rfl hs8) ?_
        refine ROps.l (r := AV.str t8) rfl rfl rfl (LOp.assign rfl rfl) ?_
        refine ROps.nil ?_
        obtain ⟨x9, hx9, h2_⟩ := olet_some h2_
        refine RunC.regionW ?_
        refine ROps.l (r := AV.i64 v4) rfl rfl rfl (LOp.move rfl rfl) ?_
        refine ROps.l (r := AV.i64 x9) rfl rfl rfl (LOp.eqr (LOp.add rfl rfl rfl) (congrArg (AV.ik .i64) hx9)) ?_
        refine ROps.l (r := AV.i64 x9) rfl rfl rfl (LOp.assign rfl rfl) ?_
        refine ROps.nil ?_
        cases Option.some.inj h2_
        exact ⟨_, rfl, ⟨(ALe.refl _), (ALe.refl _), (ALe.refl _), trivial⟩, trivial⟩
      · refine RunC.regionW ?_
        refine ROps.l (r := AV.i64 v4) rfl rfl rfl (LOp.move rfl rfl) ?_
        refine ROps.l (r := AV.sl a0.length (a0.map AV.f32)) rfl rfl rfl (LOp.move rfl rfl) ?_
        refine ROps.l (r := AV.i64 (a0.length : Int)) rfl rfl rfl (LOp.len_sl und43 rfl rfl) ?_
        refine ROps.l (r := AV.b false) rfl rfl rfl (LOp.eqb (LOp.lss rfl rfl rfl) hc4) ?_
        refine ROps.nil ?_
        refine RunC.cond_false rfl rfl ?_
        refine RunC.exit ?_
        cases Option.some.inj h2_
        have hx := ho2 _ rfl
        exact ⟨s3, ⟨(ALe.refl _), trivial⟩, trivial, hx⟩
    · rintro τ3 Γ3 ⟨s10, hw3, hd3, rfl⟩
      refine RunC.wl (τ' := [(3, AV.str s10)]) (Γ' := []) hw3 hd3 ?_
      replace h : s_l01NText_k1 s10 = some q0 := h
      unfold s_l01NText_k1 at h
      refine RunC.seq ?_
      refine RunC.regionW ?_
      refine ROps.l (r := AV.str s10) rfl rfl rfl (LOp.move rfl rfl) ?_
      refine ROps.l (r := AV.str s10) rfl rfl rfl (LOp.assign rfl rfl) ?_
      refine ROps.nil ?_
      refine RunC.ret ?_
      have hq := Option.some.inj h
      subst q0
      exact bodyQ.pure (.inr rfl) rfl (Res.one rfl (RV.tmp rfl))
noncomputable def s_l08Matrix (a0 : Int) (a1 : Int) (a2 : List F) : Option (ByteArray) :=
  obind (s_l01Text ([a0, a1] : List Int)) fun (r1 : ByteArray) =>
  obind (cats? r1 lit_b7340269) fun (t2 : ByteArray) =>
  obind (s_l01NText a2) fun (r3 : ByteArray) =>
  obind (cats? t2 r3) fun (t4 : ByteArray) =>
  some t4
theorem s_l08Matrix_ok (a0 : Int) (a1 : Int) (a2 : List F) (q0 : ByteArray) (h : s_l08Matrix a0 a1 a2 = some q0) : Ev Tryd.prog 63 [AV.ptr [AV.i64 a0, AV.i64 a1, AV.sl a2.length (a2.map AV.f32)]] [] (AV.str q0) [] := by
  refine Ev.start Tryd.func63 rfl rfl 0 (τ := [(0, AV.ptr [AV.i64 a0, AV.i64 a1, AV.sl a2.length (a2.map AV.f32)])]) rfl (Γ' := []) rfl (n := 41) rfl (g := 0) rfl (fun _ => rfl) ?_
  unfold s_l08Matrix at h
  refine RunC.seq ?_
  refine RunC.regionW ?_
  refine ROps.l (r := AV.str lit_99ba06bc) rfl rfl rfl (LOp.assign rfl rfl) ?_
  refine ROps.nil ?_
  refine RunC.seq ?_
  obtain ⟨r1, hf1, h⟩ := obind_some h
  obtain ⟨t2, hs2, h⟩ := obind_some h
  obtain ⟨r3, hf3, h⟩ := obind_some h
  obtain ⟨t4, hs4, h⟩ := obind_some h
  refine RunC.region_draw (Γ' := []) 18 mixed 
    (TR.l (r := AV.ptr [AV.i64 a0, AV.i64 a1, AV.sl a2.length (a2.map AV.f32)]) rfl rfl (LOp.move rfl rfl) <|
    (TR.l (r := AV.ptr [AV.i64 a0, AV.i64 a1, AV.sl a2.length (a2.map AV.f32)]) rfl rfl (LOp.nilCheck_ptr rfl rfl) <|
    (TR.l (r := AV.ptr [AV.i64 a0, AV.i64 a1, AV.sl a2.length (a2.map AV.f32)]) rfl rfl (LOp.fap und56 rfl siz2 rfl rfl rfl) <|
    (TR.l (r := AV.i64 a0) rfl rfl (LOp.load1 agg2 rfl rfl) <|
    (TR.l (r := AV.ptr [AV.i64 a0, AV.i64 a1, AV.sl a2.length (a2.map AV.f32)]) rfl rfl (LOp.move rfl rfl) <|
    (TR.l (r := AV.ptr [AV.i64 a0, AV.i64 a1, AV.sl a2.length (a2.map AV.f32)]) rfl rfl (LOp.nilCheck_ptr rfl rfl) <|
    (TR.l (r := AV.ptr [AV.i64 a1, AV.sl a2.length (a2.map AV.f32)]) rfl rfl (LOp.fap und56 rfl siz2 rfl rfl rfl) <|
    (TR.l (r := AV.i64 a1) rfl rfl (LOp.load1 agg2 rfl rfl) <|
    (TR.d (r := AV.sl ([a0, a1] : List Int).length (([a0, a1] : List Int).map AV.i64)) (fs := []) rfl rfl (TOp.buildSlice_s (za := AV.i64 0) (qs := [(0, [AV.i64 a0]), (1, [AV.i64 a1])]) und25 siz2 zer2 rfl zel2 rfl rfl ⟨rfl, ⟨_, ALe.refl _, rfl⟩, ⟨rfl, ⟨_, ALe.refl _, rfl⟩, trivial⟩⟩ rfl) <|
    (TR.d (r := AV.str r1) (fs := []) rfl rfl (TOp.callB (CallAs.func ent69 rfl rfl) (Bors.cons (Bor.sl (fun _ => rfl)) Bors.nil) rfl rfl (s_l01Text_ok ([a0, a1] : List Int) r1 hf1)) <|
    (TR.l (r := AV.str t2) rfl rfl (LOp.cats rfl rfl rfl hs2) <|
    (TR.l (r := AV.ptr [AV.i64 a0, AV.i64 a1, AV.sl a2.length (a2.map AV.f32)]) rfl rfl (LOp.move rfl rfl) <|
    (TR.l (r := AV.ptr [AV.i64 a0, AV.i64 a1, AV.sl a2.length (a2.map AV.f32)]) rfl rfl (LOp.nilCheck_ptr rfl rfl) <|
    (TR.l (r := AV.ptr [AV.sl a2.length (a2.map AV.f32)]) rfl rfl (LOp.fap und56 rfl siz43 rfl rfl rfl) <|
    (TR.l (r := AV.sl a2.length (a2.map AV.f32)) rfl rfl (LOp.load1 agg43 rfl rfl) <|
    (TR.d (r := AV.str r3) (fs := []) rfl rfl (TOp.callB (CallAs.func ent79 rfl rfl) (Bors.cons (Bor.sl (fun _ => rfl)) Bors.nil) rfl rfl (s_l01NText_ok a2 r3 hf3)) <|
    (TR.l (r := AV.str t4) rfl rfl (LOp.cats rfl rfl rfl hs4) <|
    (TR.l (r := AV.str t4) rfl rfl (LOp.assign rfl rfl) <|
    TR.nil)))))))))))))))))) rfl (by kernel_rfl) rfl fills_nil rfl ?_
  iterate 18 refine ROps.dropS ?_
  refine ROps.drop0 ?_
  refine ROps.nil ?_
  refine RunC.ret ?_
  have hq := Option.some.inj h
  subst q0
  exact bodyQ.pure (.inr rfl) rfl (Res.one rfl (RV.tmp rfl))
noncomputable def s_MatrixText (a0 : Int) (a1 : Int) (a2 : List F) : Option (ByteArray × Bool) :=
  obind (s_l02Is a0 a1 a2) fun (r1 : Bool) =>
  bsel r1 (
    obind (s_l08Matrix a0 a1 a2) fun (r2 : ByteArray) =>
    some (r2, true)) (
    some (lit_99ba06bc, false))
theorem s_MatrixText_ok (a0 : Int) (a1 : Int) (a2 : List F) (q0 : ByteArray) (q1 : Bool) (h : s_MatrixText a0 a1 a2 = some (q0, q1)) : Ev Tryd.prog 31 [AV.agg [AV.i64 a0, AV.i64 a1, AV.sl a2.length (a2.map AV.f32)]] [] (AV.tup [AV.str q0, AV.b q1]) [] := by
  refine Ev.start Tryd.func31 rfl rfl 0 (τ := [(0, AV.agg [AV.i64 a0, AV.i64 a1, AV.sl a2.length (a2.map AV.f32)])]) rfl (Γ' := []) rfl (n := 15) rfl (g := 0) rfl (fun _ => rfl) ?_
  unfold s_MatrixText at h
  refine RunC.seq ?_
  refine RunC.regionW ?_
  refine ROps.d (r := AV.ptr [AV.i64 a0, AV.i64 a1, AV.sl a2.length (a2.map AV.f32)]) (fs := []) (Γ' := []) rfl rfl rfl (TOp.box_s rfl rfl rfl) rfl ?_
  refine ROps.l (r := AV.str lit_99ba06bc) rfl rfl rfl (LOp.assign rfl rfl) ?_
  refine ROps.l (r := AV.b false) rfl rfl rfl (LOp.assign rfl rfl) ?_
  refine ROps.nil ?_
  refine RunC.seq ?_
  refine RunC.seq ?_
  obtain ⟨r1, hf1, h⟩ := obind_some h
  rcases bsel_some h with ⟨hc2, h⟩ | ⟨hc2, h⟩
  · refine RunC.regionW ?_
    refine ROps.d (r := AV.b true) (fs := []) (Γ' := []) rfl rfl rfl (TOp.eqb (TOp.callB (CallAs.func ent62 rfl rfl) (Bors.cons (Bor.ptr (Bors.cons (Bor.pure rfl) (Bors.cons (Bor.pure rfl) (Bors.cons (Bor.sl (fun _ => rfl)) Bors.nil)))) Bors.nil) rfl rfl (s_l02Is_ok a0 a1 a2 r1 hf1)) hc2) rfl ?_
    refine ROps.l (r := AV.b false) rfl rfl rfl (LOp.eqb (LOp.not rfl rfl) rfl) ?_
    refine ROps.nil ?_
    refine RunC.cond_false rfl rfl ?_
    refine RunC.skip ?_
    refine RunC.seq ?_
    obtain ⟨r2, hf3, h⟩ := obind_some h
    refine RunC.regionW ?_
    refine ROps.d (r := AV.str r2) (fs := []) (Γ' := []) rfl rfl rfl (TOp.callB (CallAs.func ent63 rfl rfl) (Bors.cons (Bor.ptr (Bors.cons (Bor.pure rfl) (Bors.cons (Bor.pure rfl) (Bors.cons (Bor.sl (fun _ => rfl)) Bors.nil)))) Bors.nil) rfl rfl (s_l08Matrix_ok a0 a1 a2 r2 hf3)) rfl ?_
    refine ROps.l (r := AV.str r2) rfl rfl rfl (LOp.assign rfl rfl) ?_
    refine ROps.l (r := AV.b true) rfl rfl rfl (LOp.assign rfl rfl) ?_
    refine ROps.nil ?_
    refine RunC.ret ?_
    have hq := Option.some.inj h
    obtain ⟨hq0, hq⟩ := Prod.mk.inj hq
    subst q0
    subst q1
    exact bodyQ.pure (.inr rfl) rfl (Res.two rfl (RV.tmp rfl) (RV.tmp rfl))
  · refine RunC.regionW ?_
    refine ROps.d (r := AV.b false) (fs := []) (Γ' := []) rfl rfl rfl (TOp.eqb (TOp.callB (CallAs.func ent62 rfl rfl) (Bors.cons (Bor.ptr (Bors.cons (Bor.pure rfl) (Bors.cons (Bor.pure rfl) (Bors.cons (Bor.sl (fun _ => rfl)) Bors.nil)))) Bors.nil) rfl rfl (s_l02Is_ok a0 a1 a2 r1 hf1)) hc2) rfl ?_
    refine ROps.l (r := AV.b true) rfl rfl rfl (LOp.eqb (LOp.not rfl rfl) rfl) ?_
    refine ROps.nil ?_
    refine RunC.cond_true rfl rfl ?_
    refine RunC.seq ?_
    refine RunC.regionW ?_
    refine ROps.l (r := AV.str lit_99ba06bc) rfl rfl rfl (LOp.assign rfl rfl) ?_
    refine ROps.l (r := AV.b false) rfl rfl rfl (LOp.assign rfl rfl) ?_
    refine ROps.nil ?_
    refine RunC.ret ?_
    have hq := Option.some.inj h
    obtain ⟨hq0, hq⟩ := Prod.mk.inj hq
    subst q0
    subst q1
    exact bodyQ.pure (.inr rfl) rfl (Res.two rfl (RV.tmp rfl) (RV.tmp rfl))
noncomputable def i_inRange (a0 : Int) (a1 : Int) (a2 : Int) : Option (Bool) :=
  bsel (decide (a1 ≤ a0)) (
    some (decide (a0 ≤ a2))) (
    some false)
theorem i_inRange_ok (a0 : Int) (a1 : Int) (a2 : Int) (q0 : Bool) (h : i_inRange a0 a1 a2 = some q0) : Ev Tryd.prog 87 [AV.i64 a0, AV.i64 a1, AV.i64 a2] [] (AV.b q0) [] := by
  refine Ev.start Tryd.func87 rfl rfl 0 (τ := [(0, AV.i64 a0), (1, AV.i64 a1), (2, AV.i64 a2)]) rfl (Γ' := []) rfl (n := 31) rfl (g := 0) rfl (fun _ => rfl) ?_
  unfold i_inRange at h
  refine RunC.seq ?_
  refine RunC.regionW ?_
  refine ROps.l (r := AV.b false) rfl rfl rfl (LOp.assign rfl rfl) ?_
  refine ROps.nil ?_
  refine RunC.seq ?_
  rcases bsel_some h with ⟨hc1, h⟩ | ⟨hc1, h⟩
  · refine RunC.regionW ?_
    refine ROps.l (r := AV.i64 a1) rfl rfl rfl (LOp.move rfl rfl) ?_
    refine ROps.l (r := AV.i64 a0) rfl rfl rfl (LOp.move rfl rfl) ?_
    refine ROps.l (r := AV.b true) rfl rfl rfl (LOp.eqb (LOp.leq rfl rfl rfl) hc1) ?_
    refine ROps.l (r := AV.b true) rfl rfl rfl (LOp.move rfl rfl) ?_
    refine ROps.l (r := AV.i64 a0) rfl rfl rfl (LOp.move rfl rfl) ?_
    refine ROps.l (r := AV.i64 a2) rfl rfl rfl (LOp.move rfl rfl) ?_
    refine ROps.l (r := AV.b (decide (a0 ≤ a2))) rfl rfl rfl (LOp.leq rfl rfl rfl) ?_
    refine ROps.l (r := AV.b (decide (a0 ≤ a2))) rfl rfl rfl (LOp.pick_true rfl rfl rfl) ?_
    refine ROps.l (r := AV.b (decide (a0 ≤ a2))) rfl rfl rfl (LOp.assign rfl rfl) ?_
    refine ROps.nil ?_
    refine RunC.ret ?_
    have hq := Option.some.inj h
    subst q0
    exact bodyQ.pure (.inr rfl) rfl (Res.one rfl (RV.tmp rfl))
  · refine RunC.regionW ?_
    refine ROps.l (r := AV.i64 a1) rfl rfl rfl (LOp.move rfl rfl) ?_
    refine ROps.l (r := AV.i64 a0) rfl rfl rfl (LOp.move rfl rfl) ?_
    refine ROps.l (r := AV.b false) rfl rfl rfl (LOp.eqb (LOp.leq rfl rfl rfl) hc1) ?_
    refine ROps.l (r := AV.b false) rfl rfl rfl (LOp.move rfl rfl) ?_
    refine ROps.s rfl rfl rfl ?_
    refine ROps.s rfl rfl rfl ?_
    refine ROps.s rfl rfl rfl ?_
    refine ROps.l (r := AV.b false) rfl rfl rfl (LOp.pick_false rfl rfl rfl) ?_
    refine ROps.l (r := AV.b false) rfl rfl rfl (LOp.assign rfl rfl) ?_
    refine ROps.nil ?_
    refine RunC.ret ?_
    have hq := Option.some.inj h
    subst q0
    exact bodyQ.pure (.inr rfl) rfl (Res.one rfl (RV.tmp rfl))
noncomputable def i_isSide (a0 : Int) : Option (Bool) :=
  obind (i_inRange a0 1 12) fun (r1 : Bool) =>
  some r1
theorem i_isSide_ok (a0 : Int) (q0 : Bool) (h : i_isSide a0 = some q0) : Ev Tryd.prog 80 [AV.i64 a0] [] (AV.b q0) [] := by
  refine Ev.start Tryd.func80 rfl rfl 0 (τ := [(0, AV.i64 a0)]) rfl (Γ' := []) rfl (n := 11) rfl (g := 0) rfl (fun _ => rfl) ?_
  unfold i_isSide at h
  refine RunC.seq ?_
  refine RunC.regionW ?_
  refine ROps.l (r := AV.b false) rfl rfl rfl (LOp.assign rfl rfl) ?_
  refine ROps.nil ?_
  refine RunC.seq ?_
  obtain ⟨r1, hf1, h⟩ := obind_some h
  refine RunC.regionW ?_
  refine ROps.l (r := AV.i64 a0) rfl rfl rfl (LOp.move rfl rfl) ?_
  refine ROps.d (r := AV.b r1) (fs := []) (Γ' := []) rfl rfl rfl (TOp.callB (CallAs.func ent87 rfl rfl) (Bors.cons (Bor.pure rfl) (Bors.cons (Bor.pure rfl) (Bors.cons (Bor.pure rfl) Bors.nil))) rfl rfl (i_inRange_ok a0 1 12 r1 hf1)) rfl ?_
  refine ROps.l (r := AV.b r1) rfl rfl rfl (LOp.assign rfl rfl) ?_
  refine ROps.nil ?_
  refine RunC.ret ?_
  have hq := Option.some.inj h
  subst q0
  exact bodyQ.pure (.inr rfl) rfl (Res.one rfl (RV.tmp rfl))
noncomputable def i_length_float32 (a0 : List F) : Option (Int) :=
  some (a0.length : Int)
theorem i_length_float32_ok (a0 : List F) (q0 : Int) (h : i_length_float32 a0 = some q0) : Ev Tryd.prog 81 [AV.sl a0.length (a0.map AV.f32)] [] (AV.i64 q0) [] := by
  refine Ev.start Tryd.func81 rfl rfl 0 (τ := [(0, AV.sl a0.length (a0.map AV.f32))]) rfl (Γ' := []) rfl (n := 11) rfl (g := 0) rfl (fun _ => rfl) ?_
  unfold i_length_float32 at h
  refine RunC.seq ?_
  refine RunC.regionW ?_
  refine ROps.l (r := AV.i64 0) rfl rfl rfl (LOp.assign rfl rfl) ?_
  refine ROps.nil ?_
  refine RunC.seq ?_
  refine RunC.regionW ?_
  refine ROps.l (r := AV.sl a0.length (a0.map AV.f32)) rfl rfl rfl (LOp.move rfl rfl) ?_
  refine ROps.l (r := AV.i64 (a0.length : Int)) rfl rfl rfl (LOp.len_sl und43 rfl rfl) ?_
  refine ROps.l (r := AV.i64 (a0.length : Int)) rfl rfl rfl (LOp.assign rfl rfl) ?_
  refine ROps.nil ?_
  refine RunC.ret ?_
  have hq := Option.some.inj h
  subst q0
  exact bodyQ.pure (.inr rfl) rfl (Res.one rfl (RV.tmp rfl))
noncomputable def x_math_IsNaN (a0 : F) : Option (Bool) :=
  some (!feq .f64 a0 a0)
theorem x_math_IsNaN_ok (a0 : F) (q0 : Bool) (h : x_math_IsNaN a0 = some q0) : Ev Tryd.prog 132 [AV.f64 a0] [] (AV.b q0) [] := by
  refine Ev.start Tryd.func132 rfl rfl 0 (τ := [(0, AV.f64 a0)]) rfl (Γ' := []) rfl (n := 13) rfl (g := 0) rfl (fun _ => rfl) ?_
  unfold x_math_IsNaN at h
  refine RunC.seq ?_
  refine RunC.regionW ?_
  refine ROps.l (r := AV.b false) rfl rfl rfl (LOp.assign rfl rfl) ?_
  refine ROps.nil ?_
  refine RunC.seq ?_
  refine RunC.regionW ?_
  refine ROps.l (r := AV.f64 a0) rfl rfl rfl (LOp.move rfl rfl) ?_
  refine ROps.l (r := AV.f64 a0) rfl rfl rfl (LOp.move rfl rfl) ?_
  refine ROps.l (r := AV.b (!feq .f64 a0 a0)) rfl rfl rfl (LOp.fne rfl (OpF.tmp rfl) (OpF.tmp rfl)) ?_
  refine ROps.l (r := AV.b (!feq .f64 a0 a0)) rfl rfl rfl (LOp.assign rfl rfl) ?_
  refine ROps.nil ?_
  refine RunC.ret ?_
  have hq := Option.some.inj h
  subst q0
  exact bodyQ.pure (.inr rfl) rfl (Res.one rfl (RV.tmp rfl))
noncomputable def x_math_Abs (a0 : F) : Option (F) :=
  olet (fabs a0) fun (x1 : F) =>
  some x1
theorem x_math_Abs_ok (a0 : F) (q0 : F) (h : x_math_Abs a0 = some q0) : Ev Tryd.prog 141 [AV.f64 a0] [] (AV.f64 q0) [] := by
  refine Ev.start Tryd.func141 rfl rfl 0 (τ := [(0, AV.f64 a0)]) rfl (Γ' := []) rfl (n := 15) rfl (g := 0) rfl (fun _ => rfl) ?_
  unfold x_math_Abs at h
  refine RunC.seq ?_
  refine RunC.regionW ?_
  refine ROps.l (r := AV.f64 (some 0)) rfl rfl rfl (LOp.le (LOp.assign rfl rfl) (ALe.fl (by kernel_rfl) (by kernel_rfl))) ?_
  refine ROps.nil ?_
  refine RunC.seq ?_
  obtain ⟨x1, hx1, h⟩ := olet_some h
  refine RunC.regionW ?_
  refine ROps.l (r := AV.f64 a0) rfl rfl rfl (LOp.move rfl rfl) ?_
  refine ROps.l (r := AV.bt .f64 .u64 a0) rfl rfl rfl (LOp.fbits ext143 rfl (OpF.tmp rfl)) ?_
  refine ROps.l (r := AV.bt .f64 .u64 x1) rfl rfl rfl (LOp.eqr (LOp.andNot_bt rfl rfl rfl) (congrArg (AV.bt .f64 .u64) hx1)) ?_
  refine ROps.l (r := AV.f64 x1) rfl rfl rfl (LOp.ffrom ext142 rfl rfl) ?_
  refine ROps.l (r := AV.f64 x1) rfl rfl rfl (LOp.assign rfl rfl) ?_
  refine ROps.nil ?_
  refine RunC.ret ?_
  have hq := Option.some.inj h
  subst q0
  exact bodyQ.pure (.inr rfl) rfl (Res.one rfl (RV.tmp rfl))
noncomputable def x_math_IsInf_k1 (y3 : F) : Option (Bool) :=
  some (flt .f64 (some 9218868437227405311) y3)
noncomputable def x_math_IsInf (a0 : F) (a1 : Int) : Option (Bool) :=
  bsel (decide (a1 = 0)) (
    obind (x_math_Abs a0) fun (r1 : F) =>
    x_math_IsInf_k1 r1) (
    bsel (decide (a1 < 0)) (
      olet (fneg .f64 a0) fun (x2 : F) =>
      x_math_IsInf_k1 x2) (
      x_math_IsInf_k1 a0))
theorem x_math_IsInf_ok (a0 : F) (a1 : Int) (q0 : Bool) (h : x_math_IsInf a0 a1 = some q0) : Ev Tryd.prog 133 [AV.f64 a0, AV.i64 a1] [] (AV.b q0) [] := by
  refine Ev.start Tryd.func133 rfl rfl 0 (τ := [(0, AV.f64 a0), (1, AV.i64 a1)]) rfl (Γ' := []) rfl (n := 31) rfl (g := 0) rfl (fun _ => rfl) ?_
  unfold x_math_IsInf at h
  refine RunC.seq ?_
  refine RunC.regionW ?_
  refine ROps.l (r := AV.b false) rfl rfl rfl (LOp.assign rfl rfl) ?_
  refine ROps.nil ?_
  refine RunC.seq ?_
  refine RunC.cutN (fun τ Γ => ∃ (y3 : F), WeakLe τ [(0, AV.f64 y3)] ∧ DeadLe Γ [] ∧ x_math_IsInf_k1 y3 = some q0) ?_ ?_
  · refine RunC.seq ?_
    rcases bsel_some h with ⟨hc1, h⟩ | ⟨hc1, h⟩
    · refine RunC.regionW ?_
      refine ROps.l (r := AV.i64 a1) rfl rfl rfl (LOp.move rfl rfl) ?_
      refine ROps.l (r := AV.b true) rfl rfl rfl (LOp.eqb (LOp.eql rfl rfl rfl) hc1) ?_
      refine ROps.nil ?_
      refine RunC.cond_true rfl rfl ?_
      obtain ⟨r1, hf2, h⟩ := obind_some h
      refine RunC.regionW ?_
      refine ROps.l (r := AV.f64 a0) rfl rfl rfl (LOp.move rfl rfl) ?_
      refine ROps.d (r := AV.f64 r1) (fs := []) (Γ' := []) rfl rfl rfl (TOp.callB (CallAs.func ent141 rfl rfl) (Bors.cons (Bor.pure rfl) Bors.nil) rfl rfl (x_math_Abs_ok a0 r1 hf2)) rfl ?_
      refine ROps.l (r := AV.f64 r1) rfl rfl rfl (LOp.assign rfl rfl) ?_
      refine ROps.nil ?_
      exact ⟨r1, ⟨(ALe.refl _), trivial⟩, trivial, h⟩
    · refine RunC.regionW ?_
      refine ROps.l (r := AV.i64 a1) rfl rfl rfl (LOp.move rfl rfl) ?_
      refine ROps.l (r := AV.b false) rfl rfl rfl (LOp.eqb (LOp.eql rfl rfl rfl) hc1) ?_
      refine ROps.nil ?_
      refine RunC.cond_false rfl rfl ?_
      refine RunC.seq ?_
      rcases bsel_some h with ⟨hc3, h⟩ | ⟨hc3, h⟩
      · refine RunC.regionW ?_
        refine ROps.l (r := AV.i64 a1) rfl rfl rfl (LOp.move rfl rfl) ?_
        refine ROps.l (r := AV.b true) rfl rfl rfl (LOp.eqb (LOp.lss rfl rfl rfl) hc3) ?_
        refine ROps.nil ?_
        refine RunC.cond_true rfl rfl ?_
        obtain ⟨x2, hx4, h⟩ := olet_some h
        refine RunC.regionW ?_
        refine ROps.l (r := AV.f64 a0) rfl rfl rfl (LOp.move rfl rfl) ?_
        refine ROps.l (r := AV.f64 x2) rfl rfl rfl (LOp.eqr (LOp.fneg rfl (OpF.tmp rfl)) (congrArg (AV.f .f64) hx4)) ?_
        refine ROps.l (r := AV.f64 x2) rfl rfl rfl (LOp.assign rfl rfl) ?_
        refine ROps.nil ?_
        exact ⟨x2, ⟨(ALe.refl _), trivial⟩, trivial, h⟩
      · refine RunC.regionW ?_
        refine ROps.l (r := AV.i64 a1) rfl rfl rfl (LOp.move rfl rfl) ?_
        refine ROps.l (r := AV.b false) rfl rfl rfl (LOp.eqb (LOp.lss rfl rfl rfl) hc3) ?_
        refine ROps.nil ?_
        refine RunC.cond_false rfl rfl ?_
        refine RunC.skip ?_
        exact ⟨a0, ⟨(ALe.refl _), trivial⟩, trivial, h⟩
  · rintro τ2 Γ2 ⟨y3, hw2, hd2, h⟩
    refine RunC.wl (τ' := [(0, AV.f64 y3)]) (Γ' := []) hw2 hd2 ?_
    unfold x_math_IsInf_k1 at h
    refine RunC.seq ?_
    refine RunC.regionW ?_
    refine ROps.l (r := AV.f64 y3) rfl rfl rfl (LOp.move rfl rfl) ?_
    refine ROps.l (r := AV.b (flt .f64 (some 9218868437227405311) y3)) rfl rfl rfl (LOp.fgt rfl (OpF.tmp rfl) (OpF.const rfl (by kernel_rfl) (by kernel_rfl))) ?_
    refine ROps.l (r := AV.b (flt .f64 (some 9218868437227405311) y3)) rfl rfl rfl (LOp.assign rfl rfl) ?_
    refine ROps.nil ?_
    refine RunC.ret ?_
    have hq := Option.some.inj h
    subst q0
    exact bodyQ.pure (.inr rfl) rfl (Res.one rfl (RV.tmp rfl))
noncomputable def i_isFinite64 (a0 : F) : Option (Bool) :=
  obind (x_math_IsNaN a0) fun (r1 : Bool) =>
  bsel r1 (
    some false) (
    obind (x_math_IsInf a0 0) fun (r2 : Bool) =>
    some (!r2))
theorem i_isFinite64_ok (a0 : F) (q0 : Bool) (h : i_isFinite64 a0 = some q0) : Ev Tryd.prog 116 [AV.f64 a0] [] (AV.b q0) [] := by
  refine Ev.start Tryd.func116 rfl rfl 0 (τ := [(0, AV.f64 a0)]) rfl (Γ' := []) rfl (n := 23) rfl (g := 0) rfl (fun _ => rfl) ?_
  unfold i_isFinite64 at h
  refine RunC.seq ?_
  refine RunC.regionW ?_
  refine ROps.l (r := AV.b false) rfl rfl rfl (LOp.assign rfl rfl) ?_
  refine ROps.nil ?_
  refine RunC.seq ?_
  obtain ⟨r1, hf1, h⟩ := obind_some h
  rcases bsel_some h with ⟨hc2, h⟩ | ⟨hc2, h⟩
  · refine RunC.regionW ?_
    refine ROps.l (r := AV.f64 a0) rfl rfl rfl (LOp.move rfl rfl) ?_
    refine ROps.d (r := AV.b true) (fs := []) (Γ' := []) rfl rfl rfl (TOp.eqb (TOp.callB (CallAs.func ent132 rfl rfl) (Bors.cons (Bor.pure rfl) Bors.nil) rfl rfl (x_math_IsNaN_ok a0 r1 hf1)) hc2) rfl ?_
    refine ROps.l (r := AV.b false) rfl rfl rfl (LOp.eqb (LOp.not rfl rfl) rfl) ?_
    refine ROps.l (r := AV.b false) rfl rfl rfl (LOp.move rfl rfl) ?_
    refine ROps.s rfl rfl rfl ?_
    refine ROps.s rfl rfl rfl ?_
    refine ROps.s rfl rfl rfl ?_
    refine ROps.l (r := AV.b false) rfl rfl rfl (LOp.pick_false rfl rfl rfl) ?_
    refine ROps.l (r := AV.b false) rfl rfl rfl (LOp.assign rfl rfl) ?_
    refine ROps.nil ?_
    refine RunC.ret ?_
    have hq := Option.some.inj h
    subst q0
    exact bodyQ.pure (.inr rfl) rfl (Res.one rfl (RV.tmp rfl))
  · obtain ⟨r2, hf3, h⟩ := obind_some h
    refine RunC.regionW ?_
    refine ROps.l (r := AV.f64 a0) rfl rfl rfl (LOp.move rfl rfl) ?_
    refine ROps.d (r := AV.b false) (fs := []) (Γ' := []) rfl rfl rfl (TOp.eqb (TOp.callB (CallAs.func ent132 rfl rfl) (Bors.cons (Bor.pure rfl) Bors.nil) rfl rfl (x_math_IsNaN_ok a0 r1 hf1)) hc2) rfl ?_
    refine ROps.l (r := AV.b true) rfl rfl rfl (LOp.eqb (LOp.not rfl rfl) rfl) ?_
    refine ROps.l (r := AV.b true) rfl rfl rfl (LOp.move rfl rfl) ?_
    refine ROps.l (r := AV.f64 a0) rfl rfl rfl (LOp.move rfl rfl) ?_
    refine ROps.d (r := AV.b r2) (fs := []) (Γ' := []) rfl rfl rfl (TOp.callB (CallAs.func ent133 rfl rfl) (Bors.cons (Bor.pure rfl) (Bors.cons (Bor.pure rfl) Bors.nil)) rfl rfl (x_math_IsInf_ok a0 0 r2 hf3)) rfl ?_
    refine ROps.l (r := AV.b (!r2)) rfl rfl rfl (LOp.not rfl rfl) ?_
    refine ROps.l (r := AV.b (!r2)) rfl rfl rfl (LOp.pick_true rfl rfl rfl) ?_
    refine ROps.l (r := AV.b (!r2)) rfl rfl rfl (LOp.assign rfl rfl) ?_
    refine ROps.nil ?_
    refine RunC.ret ?_
    have hq := Option.some.inj h
    subst q0
    exact bodyQ.pure (.inr rfl) rfl (Res.one rfl (RV.tmp rfl))
noncomputable def i_IsFinite (a0 : F) : Option (Bool) :=
  olet (fwiden a0) fun (x1 : F) =>
  obind (i_isFinite64 x1) fun (r2 : Bool) =>
  some r2
theorem i_IsFinite_ok (a0 : F) (q0 : Bool) (h : i_IsFinite a0 = some q0) : Ev Tryd.prog 98 [AV.f32 a0] [] (AV.b q0) [] := by
  refine Ev.start Tryd.func98 rfl rfl 0 (τ := [(0, AV.f32 a0)]) rfl (Γ' := []) rfl (n := 13) rfl (g := 0) rfl (fun _ => rfl) ?_
  unfold i_IsFinite at h
  refine RunC.seq ?_
  refine RunC.regionW ?_
  refine ROps.l (r := AV.b false) rfl rfl rfl (LOp.assign rfl rfl) ?_
  refine ROps.nil ?_
  refine RunC.seq ?_
  obtain ⟨x1, hx1, h⟩ := olet_some h
  obtain ⟨r2, hf2, h⟩ := obind_some h
  refine RunC.regionW ?_
  refine ROps.l (r := AV.f32 a0) rfl rfl rfl (LOp.move rfl rfl) ?_
  refine ROps.d (r := AV.f64 x1) (fs := []) (Γ' := []) rfl rfl rfl (TOp.eqr (TOp.widen (src := 115) (dst := 121) ⟨_, pun115⟩ pun121 rfl (OpF.tmp rfl)) (congrArg (AV.f .f64) hx1)) rfl ?_
  refine ROps.d (r := AV.b r2) (fs := []) (Γ' := []) rfl rfl rfl (TOp.callB (CallAs.func ent116 rfl rfl) (Bors.cons (Bor.pure rfl) Bors.nil) rfl rfl (i_isFinite64_ok x1 r2 hf2)) rfl ?_
  refine ROps.l (r := AV.b r2) rfl rfl rfl (LOp.assign rfl rfl) ?_
  refine ROps.nil ?_
  refine RunC.ret ?_
  have hq := Option.some.inj h
  subst q0
  exact bodyQ.pure (.inr rfl) rfl (Res.one rfl (RV.tmp rfl))
noncomputable def i_areFinite_1 (a0 : F) : Option (Bool) :=
  obind (i_IsFinite a0) fun (r1 : Bool) =>
  some (!r1)
theorem i_areFinite_1_ok (a0 : F) (q0 : Bool) (h : i_areFinite_1 a0 = some q0) : Ev Tryd.prog 97 [AV.f32 a0] [] (AV.b q0) [] := by
  refine Ev.start Tryd.func97 rfl rfl 0 (τ := [(0, AV.f32 a0)]) rfl (Γ' := []) rfl (n := 13) rfl (g := 0) rfl (fun _ => rfl) ?_
  unfold i_areFinite_1 at h
  refine RunC.seq ?_
  refine RunC.regionW ?_
  refine ROps.l (r := AV.b false) rfl rfl rfl (LOp.assign rfl rfl) ?_
  refine ROps.nil ?_
  refine RunC.seq ?_
  obtain ⟨r1, hf1, h⟩ := obind_some h
  refine RunC.regionW ?_
  refine ROps.l (r := AV.f32 a0) rfl rfl rfl (LOp.move rfl rfl) ?_
  refine ROps.d (r := AV.b r1) (fs := []) (Γ' := []) rfl rfl rfl (TOp.callB (CallAs.func ent98 rfl rfl) (Bors.cons (Bor.pure rfl) Bors.nil) rfl rfl (i_IsFinite_ok a0 r1 hf1)) rfl ?_
  refine ROps.l (r := AV.b (!r1)) rfl rfl rfl (LOp.not rfl rfl) ?_
  refine ROps.l (r := AV.b (!r1)) rfl rfl rfl (LOp.assign rfl rfl) ?_
  refine ROps.nil ?_
  refine RunC.ret ?_
  have hq := Option.some.inj h
  subst q0
  exact bodyQ.pure (.inr rfl) rfl (Res.one rfl (RV.tmp rfl))
noncomputable def x_slices_IndexFunc_float32_float32_1Fi_areFinite_1_b1 (a0 : List F) (v1 : Int) : Option (LR (Int) (Unit) (Int)) :=
  bsel (decide (v1 < (a0.length : Int))) (
    obind (at? a0 v1) fun (e2 : F) =>
    obind (i_areFinite_1 e2) fun (r3 : Bool) =>
    bsel r3 (
      some (LR.ret v1)) (
      olet (IntKind.i64.wrap (v1 + 1)) fun (x4 : Int) =>
      some (LR.next x4))) (
    some (LR.out ()))
noncomputable def x_slices_IndexFunc_float32_float32_1Fi_areFinite_1_s1 (a0 : List F) : (Int) → Option (LR (Int) (Unit) (Int)) := fun s => x_slices_IndexFunc_float32_float32_1Fi_areFinite_1_b1 a0 s
noncomputable def x_slices_IndexFunc_float32_float32_1Fi_areFinite_1_k1  : Option (Int) :=
  some (-1)
noncomputable def x_slices_IndexFunc_float32_float32_1Fi_areFinite_1 (a0 : List F) : Option (Int) :=
  obind (loopM (x_slices_IndexFunc_float32_float32_1Fi_areFinite_1_s1 a0) 0) fun z => osum z (fun _ => x_slices_IndexFunc_float32_float32_1Fi_areFinite_1_k1) (fun r => some r)
theorem x_slices_IndexFunc_float32_float32_1Fi_areFinite_1_ok (a0 : List F) (q0 : Int) (h : x_slices_IndexFunc_float32_float32_1Fi_areFinite_1 a0 = some q0) : Ev Tryd.prog 115 [AV.sl a0.length (a0.map AV.f32), AV.fn (.func 97) [] []] [] (AV.i64 q0) [] := by
  refine Ev.start Tryd.func115 rfl rfl 0 (τ := [(0, AV.sl a0.length (a0.map AV.f32)), (1, AV.fn (.func 97) [] [])]) rfl (Γ' := []) rfl (n := 39) rfl (g := 0) rfl (fun _ => rfl) ?_
  unfold x_slices_IndexFunc_float32_float32_1Fi_areFinite_1 at h
  refine RunC.seq ?_
  refine RunC.regionW ?_
  refine ROps.l (r := AV.i64 0) rfl rfl rfl (LOp.assign rfl rfl) ?_
  refine ROps.nil ?_
  refine RunC.seq ?_
  refine RunC.seq ?_
  refine RunC.regionW ?_
  refine ROps.l (r := AV.sl a0.length (a0.map AV.f32)) rfl rfl rfl (LOp.move rfl rfl) ?_
  refine ROps.l (r := AV.i64 (a0.length : Int)) rfl rfl rfl (LOp.len_sl und43 rfl rfl) ?_
  refine ROps.l (r := AV.i64 0) rfl rfl rfl (LOp.move rfl rfl) ?_
  refine ROps.nil ?_
  obtain ⟨z2, hz_2, h⟩ := obind_some h
  refine RunC.cutN (fun τ Γ => WeakLe τ [] ∧ DeadLe Γ [] ∧ z2 = .inl ()) ?_ ?_
  · refine RunC.block (RunC.loop (RunL.loopM (x := z2) (x_slices_IndexFunc_float32_float32_1Fi_areFinite_1_s1 a0) (fun (s : Int) τ Γ => WeakLe τ [(0, AV.sl a0.length (a0.map AV.f32)), (1, AV.fn (.func 97) [] []), (7, AV.i64 (a0.length : Int)), (8, AV.i64 s)] ∧ DeadLe Γ []) ?_ _ _ _ hz_2 ⟨⟨(ALe.refl _), (ALe.refl _), (ALe.refl _), (ALe.refl _), trivial⟩, trivial⟩))
    rintro v1 τ2 Γ2 y2_ ⟨hw2, hd2⟩ h2_ ho2 hr2
    refine RunC.wl (τ' := [(0, AV.sl a0.length (a0.map AV.f32)), (1, AV.fn (.func 97) [] []), (7, AV.i64 (a0.length : Int)), (8, AV.i64 v1)]) (Γ' := []) hw2 hd2 ?_
    replace h2_ : x_slices_IndexFunc_float32_float32_1Fi_areFinite_1_b1 a0 v1 = some y2_ := h2_
    unfold x_slices_IndexFunc_float32_float32_1Fi_areFinite_1_b1 at h2_
    refine RunC.seq ?_
    rcases bsel_some h2_ with ⟨hc1, h2_⟩ | ⟨hc1, h2_⟩
    · refine RunC.regionW ?_
      refine ROps.l (r := AV.b true) rfl rfl rfl (LOp.eqb (LOp.lss rfl rfl rfl) hc1) ?_
      refine ROps.nil ?_
      refine RunC.seq ?_
      refine RunC.cond_true rfl rfl ?_
      refine RunC.skip ?_
      refine RunC.seq ?_
      refine RunC.block ?_
      refine RunC.seq ?_
      refine RunC.regionW ?_
      refine ROps.l (r := AV.i64 v1) rfl rfl rfl (LOp.move rfl rfl) ?_
      refine ROps.l (r := AV.i64 v1) rfl rfl rfl (LOp.assign rfl rfl) ?_
      refine ROps.nil ?_
      refine RunC.seq ?_
      obtain ⟨e2, he2, h2_⟩ := obind_some h2_
      obtain ⟨r3, hf3, h2_⟩ := obind_some h2_
      rcases bsel_some h2_ with ⟨hc4, h2_⟩ | ⟨hc4, h2_⟩
      · refine RunC.regionW ?_
        refine ROps.l (r := AV.fn (.func 97) [] []) rfl rfl rfl (LOp.move rfl rfl) ?_
        refine ROps.l (r := AV.sl a0.length (a0.map AV.f32)) rfl rfl rfl (LOp.move rfl rfl) ?_
        refine ROps.l (r := AV.i64 v1) rfl rfl rfl (LOp.move rfl rfl) ?_
        refine ROps.l (r := AV.ptr [AV.f32 e2]) rfl rfl rfl (LOp.le (LOp.ix (f := AV.f32) und43 siz115 rfl rfl rfl rfl he2) ALe.ptr) ?_
        refine ROps.l (r := AV.f32 e2) rfl rfl rfl (LOp.load1 agg115 rfl rfl) ?_
        refine ROps.d (r := AV.b true) (fs := []) (Γ' := []) rfl rfl rfl (TOp.eqb (TOp.callB (CallAs.fn ent97 rfl rfl rfl rfl) (Bors.cons (Bor.pure rfl) Bors.nil) rfl rfl (i_areFinite_1_ok e2 r3 hf3)) hc4) rfl ?_
        refine ROps.nil ?_
        refine RunC.cond_true rfl rfl ?_
        refine RunC.seq ?_
        refine RunC.regionW ?_
        refine ROps.l (r := AV.i64 v1) rfl rfl rfl (LOp.move rfl rfl) ?_
        refine ROps.l (r := AV.i64 v1) rfl rfl rfl (LOp.assign rfl rfl) ?_
        refine ROps.nil ?_
        refine RunC.ret ?_
        cases Option.some.inj h2_
        have hx3_ := hr2 _ rfl
        subst hx3_
        have hq := Option.some.inj h
        subst q0
        exact bodyQ.pure (.inr rfl) rfl (Res.one rfl (RV.tmp rfl))
      · refine RunC.regionW ?_
        refine ROps.l (r := AV.fn (.func 97) [] []) rfl rfl rfl (LOp.move rfl rfl) ?_
        refine ROps.l (r := AV.sl a0.length (a0.map AV.f32)) rfl rfl rfl (LOp.move rfl rfl) ?_
        refine ROps.l (r := AV.i64 v1) rfl rfl rfl (LOp.move rfl rfl) ?_
        refine ROps.l (r := AV.ptr [AV.f32 e2]) rfl rfl rfl (LOp.le (LOp.ix (f := AV.f32) und43 siz115 rfl rfl rfl rfl he2) ALe.ptr) ?_
        refine ROps.l (r := AV.f32 e2) rfl rfl rfl (LOp.load1 agg115 rfl rfl) ?_
        refine ROps.d (r := AV.b false) (fs := []) (Γ' := []) rfl rfl rfl (TOp.eqb (TOp.callB (CallAs.fn ent97 rfl rfl rfl rfl) (Bors.cons (Bor.pure rfl) Bors.nil) rfl rfl (i_areFinite_1_ok e2 r3 hf3)) hc4) rfl ?_
        refine ROps.nil ?_
        refine RunC.cond_false rfl rfl ?_
        refine RunC.skip ?_
        obtain ⟨x4, hx5, h2_⟩ := olet_some h2_
        refine RunC.regionW ?_
        refine ROps.l (r := AV.i64 x4) rfl rfl rfl (LOp.eqr (LOp.add rfl rfl rfl) (congrArg (AV.ik .i64) hx5)) ?_
        refine ROps.l (r := AV.i64 x4) rfl rfl rfl (LOp.move rfl rfl) ?_
        refine ROps.nil ?_
        cases Option.some.inj h2_
        exact ⟨_, rfl, ⟨(ALe.refl _), (ALe.refl _), (ALe.refl _), (ALe.refl _), trivial⟩, trivial⟩
    · refine RunC.regionW ?_
      refine ROps.l (r := AV.b false) rfl rfl rfl (LOp.eqb (LOp.lss rfl rfl rfl) hc1) ?_
      refine ROps.nil ?_
      refine RunC.seq ?_
      refine RunC.cond_false rfl rfl ?_
      refine RunC.exit ?_
      cases Option.some.inj h2_
      have hx := ho2 _ rfl
      exact ⟨trivial, trivial, hx⟩
  · rintro τ4 Γ4 ⟨hw4, hd4, rfl⟩
    refine RunC.wl (τ' := []) (Γ' := []) hw4 hd4 ?_
    replace h : x_slices_IndexFunc_float32_float32_1Fi_areFinite_1_k1 = some q0 := h
    unfold x_slices_IndexFunc_float32_float32_1Fi_areFinite_1_k1 at h
    refine RunC.seq ?_
    refine RunC.regionW ?_
    refine ROps.l (r := AV.i64 (-1)) rfl rfl rfl (LOp.assign rfl rfl) ?_
    refine ROps.nil ?_
    refine RunC.ret ?_
    have hq := Option.some.inj h
    subst q0
    exact bodyQ.pure (.inr rfl) rfl (Res.one rfl (RV.tmp rfl))
noncomputable def x_slices_ContainsFunc_float32_float32_1Fi_areFinite_1 (a0 : List F) : Option (Bool) :=
  obind (x_slices_IndexFunc_float32_float32_1Fi_areFinite_1 a0) fun (r1 : Int) =>
  some (decide (0 ≤ r1))
theorem x_slices_ContainsFunc_float32_float32_1Fi_areFinite_1_ok (a0 : List F) (q0 : Bool) (h : x_slices_ContainsFunc_float32_float32_1Fi_areFinite_1 a0 = some q0) : Ev Tryd.prog 96 [AV.sl a0.length (a0.map AV.f32), AV.fn (.func 97) [] []] [] (AV.b q0) [] := by
  refine Ev.start Tryd.func96 rfl rfl 0 (τ := [(0, AV.sl a0.length (a0.map AV.f32)), (1, AV.fn (.func 97) [] [])]) rfl (Γ' := []) rfl (n := 19) rfl (g := 0) rfl (fun _ => rfl) ?_
  unfold x_slices_ContainsFunc_float32_float32_1Fi_areFinite_1 at h
  refine RunC.seq ?_
  refine RunC.regionW ?_
  refine ROps.l (r := AV.b false) rfl rfl rfl (LOp.assign rfl rfl) ?_
  refine ROps.nil ?_
  refine RunC.seq ?_
  obtain ⟨r1, hf1, h⟩ := obind_some h
  refine RunC.regionW ?_
  refine ROps.l (r := AV.sl a0.length (a0.map AV.f32)) rfl rfl rfl (LOp.move rfl rfl) ?_
  refine ROps.l (r := AV.fn (.func 97) [] []) rfl rfl rfl (LOp.move rfl rfl) ?_
  refine ROps.d (r := AV.i64 r1) (fs := []) (Γ' := []) rfl rfl rfl (TOp.callB (CallAs.func ent115 rfl rfl) (Bors.cons (Bor.sl (fun _ => rfl)) (Bors.cons (Bor.fn Bors.nil Bors.nil) Bors.nil)) rfl rfl (x_slices_IndexFunc_float32_float32_1Fi_areFinite_1_ok a0 r1 hf1)) rfl ?_
  refine ROps.l (r := AV.b (decide (0 ≤ r1))) rfl rfl rfl (LOp.geq rfl rfl rfl) ?_
  refine ROps.l (r := AV.b (decide (0 ≤ r1))) rfl rfl rfl (LOp.assign rfl rfl) ?_
  refine ROps.nil ?_
  refine RunC.ret ?_
  have hq := Option.some.inj h
  subst q0
  exact bodyQ.pure (.inr rfl) rfl (Res.one rfl (RV.tmp rfl))
noncomputable def i_areFinite (a0 : List F) : Option (Bool) :=
  obind (x_slices_ContainsFunc_float32_float32_1Fi_areFinite_1 a0) fun (r1 : Bool) =>
  some (!r1)
theorem i_areFinite_ok (a0 : List F) (q0 : Bool) (h : i_areFinite a0 = some q0) : Ev Tryd.prog 82 [AV.sl a0.length (a0.map AV.f32)] [] (AV.b q0) [] := by
  refine Ev.start Tryd.func82 rfl rfl 0 (τ := [(0, AV.sl a0.length (a0.map AV.f32))]) rfl (Γ' := []) rfl (n := 13) rfl (g := 0) rfl (fun _ => rfl) ?_
  unfold i_areFinite at h
  refine RunC.seq ?_
  refine RunC.regionW ?_
  refine ROps.l (r := AV.b false) rfl rfl rfl (LOp.assign rfl rfl) ?_
  refine ROps.nil ?_
  refine RunC.seq ?_
  obtain ⟨r1, hf1, h⟩ := obind_some h
  refine RunC.regionW ?_
  refine ROps.l (r := AV.sl a0.length (a0.map AV.f32)) rfl rfl rfl (LOp.move rfl rfl) ?_
  refine ROps.d (r := AV.b r1) (fs := []) (Γ' := []) rfl rfl rfl (TOp.callB (CallAs.func ent96 rfl rfl) (Bors.cons (Bor.sl (fun _ => rfl)) (Bors.cons (Bor.fn Bors.nil Bors.nil) Bors.nil)) rfl rfl (x_slices_ContainsFunc_float32_float32_1Fi_areFinite_1_ok a0 r1 hf1)) rfl ?_
  refine ROps.l (r := AV.b (!r1)) rfl rfl rfl (LOp.not rfl rfl) ?_
  refine ROps.l (r := AV.b (!r1)) rfl rfl rfl (LOp.assign rfl rfl) ?_
  refine ROps.nil ?_
  refine RunC.ret ?_
  have hq := Option.some.inj h
  subst q0
  exact bodyQ.pure (.inr rfl) rfl (Res.one rfl (RV.tmp rfl))
noncomputable def i_ValidMatrix (a0 : Int) (a1 : Int) (a2 : List F) : Option (Bool) :=
  obind (i_isSide a0) fun (r1 : Bool) =>
  bsel r1 (
    obind (i_isSide a1) fun (r2 : Bool) =>
    bsel r2 (
      obind (i_length_float32 a2) fun (r3 : Int) =>
      olet (IntKind.i64.wrap (a0 * a1)) fun (x4 : Int) =>
      bsel (decide (r3 = x4)) (
        obind (i_areFinite a2) fun (r5 : Bool) =>
        some r5) (
        some false)) (
      some false)) (
    some false)
theorem i_ValidMatrix_ok (a0 : Int) (a1 : Int) (a2 : List F) (q0 : Bool) (h : i_ValidMatrix a0 a1 a2 = some q0) : Ev Tryd.prog 64 [AV.agg [AV.i64 a0, AV.i64 a1, AV.sl a2.length (a2.map AV.f32)]] [] (AV.b q0) [] := by
  refine Ev.start Tryd.func64 rfl rfl 0 (τ := [(0, AV.agg [AV.i64 a0, AV.i64 a1, AV.sl a2.length (a2.map AV.f32)])]) rfl (Γ' := []) rfl (n := 55) rfl (g := 0) rfl (fun _ => rfl) ?_
  unfold i_ValidMatrix at h
  refine RunC.seq ?_
  refine RunC.regionW ?_
  refine ROps.d (r := AV.ptr [AV.i64 a0, AV.i64 a1, AV.sl a2.length (a2.map AV.f32)]) (fs := []) (Γ' := []) rfl rfl rfl (TOp.box_s rfl rfl rfl) rfl ?_
  refine ROps.l (r := AV.b false) rfl rfl rfl (LOp.assign rfl rfl) ?_
  refine ROps.nil ?_
  refine RunC.seq ?_
  obtain ⟨r1, hf1, h⟩ := obind_some h
  rcases bsel_some h with ⟨hc2, h⟩ | ⟨hc2, h⟩
  · obtain ⟨r2, hf3, h⟩ := obind_some h
    rcases bsel_some h with ⟨hc4, h⟩ | ⟨hc4, h⟩
    · obtain ⟨r3, hf5, h⟩ := obind_some h
      obtain ⟨x4, hx6, h⟩ := olet_some h
      rcases bsel_some h with ⟨hc7, h⟩ | ⟨hc7, h⟩
      · obtain ⟨r5, hf8, h⟩ := obind_some h
        refine RunC.region_draw (Γ' := []) 25 mixed 
          (TR.l (r := AV.ptr [AV.i64 a0, AV.i64 a1, AV.sl a2.length (a2.map AV.f32)]) rfl rfl (LOp.fap und56 rfl siz2 rfl rfl rfl) <|
          (TR.l (r := AV.i64 a0) rfl rfl (LOp.load1 agg2 rfl rfl) <|
          (TR.d (r := AV.b true) (fs := []) rfl rfl (TOp.eqb (TOp.callB (CallAs.func ent80 rfl rfl) (Bors.cons (Bor.pure rfl) Bors.nil) rfl rfl (i_isSide_ok a0 r1 hf1)) hc2) <|
          (TR.l (r := AV.b true) rfl rfl (LOp.move rfl rfl) <|
          (TR.l (r := AV.ptr [AV.i64 a1, AV.sl a2.length (a2.map AV.f32)]) rfl rfl (LOp.fap und56 rfl siz2 rfl rfl rfl) <|
          (TR.l (r := AV.i64 a1) rfl rfl (LOp.load1 agg2 rfl rfl) <|
          (TR.d (r := AV.b true) (fs := []) rfl rfl (TOp.eqb (TOp.callB (CallAs.func ent80 rfl rfl) (Bors.cons (Bor.pure rfl) Bors.nil) rfl rfl (i_isSide_ok a1 r2 hf3)) hc4) <|
          (TR.l (r := AV.b true) rfl rfl (LOp.pick_true rfl rfl rfl) <|
          (TR.l (r := AV.b true) rfl rfl (LOp.move rfl rfl) <|
          (TR.l (r := AV.ptr [AV.sl a2.length (a2.map AV.f32)]) rfl rfl (LOp.fap und56 rfl siz43 rfl rfl rfl) <|
          (TR.l (r := AV.sl a2.length (a2.map AV.f32)) rfl rfl (LOp.load1 agg43 rfl rfl) <|
          (TR.d (r := AV.i64 r3) (fs := []) rfl rfl (TOp.callB (CallAs.func ent81 rfl rfl) (Bors.cons (Bor.sl (fun _ => rfl)) Bors.nil) rfl rfl (i_length_float32_ok a2 r3 hf5)) <|
          (TR.l (r := AV.ptr [AV.i64 a0, AV.i64 a1, AV.sl a2.length (a2.map AV.f32)]) rfl rfl (LOp.fap und56 rfl siz2 rfl rfl rfl) <|
          (TR.l (r := AV.i64 a0) rfl rfl (LOp.load1 agg2 rfl rfl) <|
          (TR.l (r := AV.ptr [AV.i64 a1, AV.sl a2.length (a2.map AV.f32)]) rfl rfl (LOp.fap und56 rfl siz2 rfl rfl rfl) <|
          (TR.l (r := AV.i64 a1) rfl rfl (LOp.load1 agg2 rfl rfl) <|
          (TR.l (r := AV.i64 x4) rfl rfl (LOp.eqr (LOp.mul rfl rfl rfl) (congrArg (AV.ik .i64) hx6)) <|
          (TR.l (r := AV.b true) rfl rfl (LOp.eqb (LOp.eql rfl rfl rfl) hc7) <|
          (TR.l (r := AV.b true) rfl rfl (LOp.pick_true rfl rfl rfl) <|
          (TR.l (r := AV.b true) rfl rfl (LOp.move rfl rfl) <|
          (TR.l (r := AV.ptr [AV.sl a2.length (a2.map AV.f32)]) rfl rfl (LOp.fap und56 rfl siz43 rfl rfl rfl) <|
          (TR.l (r := AV.sl a2.length (a2.map AV.f32)) rfl rfl (LOp.load1 agg43 rfl rfl) <|
          (TR.d (r := AV.b r5) (fs := []) rfl rfl (TOp.callB (CallAs.func ent82 rfl rfl) (Bors.cons (Bor.sl (fun _ => rfl)) Bors.nil) rfl rfl (i_areFinite_ok a2 r5 hf8)) <|
          (TR.l (r := AV.b r5) rfl rfl (LOp.pick_true rfl rfl rfl) <|
          (TR.l (r := AV.b r5) rfl rfl (LOp.assign rfl rfl) <|
          TR.nil))))))))))))))))))))))))) rfl (by kernel_rfl) rfl fills_nil rfl ?_
        iterate 25 refine ROps.dropS ?_
        refine ROps.drop0 ?_
        refine ROps.nil ?_
        refine RunC.ret ?_
        have hq := Option.some.inj h
        subst q0
        exact bodyQ.pure (.inr rfl) rfl (Res.one rfl (RV.tmp rfl))
      · refine RunC.region_draw (Γ' := []) 25 mixed 
          (TR.l (r := AV.ptr [AV.i64 a0, AV.i64 a1, AV.sl a2.length (a2.map AV.f32)]) rfl rfl (LOp.fap und56 rfl siz2 rfl rfl rfl) <|
          (TR.l (r := AV.i64 a0) rfl rfl (LOp.load1 agg2 rfl rfl) <|
          (TR.d (r := AV.b true) (fs := []) rfl rfl (TOp.eqb (TOp.callB (CallAs.func ent80 rfl rfl) (Bors.cons (Bor.pure rfl) Bors.nil) rfl rfl (i_isSide_ok a0 r1 hf1)) hc2) <|
          (TR.l (r := AV.b true) rfl rfl (LOp.move rfl rfl) <|
          (TR.l (r := AV.ptr [AV.i64 a1, AV.sl a2.length (a2.map AV.f32)]) rfl rfl (LOp.fap und56 rfl siz2 rfl rfl rfl) <|
          (TR.l (r := AV.i64 a1) rfl rfl (LOp.load1 agg2 rfl rfl) <|
          (TR.d (r := AV.b true) (fs := []) rfl rfl (TOp.eqb (TOp.callB (CallAs.func ent80 rfl rfl) (Bors.cons (Bor.pure rfl) Bors.nil) rfl rfl (i_isSide_ok a1 r2 hf3)) hc4) <|
          (TR.l (r := AV.b true) rfl rfl (LOp.pick_true rfl rfl rfl) <|
          (TR.l (r := AV.b true) rfl rfl (LOp.move rfl rfl) <|
          (TR.l (r := AV.ptr [AV.sl a2.length (a2.map AV.f32)]) rfl rfl (LOp.fap und56 rfl siz43 rfl rfl rfl) <|
          (TR.l (r := AV.sl a2.length (a2.map AV.f32)) rfl rfl (LOp.load1 agg43 rfl rfl) <|
          (TR.d (r := AV.i64 r3) (fs := []) rfl rfl (TOp.callB (CallAs.func ent81 rfl rfl) (Bors.cons (Bor.sl (fun _ => rfl)) Bors.nil) rfl rfl (i_length_float32_ok a2 r3 hf5)) <|
          (TR.l (r := AV.ptr [AV.i64 a0, AV.i64 a1, AV.sl a2.length (a2.map AV.f32)]) rfl rfl (LOp.fap und56 rfl siz2 rfl rfl rfl) <|
          (TR.l (r := AV.i64 a0) rfl rfl (LOp.load1 agg2 rfl rfl) <|
          (TR.l (r := AV.ptr [AV.i64 a1, AV.sl a2.length (a2.map AV.f32)]) rfl rfl (LOp.fap und56 rfl siz2 rfl rfl rfl) <|
          (TR.l (r := AV.i64 a1) rfl rfl (LOp.load1 agg2 rfl rfl) <|
          (TR.l (r := AV.i64 x4) rfl rfl (LOp.eqr (LOp.mul rfl rfl rfl) (congrArg (AV.ik .i64) hx6)) <|
          (TR.l (r := AV.b false) rfl rfl (LOp.eqb (LOp.eql rfl rfl rfl) hc7) <|
          (TR.l (r := AV.b false) rfl rfl (LOp.pick_true rfl rfl rfl) <|
          (TR.l (r := AV.b false) rfl rfl (LOp.move rfl rfl) <|
          (TR.s rfl rfl <|
          (TR.s rfl rfl <|
          (TR.s rfl rfl <|
          (TR.l (r := AV.b false) rfl rfl (LOp.pick_false rfl rfl rfl) <|
          (TR.l (r := AV.b false) rfl rfl (LOp.assign rfl rfl) <|
          TR.nil))))))))))))))))))))))))) rfl (by kernel_rfl) rfl fills_nil rfl ?_
        iterate 25 refine ROps.dropS ?_
        refine ROps.drop0 ?_
        refine ROps.nil ?_
        refine RunC.ret ?_
        have hq := Option.some.inj h
        subst q0
        exact bodyQ.pure (.inr rfl) rfl (Res.one rfl (RV.tmp rfl))
    · refine RunC.region_draw (Γ' := []) 25 mixed 
        (TR.l (r := AV.ptr [AV.i64 a0, AV.i64 a1, AV.sl a2.length (a2.map AV.f32)]) rfl rfl (LOp.fap und56 rfl siz2 rfl rfl rfl) <|
        (TR.l (r := AV.i64 a0) rfl rfl (LOp.load1 agg2 rfl rfl) <|
        (TR.d (r := AV.b true) (fs := []) rfl rfl (TOp.eqb (TOp.callB (CallAs.func ent80 rfl rfl) (Bors.cons (Bor.pure rfl) Bors.nil) rfl rfl (i_isSide_ok a0 r1 hf1)) hc2) <|
        (TR.l (r := AV.b true) rfl rfl (LOp.move rfl rfl) <|
        (TR.l (r := AV.ptr [AV.i64 a1, AV.sl a2.length (a2.map AV.f32)]) rfl rfl (LOp.fap und56 rfl siz2 rfl rfl rfl) <|
        (TR.l (r := AV.i64 a1) rfl rfl (LOp.load1 agg2 rfl rfl) <|
        (TR.d (r := AV.b false) (fs := []) rfl rfl (TOp.eqb (TOp.callB (CallAs.func ent80 rfl rfl) (Bors.cons (Bor.pure rfl) Bors.nil) rfl rfl (i_isSide_ok a1 r2 hf3)) hc4) <|
        (TR.l (r := AV.b false) rfl rfl (LOp.pick_true rfl rfl rfl) <|
        (TR.l (r := AV.b false) rfl rfl (LOp.move rfl rfl) <|
        (TR.s rfl rfl <|
        (TR.s rfl rfl <|
        (TR.s rfl rfl <|
        (TR.s rfl rfl <|
        (TR.s rfl rfl <|
        (TR.s rfl rfl <|
        (TR.s rfl rfl <|
        (TR.s rfl rfl <|
        (TR.s rfl rfl <|
        (TR.l (r := AV.b false) rfl rfl (LOp.pick_false rfl rfl rfl) <|
        (TR.l (r := AV.b false) rfl rfl (LOp.move rfl rfl) <|
        (TR.s rfl rfl <|
        (TR.s rfl rfl <|
        (TR.s rfl rfl <|
        (TR.l (r := AV.b false) rfl rfl (LOp.pick_false rfl rfl rfl) <|
        (TR.l (r := AV.b false) rfl rfl (LOp.assign rfl rfl) <|
        TR.nil))))))))))))))))))))))))) rfl (by kernel_rfl) rfl fills_nil rfl ?_
      iterate 25 refine ROps.dropS ?_
      refine ROps.drop0 ?_
      refine ROps.nil ?_
      refine RunC.ret ?_
      have hq := Option.some.inj h
      subst q0
      exact bodyQ.pure (.inr rfl) rfl (Res.one rfl (RV.tmp rfl))
  · refine RunC.region_draw (Γ' := []) 25 mixed 
      (TR.l (r := AV.ptr [AV.i64 a0, AV.i64 a1, AV.sl a2.length (a2.map AV.f32)]) rfl rfl (LOp.fap und56 rfl siz2 rfl rfl rfl) <|
      (TR.l (r := AV.i64 a0) rfl rfl (LOp.load1 agg2 rfl rfl) <|
      (TR.d (r := AV.b false) (fs := []) rfl rfl (TOp.eqb (TOp.callB (CallAs.func ent80 rfl rfl) (Bors.cons (Bor.pure rfl) Bors.nil) rfl rfl (i_isSide_ok a0 r1 hf1)) hc2) <|
      (TR.l (r := AV.b false) rfl rfl (LOp.move rfl rfl) <|
      (TR.s rfl rfl <|
      (TR.s rfl rfl <|
      (TR.s rfl rfl <|
      (TR.l (r := AV.b false) rfl rfl (LOp.pick_false rfl rfl rfl) <|
      (TR.l (r := AV.b false) rfl rfl (LOp.move rfl rfl) <|
      (TR.s rfl rfl <|
      (TR.s rfl rfl <|
      (TR.s rfl rfl <|
      (TR.s rfl rfl <|
      (TR.s rfl rfl <|
      (TR.s rfl rfl <|
      (TR.s rfl rfl <|
      (TR.s rfl rfl <|
      (TR.s rfl rfl <|
      (TR.l (r := AV.b false) rfl rfl (LOp.pick_false rfl rfl rfl) <|
      (TR.l (r := AV.b false) rfl rfl (LOp.move rfl rfl) <|
      (TR.s rfl rfl <|
      (TR.s rfl rfl <|
      (TR.s rfl rfl <|
      (TR.l (r := AV.b false) rfl rfl (LOp.pick_false rfl rfl rfl) <|
      (TR.l (r := AV.b false) rfl rfl (LOp.assign rfl rfl) <|
      TR.nil))))))))))))))))))))))))) rfl (by kernel_rfl) rfl fills_nil rfl ?_
    iterate 25 refine ROps.dropS ?_
    refine ROps.drop0 ?_
    refine ROps.nil ?_
    refine RunC.ret ?_
    have hq := Option.some.inj h
    subst q0
    exact bodyQ.pure (.inr rfl) rfl (Res.one rfl (RV.tmp rfl))
noncomputable def x_strconv_FormatInt (a0 a1 : Int) : Option ByteArray :=
  need (decide (a1 = 10)) <|
  need (decide (-9223372036854775808 ≤ a0)) <|
  need (decide (a0 ≤ 9223372036854775807)) <|
  some ⟨(Go.Lib.itoa a0).toArray⟩
def fmt_ren : Go.Shelf.Ren :=
{
  f := fun x =>
    match x with
    | 173 => 75
    | 246 => 92
    | 283 => 106
    | 284 => 107
    | 285 => 108
    | 286 => 109
    | 129 => 126
    | 317 => 125
    | 318 => 127
    | 319 => 128
    | 320 => 129
    | 337 => 139
    | 338 => 140
    | n => n,
  t := fun x =>
    match x with
    | 2 => 2
    | 3 => 3
    | 9 => 9
    | 4 => 4
    | 171 => 136
    | 0 => 0
    | 53 => 137
    | 37 => 75
    | 5 => 5
    | 173 => 140
    | 212 => 156
    | 51 => 147
    | 20 => 20
    | 213 => 157
    | 46 => 144
    | 232 => 173
    | 233 => 174
    | n => n,
  g := fun x =>
    match x with
    | 17 => 1
    | 18 => 5
    | 19 => 6
    | n => n }theorem fmt_lays : Go.Proofs.LaysM.n173 Tryd.prog fmt_ren :=
  { f129 := (Eq.trans Tryd.func126 (congrArg some (by kernel_rfl))),
    f173 := (Eq.trans Tryd.func75 (congrArg some (by kernel_rfl))),
    f246 := (Eq.trans Tryd.func92 (congrArg some (by kernel_rfl))),
    f283 := (Eq.trans Tryd.func106 (congrArg some (by kernel_rfl))),
    f284 := (Eq.trans Tryd.func107 (congrArg some (by kernel_rfl))),
    f285 := (Eq.trans Tryd.func108 (congrArg some (by kernel_rfl))),
    f286 := (Eq.trans Tryd.func109 (congrArg some (by kernel_rfl))),
    f317 := (Eq.trans Tryd.func125 (congrArg some (by kernel_rfl))),
    f318 := (Eq.trans Tryd.func127 (congrArg some (by kernel_rfl))),
    f319 := (Eq.trans Tryd.func128 (congrArg some (by kernel_rfl))),
    f320 := (Eq.trans Tryd.func129 (congrArg some (by kernel_rfl))),
    f337 := (Eq.trans Tryd.func139 (congrArg some (by kernel_rfl))),
    f338 := (Eq.trans Tryd.func140 (congrArg some (by kernel_rfl))),
    t0 := Tryd.underlying0,
    a0 := Tryd.isAgg0,
    z0 := Tryd.sizeOf0,
    v0 := Tryd.zeroValue0,
    t2 := Tryd.underlying2,
    a2 := Tryd.isAgg2,
    z2 := Tryd.sizeOf2,
    v2 := Tryd.zeroValue2,
    t3 := Tryd.underlying3,
    a3 := Tryd.isAgg3,
    z3 := Tryd.sizeOf3,
    v3 := Tryd.zeroValue3,
    t4 := Tryd.underlying4,
    a4 := Tryd.isAgg4,
    z4 := Tryd.sizeOf4,
    v4 := Tryd.zeroValue4,
    t5 := Tryd.underlying5,
    a5 := Tryd.isAgg5,
    z5 := Tryd.sizeOf5,
    v5 := Tryd.zeroValue5,
    t9 := Tryd.underlying9,
    a9 := Tryd.isAgg9,
    z9 := Tryd.sizeOf9,
    v9 := Tryd.zeroValue9,
    t20 := Tryd.underlying20,
    a20 := Tryd.isAgg20,
    z20 := Tryd.sizeOf20,
    v20 := Tryd.zeroValue20,
    t37 := Tryd.underlying75,
    a37 := Tryd.isAgg75,
    z37 := Tryd.sizeOf75,
    v37 := Tryd.zeroValue75,
    t46 := Tryd.underlying144,
    a46 := Tryd.isAgg144,
    z46 := Tryd.sizeOf144,
    v46 := Tryd.zeroValue144,
    t51 := Tryd.underlying147,
    a51 := Tryd.isAgg147,
    z51 := Tryd.sizeOf147,
    v51 := Tryd.zeroValue147,
    t53 := Tryd.underlying137,
    a53 := Tryd.isAgg137,
    z53 := Tryd.sizeOf137,
    v53 := Tryd.zeroValue137,
    t171 := Tryd.underlying136,
    a171 := Tryd.isAgg136,
    z171 := Tryd.sizeOf136,
    v171 := Tryd.zeroValue136,
    t173 := Tryd.underlying140,
    a173 := Tryd.isAgg140,
    z173 := Tryd.sizeOf140,
    v173 := Tryd.zeroValue140,
    t212 := Tryd.underlying156,
    a212 := Tryd.isAgg156,
    z212 := Tryd.sizeOf156,
    v212 := Tryd.zeroValue156,
    t213 := Tryd.underlying157,
    a213 := Tryd.isAgg157,
    z213 := Tryd.sizeOf157,
    t232 := Tryd.underlying173,
    a232 := Tryd.isAgg173,
    z232 := Tryd.sizeOf173,
    v232 := Tryd.zeroValue173,
    t233 := Tryd.underlying174,
    a233 := Tryd.isAgg174,
    z233 := Tryd.sizeOf174,
    v233 := Tryd.zeroValue174,
    mixed := (by kernel_rfl),
    g17 := (by kernel_rfl),
    g18 := (by kernel_rfl),
    g19 := (by kernel_rfl),
    i0 := (by kernel_rfl),
    i2 := (by kernel_rfl),
    i3 := (by kernel_rfl),
    i4 := (by kernel_rfl),
    i5 := (by kernel_rfl),
    i9 := (by kernel_rfl),
    i20 := (by kernel_rfl),
    i37 := (by kernel_rfl),
    i46 := (by kernel_rfl),
    i51 := (by kernel_rfl),
    i53 := (by kernel_rfl),
    i171 := (by kernel_rfl),
    i173 := (by kernel_rfl),
    i212 := (by kernel_rfl),
    i232 := (by kernel_rfl),
    i233 := (by kernel_rfl),
    m17 := (by kernel_rfl),
    m18 := (by kernel_rfl),
    m19 := (by kernel_rfl) }
theorem x_strconv_FormatInt_tab {S : Snap} {w : World} (h : SnapOK S w) : Go.Lib.TabIs Tryd.prog w "internal/strconv.uint64pow10" .u64 Go.Lib.pow10Tab := by
  obtain ⟨T, m, e⟩ := globs_at h (g := 1) (cs := (Go.Lib.pow10Tab.map fun z => Value.int .u64 z).toArray) (by unfold globs; exact List.mem_cons_self ..)
  unfold Go.Lib.TabIs World.var?
  rw [show Tryd.prog.globalNamed "internal/strconv.uint64pow10" = some 1 by kernel_rfl]
  simp only [Option.bind_some, e]
theorem x_strconv_FormatInt_ok (a0 a1 : Int) (q0 : ByteArray) (h : x_strconv_FormatInt a0 a1 = some q0) : Ev Tryd.prog 75 [AV.i64 a0, AV.i64 a1] [] (AV.str q0) [] := by
  unfold x_strconv_FormatInt at h
  obtain ⟨h1, h⟩ := need_some h
  obtain ⟨h2, h⟩ := need_some h
  obtain ⟨h3, h⟩ := need_some h
  have hq := Option.some.inj h
  subst hq
  have e1 : a1 = 10 := of_decide_eq_true h1
  subst e1
  refine Ev.ofGrow fun S w vs hs ha => ?_
  obtain ⟨vl⟩ := vs
  match vl, ha with
  | [v0, v1], ha =>
    simp only [VL, V] at ha
    obtain ⟨rfl, rfl, _⟩ := ha
    refine (Go.Proofs.Any.strconv_FormatInt_10 fmt_lays a0 (of_decide_eq_true h2) (of_decide_eq_true h3) w (x_strconv_FormatInt_tab hs)).mono ?_
    rintro e w' ⟨rfl, k, os, rfl⟩
    refine ⟨_, rfl, by simp only [V], ?_⟩
    exact ⟨by simp [Go.Sort.grow, World.drewN], fun b hb => by simp [Go.Sort.grow, World.drewN, Array.getElem?_append, hb], rfl, rfl, rfl⟩
  | [], ha => simp only [VL] at ha
  | [_], ha => simp only [VL] at ha; exact ha.2.elim
  | _ :: _ :: _ :: _, ha => simp only [VL] at ha; exact ha.2.2.elim
noncomputable def i_Decimal (a0 : Int) : Option (ByteArray) :=
  obind (x_strconv_FormatInt a0 10) fun (r1 : ByteArray) =>
  some r1
theorem i_Decimal_ok (a0 : Int) (q0 : ByteArray) (h : i_Decimal a0 = some q0) : Ev Tryd.prog 48 [AV.i64 a0] [] (AV.str q0) [] := by
  refine Ev.start Tryd.func48 rfl rfl 0 (τ := [(0, AV.i64 a0)]) rfl (Γ' := []) rfl (n := 11) rfl (g := 0) rfl (fun _ => rfl) ?_
  unfold i_Decimal at h
  refine RunC.seq ?_
  refine RunC.regionW ?_
  refine ROps.l (r := AV.str lit_99ba06bc) rfl rfl rfl (LOp.assign rfl rfl) ?_
  refine ROps.nil ?_
  refine RunC.seq ?_
  obtain ⟨r1, hf1, h⟩ := obind_some h
  refine RunC.regionW ?_
  refine ROps.l (r := AV.i64 a0) rfl rfl rfl (LOp.move rfl rfl) ?_
  refine ROps.d (r := AV.str r1) (fs := []) (Γ' := []) rfl rfl rfl (TOp.callB (CallAs.func ent75 rfl rfl) (Bors.cons (Bor.pure rfl) (Bors.cons (Bor.pure rfl) Bors.nil)) rfl rfl (x_strconv_FormatInt_ok a0 10 r1 hf1)) rfl ?_
  refine ROps.l (r := AV.str r1) rfl rfl rfl (LOp.assign rfl rfl) ?_
  refine ROps.nil ?_
  refine RunC.ret ?_
  have hq := Option.some.inj h
  subst q0
  exact bodyQ.pure (.inr rfl) rfl (Res.one rfl (RV.tmp rfl))
noncomputable def x_strings_Join (a0 : List ByteArray) (a1 : ByteArray) : Option ByteArray :=
  need (decide (0 < a0.length)) <|
  need (decide (a0.length ≤ 140737488355328)) <|
  need (decide ((Go.Lib.join (a0.map (·.data.toList)) a1.data.toList).length ≤ 140737488355328)) <|
  some ⟨(Go.Lib.join (a0.map (·.data.toList)) a1.data.toList).toArray⟩
def join_ren : Go.Shelf.Ren :=
{
  f := fun x =>
    match x with
    | 156 => 90
    | 165 => 105
    | 166 => 47
    | 169 => 51
    | 240 => 74
    | 241 => 124
    | 276 => 91
    | 277 => 138
    | n => n,
  t := fun x =>
    match x with
    | 31 => 35
    | 9 => 9
    | 3 => 3
    | 4 => 4
    | 0 => 0
    | 20 => 20
    | 72 => 77
    | 76 => 81
    | 70 => 74
    | 37 => 75
    | 75 => 80
    | 127 => 112
    | 164 => 127
    | 5 => 5
    | 80 => 86
    | n => n,
  g := fun x =>
    have n := x;
    n }
theorem join_lays : Go.Proofs.Lays.n156 Tryd.prog join_ren :=
  { f156 := (Eq.trans Tryd.func90 (congrArg some (by kernel_rfl))),
    f165 := (Eq.trans Tryd.func105 (congrArg some (by kernel_rfl))),
    f166 := (Eq.trans Tryd.func47 (congrArg some (by kernel_rfl))),
    f169 := (Eq.trans Tryd.func51 (congrArg some (by kernel_rfl))),
    f240 := (Eq.trans Tryd.func74 (congrArg some (by kernel_rfl))),
    f241 := (Eq.trans Tryd.func124 (congrArg some (by kernel_rfl))),
    f276 := (Eq.trans Tryd.func91 (congrArg some (by kernel_rfl))),
    f277 := (Eq.trans Tryd.func138 (congrArg some (by kernel_rfl))),
    t0 := Tryd.underlying0,
    a0 := Tryd.isAgg0,
    z0 := Tryd.sizeOf0,
    v0 := Tryd.zeroValue0,
    t3 := Tryd.underlying3,
    a3 := Tryd.isAgg3,
    z3 := Tryd.sizeOf3,
    v3 := Tryd.zeroValue3,
    t4 := Tryd.underlying4,
    a4 := Tryd.isAgg4,
    z4 := Tryd.sizeOf4,
    v4 := Tryd.zeroValue4,
    t9 := Tryd.underlying9,
    a9 := Tryd.isAgg9,
    z9 := Tryd.sizeOf9,
    v9 := Tryd.zeroValue9,
    t20 := Tryd.underlying20,
    a20 := Tryd.isAgg20,
    z20 := Tryd.sizeOf20,
    v20 := Tryd.zeroValue20,
    t31 := Tryd.underlying35,
    a31 := Tryd.isAgg35,
    z31 := Tryd.sizeOf35,
    v31 := Tryd.zeroValue35,
    t37 := Tryd.underlying75,
    a37 := Tryd.isAgg75,
    z37 := Tryd.sizeOf75,
    v37 := Tryd.zeroValue75,
    t70 := Tryd.underlying74,
    a70 := Tryd.isAgg74,
    z70 := Tryd.sizeOf74,
    v70 := Tryd.zeroValue74,
    t72 := Tryd.underlying77,
    a72 := Tryd.isAgg77,
    z72 := Tryd.sizeOf77,
    v72 := Tryd.zeroValue77,
    t75 := Tryd.underlying80,
    a75 := Tryd.isAgg80,
    z75 := Tryd.sizeOf80,
    v75 := Tryd.zeroValue80,
    t76 := Tryd.underlying81,
    a76 := Tryd.isAgg81,
    z76 := Tryd.sizeOf81,
    v76 := Tryd.zeroValue81,
    t127 := Tryd.underlying112,
    a127 := Tryd.isAgg112,
    z127 := Tryd.sizeOf112,
    v127 := Tryd.zeroValue112,
    t164 := Tryd.underlying127,
    a164 := Tryd.isAgg127,
    z164 := Tryd.sizeOf127,
    v164 := Tryd.zeroValue127,
    mixed := (by kernel_rfl) }
theorem join_extra : Go.Proofs.Builder.Extra Tryd.prog join_ren where
  sizeBuilder := by kernel_rfl
  liesBuilder := by kernel_rfl
  t5 := Tryd.underlying5
  a5 := Tryd.isAgg5
  z5 := Tryd.sizeOf5
  v5 := Tryd.zeroValue5
  infoByte := by kernel_rfl
  cellsByte := by kernel_rfl
  sizeByte := by kernel_rfl
  neB5 := by decide
theorem x_strings_Join_ok (a0 : List ByteArray) (a1 : ByteArray) (q0 : ByteArray) (h : x_strings_Join a0 a1 = some q0) : Ev Tryd.prog 90 [AV.sl a0.length (a0.map AV.str), AV.str a1] [] (AV.str q0) [] := by
  unfold x_strings_Join at h
  obtain ⟨h1, h⟩ := need_some h
  obtain ⟨h2, h⟩ := need_some h
  obtain ⟨h3, h⟩ := need_some h
  have h1 := of_decide_eq_true h1
  have h2 := of_decide_eq_true h2
  have h3 := of_decide_eq_true h3
  have hq := Option.some.inj h
  subst hq
  refine Ev.ofGrow fun S w vs hs ha => ?_
  obtain ⟨vl⟩ := vs
  match vl, ha with
  | [v0, v1], ha =>
    simp only [VL] at ha
    obtain ⟨ha0, ha1, _⟩ := ha
    simp only [V] at ha0 ha1
    subst ha1
    obtain ⟨a, cap, rfl, hcap, hl⟩ := ha0
    rcases hl with hl | ⟨b, off, cs, rfl, hb, hv⟩
    · have : a0 = [] := by simpa using hl
      subst this; simp at h1
    · obtain ⟨T, m, hT⟩ := hs b cs hb
      have hcell : ∀ (j : Nat) x, a0[j]? = some x → w.cell? ⟨b, off + j, none⟩ = some (.string x) := fun j x hj => by
        obtain ⟨v, e1, e2⟩ := hv.get (i := j) (a := AV.str x) (by rw [List.getElem?_map, hj]; rfl)
        simp only [V] at e2
        subst e2
        rw [List.getElem?_drop] at e1
        simp only [World.cell?, hT]
        simpa using e1
      refine (Go.Proofs.Any.strings_Join join_lays join_extra b off cap a0 a1 w hcell (Array.getElem?_eq_some_iff.1 hT).1 h2 hcap h3).mono ?_
      rintro e w' ⟨rfl, hB⟩
      exact ⟨_, rfl, by simp only [V], hB.size, fun k hk => hB.block k hk, hB.os, hB.tape, hB.output⟩
  | [], ha => simp only [VL] at ha
  | [_], ha => simp only [VL] at ha; exact ha.2.elim
  | _ :: _ :: _ :: _, ha => simp only [VL] at ha; exact ha.2.2.elim
noncomputable def i_joined (a0 : List ByteArray) : Option (ByteArray) :=
  bsel (decide ((a0.length : Int) = 0)) (
    some lit_5ac87db9) (
    obind (x_strings_Join a0 lit_be717853) fun (r1 : ByteArray) =>
    some r1)
theorem i_joined_ok (a0 : List ByteArray) (q0 : ByteArray) (h : i_joined a0 = some q0) : Ev Tryd.prog 71 [AV.sl a0.length (a0.map AV.str)] [] (AV.str q0) [] := by
  refine Ev.start Tryd.func71 rfl rfl 0 (τ := [(0, AV.sl a0.length (a0.map AV.str))]) rfl (Γ' := []) rfl (n := 17) rfl (g := 0) rfl (fun _ => rfl) ?_
  unfold i_joined at h
  refine RunC.seq ?_
  refine RunC.regionW ?_
  refine ROps.l (r := AV.str lit_99ba06bc) rfl rfl rfl (LOp.assign rfl rfl) ?_
  refine ROps.nil ?_
  refine RunC.seq ?_
  refine RunC.seq ?_
  rcases bsel_some h with ⟨hc1, h⟩ | ⟨hc1, h⟩
  · refine RunC.regionW ?_
    refine ROps.l (r := AV.sl a0.length (a0.map AV.str)) rfl rfl rfl (LOp.move rfl rfl) ?_
    refine ROps.l (r := AV.i64 (a0.length : Int)) rfl rfl rfl (LOp.len_sl und35 rfl rfl) ?_
    refine ROps.l (r := AV.b true) rfl rfl rfl (LOp.eqb (LOp.eql rfl rfl rfl) hc1) ?_
    refine ROps.nil ?_
    refine RunC.cond_true rfl rfl ?_
    refine RunC.seq ?_
    refine RunC.regionW ?_
    refine ROps.l (r := AV.str lit_5ac87db9) rfl rfl rfl (LOp.assign rfl rfl) ?_
    refine ROps.nil ?_
    refine RunC.ret ?_
    have hq := Option.some.inj h
    subst q0
    exact bodyQ.pure (.inr rfl) rfl (Res.one rfl (RV.tmp rfl))
  · refine RunC.regionW ?_
    refine ROps.l (r := AV.sl a0.length (a0.map AV.str)) rfl rfl rfl (LOp.move rfl rfl) ?_
    refine ROps.l (r := AV.i64 (a0.length : Int)) rfl rfl rfl (LOp.len_sl und35 rfl rfl) ?_
    refine ROps.l (r := AV.b false) rfl rfl rfl (LOp.eqb (LOp.eql rfl rfl rfl) hc1) ?_
    refine ROps.nil ?_
    refine RunC.cond_false rfl rfl ?_
    refine RunC.skip ?_
    refine RunC.seq ?_
    obtain ⟨r1, hf2, h⟩ := obind_some h
    refine RunC.regionW ?_
    refine ROps.l (r := AV.sl a0.length (a0.map AV.str)) rfl rfl rfl (LOp.move rfl rfl) ?_
    refine ROps.d (r := AV.str r1) (fs := []) (Γ' := []) rfl rfl rfl (TOp.callB (CallAs.func ent90 rfl rfl) (Bors.cons (Bor.sl (fun _ => rfl)) (Bors.cons (Bor.pure rfl) Bors.nil)) rfl rfl (x_strings_Join_ok a0 lit_be717853 r1 hf2)) rfl ?_
    refine ROps.l (r := AV.str r1) rfl rfl rfl (LOp.assign rfl rfl) ?_
    refine ROps.nil ?_
    refine RunC.ret ?_
    have hq := Option.some.inj h
    subst q0
    exact bodyQ.pure (.inr rfl) rfl (Res.one rfl (RV.tmp rfl))
noncomputable def i_listText_b1 (a0 : List Int) (L3 : List ByteArray) (v4 : Int) : Option (LR ((List ByteArray) × Int) ((List ByteArray)) (ByteArray)) :=
  bsel (decide (v4 < (a0.length : Int))) (
    obind (at? a0 v4) fun (e5 : Int) =>
    obind (i_Decimal e5) fun (r6 : ByteArray) =>
    need (apok 16 L3.length 1) <|
    olet (IntKind.i64.wrap (v4 + 1)) fun (x7 : Int) =>
    some (LR.next ((L3 ++ ([r6] : List ByteArray)), x7))) (
    some (LR.out L3))
noncomputable def i_listText_s1 (a0 : List Int) : ((List ByteArray) × Int) → Option (LR ((List ByteArray) × Int) ((List ByteArray)) (ByteArray)) := fun s => i_listText_b1 a0 s.1 s.2
noncomputable def i_listText_k1 (L10 : List ByteArray) : Option (ByteArray) :=
  obind (i_joined L10) fun (r11 : ByteArray) =>
  some r11
noncomputable def i_listText (a0 : List Int) : Option (ByteArray) :=
  obind (loopM (i_listText_s1 a0) (([] : List ByteArray), 0)) fun z => osum z (fun e => i_listText_k1 e) (fun r => some r)
theorem i_listText_ok (a0 : List Int) (q0 : ByteArray) (h : i_listText a0 = some q0) : Ev Tryd.prog 43 [AV.sl a0.length (a0.map AV.i64)] [] (AV.str q0) [] := by
  refine Ev.start Tryd.func43 rfl rfl 2 (τ := [(0, AV.sl a0.length (a0.map AV.i64))]) rfl (Γ' := [⟨0, none⟩, ⟨0, none⟩]) rfl (n := 43) rfl (g := 0) rfl (fun _ => rfl) ?_
  unfold i_listText at h
  refine RunC.seq ?_
  refine RunC.regionW ?_
  refine ROps.l (r := AV.str lit_99ba06bc) rfl rfl rfl (LOp.assign rfl rfl) ?_
  refine ROps.nil ?_
  refine RunC.seq ?_
  refine RunC.regionW ?_
  refine ROps.d (r := AV.oref 0 1 0 0) (fs := [(0, (([] : List ByteArray).map AV.str))]) (Γ' := [⟨1, some (([] : List ByteArray).map AV.str)⟩, ⟨0, none⟩]) rfl rfl rfl (TOp.buildSlice_o (g := ⟨0, none⟩) (za := AV.str lit_99ba06bc) (qs := []) 0 rfl und35 siz9 zer9 rfl zel9 rfl rfl trivial rfl) rfl ?_
  refine ROps.l (r := AV.oref 0 1 0 0) rfl rfl rfl (LOp.assign rfl rfl) ?_
  refine ROps.nil ?_
  refine RunC.seq ?_
  refine RunC.seq ?_
  refine RunC.regionW ?_
  refine ROps.l (r := AV.sl a0.length (a0.map AV.i64)) rfl rfl rfl (LOp.move rfl rfl) ?_
  refine ROps.l (r := AV.i64 (a0.length : Int)) rfl rfl rfl (LOp.len_sl und25 rfl rfl) ?_
  refine ROps.l (r := AV.i64 0) rfl rfl rfl (LOp.move rfl rfl) ?_
  refine ROps.nil ?_
  obtain ⟨z2, hz_2, h⟩ := obind_some h
  refine RunC.cutN (fun τ Γ => ∃ (L10 : List ByteArray) (u8 : Nat) (u9 : Nat), WeakLe τ [(3, AV.oref 0 u8 0 L10.length)] ∧ DeadLe Γ [⟨u8, some (L10.map AV.str)⟩, ⟨u9, none⟩] ∧ z2 = .inl L10) ?_ ?_
  · refine RunC.block (RunC.loop (RunL.loopM (x := z2) (i_listText_s1 a0) (fun (s : (List ByteArray) × Int) τ Γ => ∃ (u1 : Nat) (u2 : Nat), WeakLe τ [(3, AV.oref 0 u1 0 s.1.length), (7, AV.sl a0.length (a0.map AV.i64)), (8, AV.i64 (a0.length : Int)), (9, AV.i64 s.2)] ∧ DeadLe Γ [⟨u1, some (s.1.map AV.str)⟩, ⟨u2, none⟩]) ?_ _ _ _ hz_2 ⟨1, 0, ⟨(ALe.refl _), (ALe.refl _), (ALe.refl _), (ALe.refl _), trivial⟩, ⟨⟨rfl, .inr rfl⟩, ⟨rfl, .inl rfl⟩, trivial⟩⟩))
    rintro ⟨L3, v4⟩ τ2 Γ2 y2_ ⟨u1, u2, hw2, hd2⟩ h2_ ho2 hr2
    refine RunC.wl (τ' := [(3, AV.oref 0 u1 0 L3.length), (7, AV.sl a0.length (a0.map AV.i64)), (8, AV.i64 (a0.length : Int)), (9, AV.i64 v4)]) (Γ' := [⟨u1, some (L3.map AV.str)⟩, ⟨u2, none⟩]) hw2 hd2 ?_
    replace h2_ : i_listText_b1 a0 L3 v4 = some y2_ := h2_
    unfold i_listText_b1 at h2_
    refine RunC.seq ?_
    rcases bsel_some h2_ with ⟨hc1, h2_⟩ | ⟨hc1, h2_⟩
    · refine RunC.regionW ?_
      refine ROps.l (r := AV.b true) rfl rfl rfl (LOp.eqb (LOp.lss rfl rfl rfl) hc1) ?_
      refine ROps.nil ?_
      refine RunC.seq ?_
      refine RunC.cond_true rfl rfl ?_
      refine RunC.skip ?_
      refine RunC.seq ?_
      refine RunC.block ?_
      refine RunC.seq ?_
      obtain ⟨e5, he2, h2_⟩ := obind_some h2_
      refine RunC.regionW ?_
      refine ROps.l (r := AV.ptr [AV.i64 e5]) rfl rfl rfl (LOp.le (LOp.ix (f := AV.i64) und25 siz2 rfl rfl rfl rfl he2) ALe.ptr) ?_
      refine ROps.l (r := AV.i64 e5) rfl rfl rfl (LOp.load1 agg2 rfl rfl) ?_
      refine ROps.l (r := AV.i64 e5) rfl rfl rfl (LOp.assign rfl rfl) ?_
      refine ROps.nil ?_
      obtain ⟨r6, hf3, h2_⟩ := obind_some h2_
      obtain ⟨hm4, h2_⟩ := need_some h2_
      refine RunC.regionW ?_
      refine ROps.l (r := AV.oref 0 u1 0 L3.length) rfl rfl rfl (LOp.move rfl rfl) ?_
      refine ROps.l (r := AV.i64 e5) rfl rfl rfl (LOp.move rfl rfl) ?_
      refine ROps.d (r := AV.str r6) (fs := []) (Γ' := [⟨u1, some (L3.map AV.str)⟩, ⟨u2, none⟩]) rfl rfl rfl (TOp.callB (CallAs.func ent48 rfl rfl) (Bors.cons (Bor.pure rfl) Bors.nil) rfl rfl (i_Decimal_ok e5 r6 hf3)) rfl ?_
      refine ROps.d (r := AV.oref 1 (u2 + 1) 0 1) (fs := [(1, (([r6] : List ByteArray).map AV.str))]) (Γ' := [⟨u1, some (L3.map AV.str)⟩, ⟨(u2 + 1), some (([r6] : List ByteArray).map AV.str)⟩]) rfl rfl rfl (TOp.buildSlice_o (g := ⟨u2, none⟩) (za := AV.str lit_99ba06bc) (qs := [(0, [AV.str r6])]) 1 rfl und35 siz9 zer9 rfl zel9 rfl rfl ⟨rfl, ⟨_, ALe.refl _, rfl⟩, trivial⟩ rfl) rfl ?_
      refine ROps.app (f := AV.str) (xs := L3) (ys := ([r6] : List ByteArray)) (Γ' := [⟨(u1 + 1), some ((L3 ++ ([r6] : List ByteArray)).map AV.str)⟩, ⟨(u2 + 1), some (([r6] : List ByteArray).map AV.str)⟩]) rfl pun35 inf9 rfl rfl rfl rfl rfl rfl rfl rfl rfl (by simp) (ReadAs.own rfl (by simp)) (ones_map (fun _ => rfl)) (ap_by hm4) (ap_mx hm4) rfl ?_
      refine ROps.l (r := AV.oref 0 (u1 + 1) 0 (L3.length + 1)) rfl rfl rfl (LOp.assign rfl rfl) ?_
      refine ROps.nil ?_
      refine RunC.wl (τ' := [(3, AV.oref 0 (u1 + 1) 0 (L3.length + 1)), (7, AV.sl a0.length (a0.map AV.i64)), (8, AV.i64 (a0.length : Int)), (9, AV.i64 v4)]) (Γ' := [⟨(u1 + 1), some ((L3 ++ ([r6] : List ByteArray)).map AV.str)⟩, ⟨(u2 + 1), none⟩]) ⟨(ALe.refl _), (ALe.refl _), (ALe.refl _), (ALe.refl _), trivial⟩ ⟨⟨rfl, .inr rfl⟩, ⟨rfl, .inl rfl⟩, trivial⟩ ?_
      obtain ⟨x7, hx5, h2_⟩ := olet_some h2_
      refine RunC.regionW ?_
      refine ROps.l (r := AV.i64 x7) rfl rfl rfl (LOp.eqr (LOp.add rfl rfl rfl) (congrArg (AV.ik .i64) hx5)) ?_
      refine ROps.l (r := AV.i64 x7) rfl rfl rfl (LOp.move rfl rfl) ?_
      refine ROps.nil ?_
      cases Option.some.inj h2_
      exact ⟨_, rfl, (u1 + 1), (u2 + 1), ⟨(ALe.eq (by rw [(app_len rfl rfl)] <;> rfl)), (ALe.refl _), (ALe.refl _), (ALe.refl _), trivial⟩, ⟨⟨rfl, .inr rfl⟩, ⟨rfl, .inl rfl⟩, trivial⟩⟩
    · refine RunC.regionW ?_
      refine ROps.l (r := AV.b false) rfl rfl rfl (LOp.eqb (LOp.lss rfl rfl rfl) hc1) ?_
      refine ROps.nil ?_
      refine RunC.seq ?_
      refine RunC.cond_false rfl rfl ?_
      refine RunC.exit ?_
      cases Option.some.inj h2_
      have hx := ho2 _ rfl
      exact ⟨L3, u1, u2, ⟨(ALe.refl _), trivial⟩, ⟨⟨rfl, .inr rfl⟩, ⟨rfl, .inl rfl⟩, trivial⟩, hx⟩
  · rintro τ3 Γ3 ⟨L10, u8, u9, hw3, hd3, rfl⟩
    refine RunC.wl (τ' := [(3, AV.oref 0 u8 0 L10.length)]) (Γ' := [⟨u8, some (L10.map AV.str)⟩, ⟨u9, none⟩]) hw3 hd3 ?_
    replace h : i_listText_k1 L10 = some q0 := h
    unfold i_listText_k1 at h
    refine RunC.seq ?_
    obtain ⟨r11, hf6, h⟩ := obind_some h
    refine RunC.regionW ?_
    refine ROps.l (r := AV.oref 0 u8 0 L10.length) rfl rfl rfl (LOp.move rfl rfl) ?_
    refine ROps.d (r := AV.str r11) (fs := []) (Γ' := [⟨u8, some (L10.map AV.str)⟩, ⟨u9, none⟩]) rfl rfl rfl (TOp.callB (CallAs.func ent71 rfl rfl) (Bors.cons (Bor.own (f := AV.str) (fun _ => rfl) rfl rfl) Bors.nil) rfl rfl (i_joined_ok L10 r11 hf6)) rfl ?_
    refine ROps.l (r := AV.str r11) rfl rfl rfl (LOp.assign rfl rfl) ?_
    refine ROps.nil ?_
    refine RunC.ret ?_
    have hq := Option.some.inj h
    subst q0
    exact bodyQ.pure (.inr rfl) rfl (Res.one rfl (RV.tmp rfl))
noncomputable def i_BitsOf (a0 : F) : Option (Int) :=
  bsel (!feq .f32 a0 a0) (
    some 2143289344) (
    obind (a0) fun (b1 : Nat) =>
    olet (IntKind.i64.wrap (b1 : Int)) fun (x2 : Int) =>
    some x2)
theorem i_BitsOf_ok (a0 : F) (q0 : Int) (h : i_BitsOf a0 = some q0) : Ev Tryd.prog 99 [AV.f32 a0] [] (AV.i64 q0) [] := by
  refine Ev.start Tryd.func99 rfl rfl 0 (τ := [(0, AV.f32 a0)]) rfl (Γ' := []) rfl (n := 19) rfl (g := 0) rfl (fun _ => rfl) ?_
  unfold i_BitsOf at h
  refine RunC.seq ?_
  refine RunC.regionW ?_
  refine ROps.l (r := AV.i64 0) rfl rfl rfl (LOp.assign rfl rfl) ?_
  refine ROps.nil ?_
  refine RunC.seq ?_
  refine RunC.seq ?_
  rcases bsel_some h with ⟨hc1, h⟩ | ⟨hc1, h⟩
  · refine RunC.regionW ?_
    refine ROps.l (r := AV.f32 a0) rfl rfl rfl (LOp.move rfl rfl) ?_
    refine ROps.l (r := AV.f32 a0) rfl rfl rfl (LOp.move rfl rfl) ?_
    refine ROps.l (r := AV.b true) rfl rfl rfl (LOp.eqb (LOp.fne rfl (OpF.tmp rfl) (OpF.tmp rfl)) hc1) ?_
    refine ROps.nil ?_
    refine RunC.cond_true rfl rfl ?_
    refine RunC.seq ?_
    refine RunC.regionW ?_
    refine ROps.l (r := AV.i64 2143289344) rfl rfl rfl (LOp.assign rfl rfl) ?_
    refine ROps.nil ?_
    refine RunC.ret ?_
    have hq := Option.some.inj h
    subst q0
    exact bodyQ.pure (.inr rfl) rfl (Res.one rfl (RV.tmp rfl))
  · refine RunC.regionW ?_
    refine ROps.l (r := AV.f32 a0) rfl rfl rfl (LOp.move rfl rfl) ?_
    refine ROps.l (r := AV.f32 a0) rfl rfl rfl (LOp.move rfl rfl) ?_
    refine ROps.l (r := AV.b false) rfl rfl rfl (LOp.eqb (LOp.fne rfl (OpF.tmp rfl) (OpF.tmp rfl)) hc1) ?_
    refine ROps.nil ?_
    refine RunC.cond_false rfl rfl ?_
    refine RunC.skip ?_
    refine RunC.seq ?_
    obtain ⟨b1, he2, h⟩ := obind_some h
    obtain ⟨x2, hx3, h⟩ := olet_some h
    refine RunC.regionW ?_
    refine ROps.l (r := AV.f32 a0) rfl rfl rfl (LOp.move rfl rfl) ?_
    refine ROps.l (r := AV.ik .u32 (b1 : Int)) rfl rfl rfl (LOp.fbx ext117 rfl (OpF.tmp rfl) he2) ?_
    refine ROps.l (r := AV.i64 x2) rfl rfl rfl (LOp.eqr (LOp.i2i (src := 147) (dst := 2) ⟨_, pun147⟩ pun2 rfl rfl) (congrArg (AV.ik .i64) hx3)) ?_
    refine ROps.l (r := AV.i64 x2) rfl rfl rfl (LOp.assign rfl rfl) ?_
    refine ROps.nil ?_
    refine RunC.ret ?_
    have hq := Option.some.inj h
    subst q0
    exact bodyQ.pure (.inr rfl) rfl (Res.one rfl (RV.tmp rfl))
noncomputable def x_internal_strconv_isPowerOfTwo (a0 : Int) : Option (Bool) :=
  olet (IntKind.i64.wrap (a0 - 1)) fun (x1 : Int) =>
  olet (iand .i64 a0 x1) fun (x2 : Int) =>
  some (decide (x2 = 0))
theorem x_internal_strconv_isPowerOfTwo_ok (a0 : Int) (q0 : Bool) (h : x_internal_strconv_isPowerOfTwo a0 = some q0) : Ev Tryd.prog 128 [AV.i64 a0] [] (AV.b q0) [] := by
  refine Ev.start Tryd.func128 rfl rfl 0 (τ := [(0, AV.i64 a0)]) rfl (Γ' := []) rfl (n := 17) rfl (g := 0) rfl (fun _ => rfl) ?_
  unfold x_internal_strconv_isPowerOfTwo at h
  refine RunC.seq ?_
  refine RunC.regionW ?_
  refine ROps.l (r := AV.b false) rfl rfl rfl (LOp.assign rfl rfl) ?_
  refine ROps.nil ?_
  refine RunC.seq ?_
  obtain ⟨x1, hx1, h⟩ := olet_some h
  obtain ⟨x2, hx2, h⟩ := olet_some h
  refine RunC.regionW ?_
  refine ROps.l (r := AV.i64 a0) rfl rfl rfl (LOp.move rfl rfl) ?_
  refine ROps.l (r := AV.i64 a0) rfl rfl rfl (LOp.move rfl rfl) ?_
  refine ROps.l (r := AV.i64 x1) rfl rfl rfl (LOp.eqr (LOp.sub rfl rfl rfl) (congrArg (AV.ik .i64) hx1)) ?_
  refine ROps.l (r := AV.i64 x2) rfl rfl rfl (LOp.eqr (LOp.iand rfl rfl rfl) (congrArg (AV.ik .i64) hx2)) ?_
  refine ROps.l (r := AV.b (decide (x2 = 0))) rfl rfl rfl (LOp.eql rfl rfl rfl) ?_
  refine ROps.l (r := AV.b (decide (x2 = 0))) rfl rfl rfl (LOp.assign rfl rfl) ?_
  refine ROps.nil ?_
  refine RunC.ret ?_
  have hq := Option.some.inj h
  subst q0
  exact bodyQ.pure (.inr rfl) rfl (Res.one rfl (RV.tmp rfl))
noncomputable def x_math_bits_TrailingZeros64 (a0 : Int) : Option (Int) :=
  bsel (decide (a0 = 0)) (
    some 64) (
    olet (IntKind.u64.wrap (0 - a0)) fun (x1 : Int) =>
    olet (iand .u64 a0 x1) fun (x2 : Int) =>
    olet (IntKind.u64.wrap (x2 * 285870213051353865)) fun (x3 : Int) =>
    need (decide (0 ≤ 58)) <|
    olet (ishr .u64 x3 58) fun (x4 : Int) =>
    obind (at? deB64 x4) fun (e5 : Int) =>
    olet (IntKind.i64.wrap e5) fun (x6 : Int) =>
    some x6)
theorem x_math_bits_TrailingZeros64_ok (a0 : Int) (q0 : Int) (h : x_math_bits_TrailingZeros64 a0 = some q0) : Ev Tryd.prog 140 [AV.ik .u64 a0] [] (AV.i64 q0) [] := by
  refine Ev.start Tryd.func140 rfl rfl 0 (τ := [(0, AV.ik .u64 a0)]) rfl (Γ' := []) rfl (n := 29) rfl (g := 0) rfl (fun _ => rfl) ?_
  unfold x_math_bits_TrailingZeros64 at h
  refine RunC.seq ?_
  refine RunC.regionW ?_
  refine ROps.l (r := AV.i64 0) rfl rfl rfl (LOp.assign rfl rfl) ?_
  refine ROps.nil ?_
  refine RunC.seq ?_
  refine RunC.seq ?_
  rcases bsel_some h with ⟨hc1, h⟩ | ⟨hc1, h⟩
  · refine RunC.regionW ?_
    refine ROps.l (r := AV.ik .u64 a0) rfl rfl rfl (LOp.move rfl rfl) ?_
    refine ROps.l (r := AV.b true) rfl rfl rfl (LOp.eqb (LOp.eql rfl rfl rfl) hc1) ?_
    refine ROps.nil ?_
    refine RunC.cond_true rfl rfl ?_
    refine RunC.seq ?_
    refine RunC.regionW ?_
    refine ROps.l (r := AV.i64 64) rfl rfl rfl (LOp.assign rfl rfl) ?_
    refine ROps.nil ?_
    refine RunC.ret ?_
    have hq := Option.some.inj h
    subst q0
    exact bodyQ.pure (.inr rfl) rfl (Res.one rfl (RV.tmp rfl))
  · refine RunC.regionW ?_
    refine ROps.l (r := AV.ik .u64 a0) rfl rfl rfl (LOp.move rfl rfl) ?_
    refine ROps.l (r := AV.b false) rfl rfl rfl (LOp.eqb (LOp.eql rfl rfl rfl) hc1) ?_
    refine ROps.nil ?_
    refine RunC.cond_false rfl rfl ?_
    refine RunC.skip ?_
    refine RunC.seq ?_
    obtain ⟨x1, hx2, h⟩ := olet_some h
    obtain ⟨x2, hx3, h⟩ := olet_some h
    obtain ⟨x3, hx4, h⟩ := olet_some h
    obtain ⟨hz5, h⟩ := need_some h
    obtain ⟨x4, hx6, h⟩ := olet_some h
    obtain ⟨e5, he7, h⟩ := obind_some h
    obtain ⟨x6, hx8, h⟩ := olet_some h
    refine RunC.regionW ?_
    refine ROps.l (r := AV.ik .u64 a0) rfl rfl rfl (LOp.move rfl rfl) ?_
    refine ROps.l (r := AV.ik .u64 a0) rfl rfl rfl (LOp.move rfl rfl) ?_
    refine ROps.l (r := AV.ik .u64 x1) rfl rfl rfl (LOp.eqr (LOp.neg_int rfl rfl) (congrArg (AV.ik .u64) hx2)) ?_
    refine ROps.l (r := AV.ik .u64 x2) rfl rfl rfl (LOp.eqr (LOp.iand rfl rfl rfl) (congrArg (AV.ik .u64) hx3)) ?_
    refine ROps.l (r := AV.ik .u64 x3) rfl rfl rfl (LOp.eqr (LOp.mul rfl rfl rfl) (congrArg (AV.ik .u64) hx4)) ?_
    refine ROps.l (r := AV.ik .u64 x4) rfl rfl rfl (LOp.eqr (LOp.shr rfl rfl rfl (of_decide_eq_true hz5)) (congrArg (AV.ik .u64) hx6)) ?_
    refine ROps.l (r := AV.ptr [AV.ik .u8 e5]) rfl rfl rfl (LOp.gix (zs := deB64) und174 siz5 rfl rfl (by unfold globs; simp) (by rfl) he7) ?_
    refine ROps.l (r := AV.ik .u8 e5) rfl rfl rfl (LOp.load1 agg5 rfl rfl) ?_
    refine ROps.l (r := AV.i64 x6) rfl rfl rfl (LOp.eqr (LOp.i2i (src := 5) (dst := 3) ⟨_, pun5⟩ pun3 rfl rfl) (congrArg (AV.ik .i64) hx8)) ?_
    refine ROps.l (r := AV.i64 x6) rfl rfl rfl (LOp.assign rfl rfl) ?_
    refine ROps.nil ?_
    refine RunC.ret ?_
    have hq := Option.some.inj h
    subst q0
    exact bodyQ.pure (.inr rfl) rfl (Res.one rfl (RV.tmp rfl))
noncomputable def x_math_bits_TrailingZeros (a0 : Int) : Option (Int) :=
  obind (x_math_bits_TrailingZeros64 a0) fun (r1 : Int) =>
  some r1
theorem x_math_bits_TrailingZeros_ok (a0 : Int) (q0 : Int) (h : x_math_bits_TrailingZeros a0 = some q0) : Ev Tryd.prog 129 [AV.ik .u64 a0] [] (AV.i64 q0) [] := by
  refine Ev.start Tryd.func129 rfl rfl 0 (τ := [(0, AV.ik .u64 a0)]) rfl (Γ' := []) rfl (n := 17) rfl (g := 0) rfl (fun _ => rfl) ?_
  unfold x_math_bits_TrailingZeros at h
  refine RunC.seq ?_
  refine RunC.regionW ?_
  refine ROps.l (r := AV.i64 0) rfl rfl rfl (LOp.assign rfl rfl) ?_
  refine ROps.nil ?_
  refine RunC.seq ?_
  refine RunC.cond_false rfl rfl ?_
  refine RunC.skip ?_
  refine RunC.seq ?_
  obtain ⟨r1, hf1, h⟩ := obind_some h
  refine RunC.regionW ?_
  refine ROps.l (r := AV.ik .u64 a0) rfl rfl rfl (LOp.move rfl rfl) ?_
  refine ROps.d (r := AV.i64 r1) (fs := []) (Γ' := []) rfl rfl rfl (TOp.callB (CallAs.func ent140 rfl rfl) (Bors.cons (Bor.pure rfl) Bors.nil) rfl rfl (x_math_bits_TrailingZeros64_ok a0 r1 hf1)) rfl ?_
  refine ROps.l (r := AV.i64 r1) rfl rfl rfl (LOp.assign rfl rfl) ?_
  refine ROps.nil ?_
  refine RunC.ret ?_
  have hq := Option.some.inj h
  subst q0
  exact bodyQ.pure (.inr rfl) rfl (Res.one rfl (RV.tmp rfl))
noncomputable def x_internal_strconv_formatBits_k5 (a4 : Bool) (L50 : List Int) (v52 : Int) : Option (ByteArray × (List Int)) :=
  bsel a4 (
    need (decide (0 ≤ v52) && decide (v52 < ((65 : Nat) : Int))) <|
    none) (
    need (decide (0 ≤ v52) && decide (v52 < ((65 : Nat) : Int))) <|
    some ((strOfNums (L50.drop v52.toNat)), ([] : List Int)))
noncomputable def x_internal_strconv_formatBits_k4 (a3 : Bool) (a4 : Bool) (L45 : List Int) (v47 : Int) : Option (ByteArray × (List Int)) :=
  bsel a3 (
    olet (IntKind.i64.wrap (v47 - 1)) fun (x48 : Int) =>
    obind (setAt? L45 x48 45) fun (L49 : List Int) =>
    x_internal_strconv_formatBits_k5 a4 L49 x48) (
    x_internal_strconv_formatBits_k5 a4 L45 v47)
noncomputable def x_internal_strconv_formatBits_b2 (x7 : Int) (x8 : Int) (x10 : Int) (L11 : List Int) (v13 : Int) (v14 : Int) : Option (LR ((List Int) × Int × Int) ((List Int) × Int × Int) (ByteArray × (List Int))) :=
  bsel (decide (x8 ≤ v13)) (
    olet (IntKind.i64.wrap (v14 - 1)) fun (x15 : Int) =>
    olet (iand .u64 v13 x10) fun (x16 : Int) =>
    obind (sat? lit_b1892504 x16) fun (e17 : Int) =>
    obind (setAt? L11 x15 e17) fun (L18 : List Int) =>
    need (decide (0 ≤ x7)) <|
    olet (ishr .u64 v13 x7) fun (x19 : Int) =>
    some (LR.next (L18, x19, x15))) (
    some (LR.out (L11, v13, v14)))
noncomputable def x_internal_strconv_formatBits_s2 (x7 : Int) (x8 : Int) (x10 : Int) : ((List Int) × Int × Int) → Option (LR ((List Int) × Int × Int) ((List Int) × Int × Int) (ByteArray × (List Int))) := fun s => x_internal_strconv_formatBits_b2 x7 x8 x10 s.1 s.2.1 s.2.2
noncomputable def x_internal_strconv_formatBits_k2 (a3 : Bool) (a4 : Bool) (L20 : List Int) (v22 : Int) (v23 : Int) : Option (ByteArray × (List Int)) :=
  olet (IntKind.i64.wrap (v23 - 1)) fun (x24 : Int) =>
  obind (sat? lit_b1892504 v22) fun (e25 : Int) =>
  obind (setAt? L20 x24 e25) fun (L26 : List Int) =>
  x_internal_strconv_formatBits_k4 a3 a4 L26 x24
noncomputable def x_internal_strconv_formatBits_b3 (x27 : Int) (L28 : List Int) (v30 : Int) (v31 : Int) : Option (LR ((List Int) × Int × Int) ((List Int) × Int × Int) (ByteArray × (List Int))) :=
  bsel (decide (x27 ≤ v30)) (
    olet (IntKind.i64.wrap (v31 - 1)) fun (x32 : Int) =>
    need (!decide (x27 = 0)) <|
    olet (IntKind.u64.wrap (v30.tdiv x27)) fun (x33 : Int) =>
    olet (IntKind.u64.wrap (x33 * x27)) fun (x34 : Int) =>
    olet (IntKind.u64.wrap (v30 - x34)) fun (x35 : Int) =>
    obind (sat? lit_b1892504 x35) fun (e36 : Int) =>
    obind (setAt? L28 x32 e36) fun (L37 : List Int) =>
    some (LR.next (L37, x33, x32))) (
    some (LR.out (L28, v30, v31)))
noncomputable def x_internal_strconv_formatBits_s3 (x27 : Int) : ((List Int) × Int × Int) → Option (LR ((List Int) × Int × Int) ((List Int) × Int × Int) (ByteArray × (List Int))) := fun s => x_internal_strconv_formatBits_b3 x27 s.1 s.2.1 s.2.2
noncomputable def x_internal_strconv_formatBits_k3 (a3 : Bool) (a4 : Bool) (L38 : List Int) (v40 : Int) (v41 : Int) : Option (ByteArray × (List Int)) :=
  olet (IntKind.i64.wrap (v41 - 1)) fun (x42 : Int) =>
  obind (sat? lit_b1892504 v40) fun (e43 : Int) =>
  obind (setAt? L38 x42 e43) fun (L44 : List Int) =>
  x_internal_strconv_formatBits_k4 a3 a4 L44 x42
noncomputable def x_internal_strconv_formatBits_k1 (a2 : Int) (a3 : Bool) (a4 : Bool) (v2 : Int) : Option (ByteArray × (List Int)) :=
  obind (x_internal_strconv_isPowerOfTwo a2) fun (r4 : Bool) =>
  bsel r4 (
    olet (IntKind.u64.wrap a2) fun (x5 : Int) =>
    obind (x_math_bits_TrailingZeros x5) fun (r6 : Int) =>
    olet (IntKind.u64.wrap r6) fun (x7 : Int) =>
    olet (IntKind.u64.wrap a2) fun (x8 : Int) =>
    olet (IntKind.u64.wrap a2) fun (x9 : Int) =>
    olet (IntKind.u64.wrap (x9 - 1)) fun (x10 : Int) =>
    obind (loopM (x_internal_strconv_formatBits_s2 x7 x8 x10) ((List.replicate 65 (0 : Int)), v2, 65)) fun z => osum z (fun e => x_internal_strconv_formatBits_k2 a3 a4 e.1 e.2.1 e.2.2) (fun r => some r)) (
    olet (IntKind.u64.wrap a2) fun (x27 : Int) =>
    obind (loopM (x_internal_strconv_formatBits_s3 x27) ((List.replicate 65 (0 : Int)), v2, 65)) fun z => osum z (fun e => x_internal_strconv_formatBits_k3 a3 a4 e.1 e.2.1 e.2.2) (fun r => some r))
noncomputable def x_internal_strconv_formatBits (a0 : List Int) (a1 : Int) (a2 : Int) (a3 : Bool) (a4 : Bool) : Option (ByteArray × (List Int)) :=
  bsel (decide (a2 < 2)) (
    none) (
    bsel (decide (a2 = 10)) (
      none) (
      bsel (decide (36 < a2)) (
        none) (
        bsel a3 (
          olet (IntKind.u64.wrap (0 - a1)) fun (x1 : Int) =>
          x_internal_strconv_formatBits_k1 a2 a3 a4 x1) (
          x_internal_strconv_formatBits_k1 a2 a3 a4 a1))))
theorem x_internal_strconv_formatBits_ok (a0 : List Int) (a1 : Int) (a2 : Int) (a3 : Bool) (a4 : Bool) (q0 : ByteArray) (q1 : List Int) (h : x_internal_strconv_formatBits a0 a1 a2 a3 a4 = some (q0, q1)) : Ev Tryd.prog 109 [AV.sl a0.length (a0.map (AV.ik .u8)), AV.ik .u64 a1, AV.i64 a2, AV.b a3, AV.b a4] [] (AV.tup [AV.oref 0 0 0 q1.length, AV.str q0]) [⟨0, some (q1.map (AV.ik .u8))⟩] := by
  refine Ev.start Tryd.func109 rfl rfl 1 (τ := [(0, AV.sl a0.length (a0.map (AV.ik .u8))), (1, AV.ik .u64 a1), (2, AV.i64 a2), (3, AV.b a3), (4, AV.b a4)]) rfl (Γ' := [⟨0, none⟩]) rfl (n := 205) rfl (g := 0) rfl (fun _ => rfl) ?_
  unfold x_internal_strconv_formatBits at h
  refine RunC.seq ?_
  refine RunC.regionW ?_
  refine ROps.l (r := AV.nilsl) rfl rfl rfl (LOp.assign rfl rfl) ?_
  refine ROps.l (r := AV.str lit_99ba06bc) rfl rfl rfl (LOp.assign rfl rfl) ?_
  refine ROps.nil ?_
  refine RunC.seq ?_
  refine RunC.seq ?_
  rcases bsel_some h with ⟨hc1, h⟩ | ⟨hc1, h⟩
  · refine RunC.regionW ?_
    refine ROps.l (r := AV.i64 a2) rfl rfl rfl (LOp.move rfl rfl) ?_
    refine ROps.l (r := AV.b true) rfl rfl rfl (LOp.eqb (LOp.lss rfl rfl rfl) hc1) ?_
    refine ROps.l (r := AV.b true) rfl rfl rfl (LOp.move rfl rfl) ?_
    refine ROps.s rfl rfl rfl ?_
    refine ROps.s rfl rfl rfl ?_
    refine ROps.l (r := AV.b true) rfl rfl rfl (LOp.pick_true rfl rfl rfl) ?_
    refine ROps.l (r := AV.b true) rfl rfl rfl (LOp.move rfl rfl) ?_
    refine ROps.s rfl rfl rfl ?_
    refine ROps.s rfl rfl rfl ?_
    refine ROps.l (r := AV.b true) rfl rfl rfl (LOp.pick_true rfl rfl rfl) ?_
    refine ROps.nil ?_
    refine RunC.cond_true rfl rfl ?_
    cases h
  · rcases bsel_some h with ⟨hc2, h⟩ | ⟨hc2, h⟩
    · refine RunC.regionW ?_
      refine ROps.l (r := AV.i64 a2) rfl rfl rfl (LOp.move rfl rfl) ?_
      refine ROps.l (r := AV.b false) rfl rfl rfl (LOp.eqb (LOp.lss rfl rfl rfl) hc1) ?_
      refine ROps.l (r := AV.b false) rfl rfl rfl (LOp.move rfl rfl) ?_
      refine ROps.l (r := AV.i64 a2) rfl rfl rfl (LOp.move rfl rfl) ?_
      refine ROps.l (r := AV.b true) rfl rfl rfl (LOp.eqb (LOp.eql rfl rfl rfl) hc2) ?_
      refine ROps.l (r := AV.b true) rfl rfl rfl (LOp.pick_false rfl rfl rfl) ?_
      refine ROps.l (r := AV.b true) rfl rfl rfl (LOp.move rfl rfl) ?_
      refine ROps.s rfl rfl rfl ?_
      refine ROps.s rfl rfl rfl ?_
      refine ROps.l (r := AV.b true) rfl rfl rfl (LOp.pick_true rfl rfl rfl) ?_
      refine ROps.nil ?_
      refine RunC.cond_true rfl rfl ?_
      cases h
    · rcases bsel_some h with ⟨hc3, h⟩ | ⟨hc3, h⟩
      · refine RunC.regionW ?_
        refine ROps.l (r := AV.i64 a2) rfl rfl rfl (LOp.move rfl rfl) ?_
        refine ROps.l (r := AV.b false) rfl rfl rfl (LOp.eqb (LOp.lss rfl rfl rfl) hc1) ?_
        refine ROps.l (r := AV.b false) rfl rfl rfl (LOp.move rfl rfl) ?_
        refine ROps.l (r := AV.i64 a2) rfl rfl rfl (LOp.move rfl rfl) ?_
        refine ROps.l (r := AV.b false) rfl rfl rfl (LOp.eqb (LOp.eql rfl rfl rfl) hc2) ?_
        refine ROps.l (r := AV.b false) rfl rfl rfl (LOp.pick_false rfl rfl rfl) ?_
        refine ROps.l (r := AV.b false) rfl rfl rfl (LOp.move rfl rfl) ?_
        refine ROps.l (r := AV.i64 a2) rfl rfl rfl (LOp.move rfl rfl) ?_
        refine ROps.l (r := AV.b true) rfl rfl rfl (LOp.eqb (LOp.gtr rfl rfl rfl) hc3) ?_
        refine ROps.l (r := AV.b true) rfl rfl rfl (LOp.pick_false rfl rfl rfl) ?_
        refine ROps.nil ?_
        refine RunC.cond_true rfl rfl ?_
        cases h
      · refine RunC.regionW ?_
        refine ROps.l (r := AV.i64 a2) rfl rfl rfl (LOp.move rfl rfl) ?_
        refine ROps.l (r := AV.b false) rfl rfl rfl (LOp.eqb (LOp.lss rfl rfl rfl) hc1) ?_
        refine ROps.l (r := AV.b false) rfl rfl rfl (LOp.move rfl rfl) ?_
        refine ROps.l (r := AV.i64 a2) rfl rfl rfl (LOp.move rfl rfl) ?_
        refine ROps.l (r := AV.b false) rfl rfl rfl (LOp.eqb (LOp.eql rfl rfl rfl) hc2) ?_
        refine ROps.l (r := AV.b false) rfl rfl rfl (LOp.pick_false rfl rfl rfl) ?_
        refine ROps.l (r := AV.b false) rfl rfl rfl (LOp.move rfl rfl) ?_
        refine ROps.l (r := AV.i64 a2) rfl rfl rfl (LOp.move rfl rfl) ?_
        refine ROps.l (r := AV.b false) rfl rfl rfl (LOp.eqb (LOp.gtr rfl rfl rfl) hc3) ?_
        refine ROps.l (r := AV.b false) rfl rfl rfl (LOp.pick_false rfl rfl rfl) ?_
        refine ROps.nil ?_
        refine RunC.cond_false rfl rfl ?_
        refine RunC.skip ?_
        refine RunC.seq ?_
        refine RunC.regionW ?_
        refine ROps.d (r := AV.optr 0 1 0) (fs := [(0, ((List.replicate 65 (0 : Int)).map (AV.ik .u8)))]) (Γ' := [⟨1, some ((List.replicate 65 (0 : Int)).map (AV.ik .u8))⟩]) rfl rfl rfl (TOp.alloc_o (l := ((List.replicate 65 (0 : Int)).map (AV.ik .u8))) (g := ⟨0, none⟩) 0 rfl zer157 zok157 rfl) rfl ?_
        refine ROps.nil ?_
        refine RunC.seq ?_
        refine RunC.regionW ?_
        refine ROps.l (r := AV.i64 65) rfl rfl rfl (LOp.assign rfl rfl) ?_
        refine ROps.nil ?_
        refine RunC.seq ?_
        refine RunC.cutN (fun τ Γ => ∃ (v2 : Int), (List.replicate 65 (0 : Int)).length = 65 ∧ WeakLe τ [(0, AV.sl a0.length (a0.map (AV.ik .u8))), (1, AV.ik .u64 v2), (2, AV.i64 a2), (3, AV.b a3), (4, AV.b a4), (10, AV.nilsl), (11, AV.str lit_99ba06bc), (12, AV.optr 0 1 0), (13, AV.i64 65)] ∧ DeadLe Γ [⟨1, some ((List.replicate 65 (0 : Int)).map (AV.ik .u8))⟩] ∧ x_internal_strconv_formatBits_k1 a2 a3 a4 v2 = some (q0, q1)) ?_ ?_
        · refine RunC.seq ?_
          rcases bsel_some h with ⟨hc4, h⟩ | ⟨hc4, h⟩
          · refine RunC.regionW ?_
            refine ROps.l (r := AV.b true) rfl rfl rfl (LOp.eqb (LOp.move rfl rfl) hc4) ?_
            refine ROps.nil ?_
            refine RunC.cond_true rfl rfl ?_
            obtain ⟨x1, hx5, h⟩ := olet_some h
            refine RunC.regionW ?_
            refine ROps.l (r := AV.ik .u64 a1) rfl rfl rfl (LOp.move rfl rfl) ?_
            refine ROps.l (r := AV.ik .u64 x1) rfl rfl rfl (LOp.eqr (LOp.neg_int rfl rfl) (congrArg (AV.ik .u64) hx5)) ?_
            refine ROps.l (r := AV.ik .u64 x1) rfl rfl rfl (LOp.assign rfl rfl) ?_
            refine ROps.nil ?_
            exact ⟨x1, List.length_replicate, ⟨(ALe.refl _), (ALe.refl _), (ALe.refl _), (ALe.refl _), (ALe.refl _), (ALe.refl _), (ALe.refl _), (ALe.refl _), (ALe.refl _), trivial⟩, ⟨⟨rfl, .inr rfl⟩, trivial⟩, h⟩
          · refine RunC.regionW ?_
            refine ROps.l (r := AV.b false) rfl rfl rfl (LOp.eqb (LOp.move rfl rfl) hc4) ?_
            refine ROps.nil ?_
            refine RunC.cond_false rfl rfl ?_
            refine RunC.skip ?_
            exact ⟨a1, List.length_replicate, ⟨(ALe.refl _), (ALe.refl _), (ALe.refl _), (ALe.refl _), (ALe.refl _), (ALe.refl _), (ALe.refl _), (ALe.refl _), (ALe.refl _), trivial⟩, ⟨⟨rfl, .inr rfl⟩, trivial⟩, h⟩
        · rintro τ6 Γ6 ⟨v2, hl3, hw6, hd6, h⟩
          refine RunC.wl (τ' := [(0, AV.sl a0.length (a0.map (AV.ik .u8))), (1, AV.ik .u64 v2), (2, AV.i64 a2), (3, AV.b a3), (4, AV.b a4), (10, AV.nilsl), (11, AV.str lit_99ba06bc), (12, AV.optr 0 1 0), (13, AV.i64 65)]) (Γ' := [⟨1, some ((List.replicate 65 (0 : Int)).map (AV.ik .u8))⟩]) hw6 hd6 ?_
          unfold x_internal_strconv_formatBits_k1 at h
          refine RunC.seq ?_
          refine RunC.cutN (fun τ Γ => ∃ (L45 : List Int) (v47 : Int), L45.length = 65 ∧ WeakLe τ [(0, AV.sl a0.length (a0.map (AV.ik .u8))), (3, AV.b a3), (4, AV.b a4), (10, AV.nilsl), (11, AV.str lit_99ba06bc), (12, AV.optr 0 1 0), (13, AV.i64 v47)] ∧ DeadLe Γ [⟨1, some (L45.map (AV.ik .u8))⟩] ∧ x_internal_strconv_formatBits_k4 a3 a4 L45 v47 = some (q0, q1)) ?_ ?_
          · refine RunC.seq ?_
            obtain ⟨r4, hf6, h⟩ := obind_some h
            rcases bsel_some h with ⟨hc7, h⟩ | ⟨hc7, h⟩
            · refine RunC.regionW ?_
              refine ROps.l (r := AV.i64 a2) rfl rfl rfl (LOp.move rfl rfl) ?_
              refine ROps.d (r := AV.b true) (fs := []) (Γ' := [⟨1, some ((List.replicate 65 (0 : Int)).map (AV.ik .u8))⟩]) rfl rfl rfl (TOp.eqb (TOp.callB (CallAs.func ent128 rfl rfl) (Bors.cons (Bor.pure rfl) Bors.nil) rfl rfl (x_internal_strconv_isPowerOfTwo_ok a2 r4 hf6)) hc7) rfl ?_
              refine ROps.nil ?_
              refine RunC.cond_true rfl rfl ?_
              refine RunC.seq ?_
              obtain ⟨x5, hx8, h⟩ := olet_some h
              obtain ⟨r6, hf9, h⟩ := obind_some h
              obtain ⟨x7, hx10, h⟩ := olet_some h
              refine RunC.regionW ?_
              refine ROps.l (r := AV.i64 a2) rfl rfl rfl (LOp.move rfl rfl) ?_
              refine ROps.l (r := AV.ik .u64 x5) rfl rfl rfl (LOp.eqr (LOp.i2i (src := 3) (dst := 144) ⟨_, pun3⟩ pun144 rfl rfl) (congrArg (AV.ik .u64) hx8)) ?_
              refine ROps.d (r := AV.i64 r6) (fs := []) (Γ' := [⟨1, some ((List.replicate 65 (0 : Int)).map (AV.ik .u8))⟩]) rfl rfl rfl (TOp.callB (CallAs.func ent129 rfl rfl) (Bors.cons (Bor.pure rfl) Bors.nil) rfl rfl (x_math_bits_TrailingZeros_ok x5 r6 hf9)) rfl ?_
              refine ROps.l (r := AV.ik .u64 x7) rfl rfl rfl (LOp.eqr (LOp.i2i (src := 3) (dst := 144) ⟨_, pun3⟩ pun144 rfl rfl) (congrArg (AV.ik .u64) hx10)) ?_
              refine ROps.l (r := AV.ik .u64 x7) rfl rfl rfl (LOp.assign rfl rfl) ?_
              refine ROps.nil ?_
              refine RunC.seq ?_
              obtain ⟨x8, hx11, h⟩ := olet_some h
              refine RunC.regionW ?_
              refine ROps.l (r := AV.i64 a2) rfl rfl rfl (LOp.move rfl rfl) ?_
              refine ROps.l (r := AV.ik .u64 x8) rfl rfl rfl (LOp.eqr (LOp.i2i (src := 3) (dst := 137) ⟨_, pun3⟩ pun137 rfl rfl) (congrArg (AV.ik .u64) hx11)) ?_
              refine ROps.l (r := AV.ik .u64 x8) rfl rfl rfl (LOp.assign rfl rfl) ?_
              refine ROps.nil ?_
              refine RunC.seq ?_
              obtain ⟨x9, hx12, h⟩ := olet_some h
              obtain ⟨x10, hx13, h⟩ := olet_some h
              refine RunC.regionW ?_
              refine ROps.l (r := AV.i64 a2) rfl rfl rfl (LOp.move rfl rfl) ?_
              refine ROps.l (r := AV.ik .u64 x9) rfl rfl rfl (LOp.eqr (LOp.i2i (src := 3) (dst := 144) ⟨_, pun3⟩ pun144 rfl rfl) (congrArg (AV.ik .u64) hx12)) ?_
              refine ROps.l (r := AV.ik .u64 x10) rfl rfl rfl (LOp.eqr (LOp.sub rfl rfl rfl) (congrArg (AV.ik .u64) hx13)) ?_
              refine ROps.l (r := AV.ik .u64 x10) rfl rfl rfl (LOp.assign rfl rfl) ?_
              refine ROps.nil ?_
              refine RunC.seq ?_
              obtain ⟨z7, hz_7, h⟩ := obind_some h
              refine RunC.cutN (fun τ Γ => ∃ (L20 : List Int) (v22 : Int) (v23 : Int), L20.length = 65 ∧ WeakLe τ [(0, AV.sl a0.length (a0.map (AV.ik .u8))), (1, AV.ik .u64 v22), (3, AV.b a3), (4, AV.b a4), (10, AV.nilsl), (11, AV.str lit_99ba06bc), (12, AV.optr 0 1 0), (13, AV.i64 v23)] ∧ DeadLe Γ [⟨1, some (L20.map (AV.ik .u8))⟩] ∧ z7 = .inl (L20, v22, v23)) ?_ ?_
              · refine RunC.block (RunC.loop (RunL.loopM (x := z7) (x_internal_strconv_formatBits_s2 x7 x8 x10) (fun (s : (List Int) × Int × Int) τ Γ => s.1.length = 65 ∧ WeakLe τ [(0, AV.sl a0.length (a0.map (AV.ik .u8))), (1, AV.ik .u64 s.2.1), (3, AV.b a3), (4, AV.b a4), (10, AV.nilsl), (11, AV.str lit_99ba06bc), (12, AV.optr 0 1 0), (13, AV.i64 s.2.2), (14, AV.ik .u64 x7), (15, AV.ik .u64 x8), (16, AV.ik .u64 x10)] ∧ DeadLe Γ [⟨1, some (s.1.map (AV.ik .u8))⟩]) ?_ _ _ _ hz_7 ⟨hl3, ⟨(ALe.refl _), (ALe.refl _), (ALe.refl _), (ALe.refl _), (ALe.refl _), (ALe.refl _), (ALe.refl _), (ALe.refl _), (ALe.refl _), (ALe.refl _), (ALe.refl _), trivial⟩, ⟨⟨rfl, .inr rfl⟩, trivial⟩⟩))
                rintro ⟨L11, v13, v14⟩ τ7 Γ7 y7_ ⟨hl12, hw7, hd7⟩ h7_ ho7 hr7
                refine RunC.wl (τ' := [(0, AV.sl a0.length (a0.map (AV.ik .u8))), (1, AV.ik .u64 v13), (3, AV.b a3), (4, AV.b a4), (10, AV.nilsl), (11, AV.str lit_99ba06bc), (12, AV.optr 0 1 0), (13, AV.i64 v14), (14, AV.ik .u64 x7), (15, AV.ik .u64 x8), (16, AV.ik .u64 x10)]) (Γ' := [⟨1, some (L11.map (AV.ik .u8))⟩]) hw7 hd7 ?_
                replace hl12 : L11.length = 65 := hl12
                replace h7_ : x_internal_strconv_formatBits_b2 x7 x8 x10 L11 v13 v14 = some y7_ := h7_
                unfold x_internal_strconv_formatBits_b2 at h7_
                refine RunC.seq ?_
                refine RunC.seq ?_
                rcases bsel_some h7_ with ⟨hc14, h7_⟩ | ⟨hc14, h7_⟩
                · refine RunC.regionW ?_
                  refine ROps.l (r := AV.ik .u64 v13) rfl rfl rfl (LOp.move rfl rfl) ?_
                  refine ROps.l (r := AV.ik .u64 x8) rfl rfl rfl (LOp.move rfl rfl) ?_
                  refine ROps.l (r := AV.b true) rfl rfl rfl (LOp.eqb (LOp.geq rfl rfl rfl) hc14) ?_
                  refine ROps.nil ?_
                  refine RunC.cond_true rfl rfl ?_
                  refine RunC.skip ?_
                  refine RunC.block ?_
                  refine RunC.seq ?_
                  obtain ⟨x15, hx15, h7_⟩ := olet_some h7_
                  refine RunC.regionW ?_
                  refine ROps.l (r := AV.i64 v14) rfl rfl rfl (LOp.move rfl rfl) ?_
                  refine ROps.l (r := AV.i64 x15) rfl rfl rfl (LOp.eqr (LOp.sub rfl rfl rfl) (congrArg (AV.ik .i64) hx15)) ?_
                  refine ROps.l (r := AV.i64 x15) rfl rfl rfl (LOp.assign rfl rfl) ?_
                  refine ROps.nil ?_
                  refine RunC.seq ?_
                  obtain ⟨x16, hx16, h7_⟩ := olet_some h7_
                  obtain ⟨e17, he17, h7_⟩ := obind_some h7_
                  obtain ⟨L18, he18, h7_⟩ := obind_some h7_
                  refine RunC.regionW ?_
                  refine ROps.l (r := AV.i64 x15) rfl rfl rfl (LOp.move rfl rfl) ?_
                  refine ROps.l (r := AV.ik .u64 v13) rfl rfl rfl (LOp.move rfl rfl) ?_
                  refine ROps.l (r := AV.ik .u64 x10) rfl rfl rfl (LOp.move rfl rfl) ?_
                  refine ROps.l (r := AV.ik .u64 x16) rfl rfl rfl (LOp.eqr (LOp.iand rfl rfl rfl) (congrArg (AV.ik .u64) hx16)) ?_
                  refine ROps.l (r := AV.ik .u8 e17) rfl rfl rfl (LOp.index_str und9 rfl rfl rfl he17) ?_
                  refine ROps.d (r := AV.optr 0 1 x15.toNat) (fs := []) (Γ' := [⟨1, some (L11.map (AV.ik .u8))⟩]) rfl rfl rfl (TOp.ixa und157 siz5 rfl rfl rfl (set_in he18 hl12) rfl) rfl ?_
                  refine ROps.st (f := (AV.ik .u8)) (i := x15) (Γ' := [⟨1, some (L18.map (AV.ik .u8))⟩]) rfl siz5 rfl rfl rfl (ALe.refl _) rfl rfl rfl he18 rfl ?_
                  refine ROps.nil ?_
                  obtain ⟨hz19, h7_⟩ := need_some h7_
                  obtain ⟨x19, hx20, h7_⟩ := olet_some h7_
                  refine RunC.regionW ?_
                  refine ROps.l (r := AV.ik .u64 v13) rfl rfl rfl (LOp.move rfl rfl) ?_
                  refine ROps.l (r := AV.ik .u64 x7) rfl rfl rfl (LOp.move rfl rfl) ?_
                  refine ROps.l (r := AV.ik .u64 x19) rfl rfl rfl (LOp.eqr (LOp.shr rfl rfl rfl (of_decide_eq_true hz19)) (congrArg (AV.ik .u64) hx20)) ?_
                  refine ROps.l (r := AV.ik .u64 x19) rfl rfl rfl (LOp.assign rfl rfl) ?_
                  refine ROps.nil ?_
                  cases Option.some.inj h7_
                  exact ⟨_, rfl, ((setAt?_len he18).trans hl12), ⟨(ALe.refl _), (ALe.refl _), (ALe.refl _), (ALe.refl _), (ALe.refl _), (ALe.refl _), (ALe.refl _), (ALe.refl _), (ALe.refl _), (ALe.refl _), (ALe.refl _), trivial⟩, ⟨⟨rfl, .inr rfl⟩, trivial⟩⟩
                · refine RunC.regionW ?_
                  refine ROps.l (r := AV.ik .u64 v13) rfl rfl rfl (LOp.move rfl rfl) ?_
                  refine ROps.l (r := AV.ik .u64 x8) rfl rfl rfl (LOp.move rfl rfl) ?_
                  refine ROps.l (r := AV.b false) rfl rfl rfl (LOp.eqb (LOp.geq rfl rfl rfl) hc14) ?_
                  refine ROps.nil ?_
                  refine RunC.cond_false rfl rfl ?_
                  refine RunC.exit ?_
                  cases Option.some.inj h7_
                  have hx := ho7 _ rfl
                  exact ⟨L11, v13, v14, hl12, ⟨(ALe.refl _), (ALe.refl _), (ALe.refl _), (ALe.refl _), (ALe.refl _), (ALe.refl _), (ALe.refl _), (ALe.refl _), trivial⟩, ⟨⟨rfl, .inr rfl⟩, trivial⟩, hx⟩
              · rintro τ8 Γ8 ⟨L20, v22, v23, hl21, hw8, hd8, rfl⟩
                refine RunC.wl (τ' := [(0, AV.sl a0.length (a0.map (AV.ik .u8))), (1, AV.ik .u64 v22), (3, AV.b a3), (4, AV.b a4), (10, AV.nilsl), (11, AV.str lit_99ba06bc), (12, AV.optr 0 1 0), (13, AV.i64 v23)]) (Γ' := [⟨1, some (L20.map (AV.ik .u8))⟩]) hw8 hd8 ?_
                replace h : x_internal_strconv_formatBits_k2 a3 a4 L20 v22 v23 = some (q0, q1) := h
                unfold x_internal_strconv_formatBits_k2 at h
                refine RunC.seq ?_
                obtain ⟨x24, hx21, h⟩ := olet_some h
                refine RunC.regionW ?_
                refine ROps.l (r := AV.i64 v23) rfl rfl rfl (LOp.move rfl rfl) ?_
                refine ROps.l (r := AV.i64 x24) rfl rfl rfl (LOp.eqr (LOp.sub rfl rfl rfl) (congrArg (AV.ik .i64) hx21)) ?_
                refine ROps.l (r := AV.i64 x24) rfl rfl rfl (LOp.assign rfl rfl) ?_
                refine ROps.nil ?_
                obtain ⟨e25, he22, h⟩ := obind_some h
                obtain ⟨L26, he23, h⟩ := obind_some h
                refine RunC.regionW ?_
                refine ROps.l (r := AV.i64 x24) rfl rfl rfl (LOp.move rfl rfl) ?_
                refine ROps.l (r := AV.ik .u64 v22) rfl rfl rfl (LOp.move rfl rfl) ?_
                refine ROps.l (r := AV.ik .u8 e25) rfl rfl rfl (LOp.index_str und9 rfl rfl rfl he22) ?_
                refine ROps.d (r := AV.optr 0 1 x24.toNat) (fs := []) (Γ' := [⟨1, some (L20.map (AV.ik .u8))⟩]) rfl rfl rfl (TOp.ixa und157 siz5 rfl rfl rfl (set_in he23 hl21) rfl) rfl ?_
                refine ROps.st (f := (AV.ik .u8)) (i := x24) (Γ' := [⟨1, some (L26.map (AV.ik .u8))⟩]) rfl siz5 rfl rfl rfl (ALe.refl _) rfl rfl rfl he23 rfl ?_
                refine ROps.nil ?_
                exact ⟨L26, x24, ((setAt?_len he23).trans hl21), ⟨(ALe.refl _), (ALe.refl _), (ALe.refl _), (ALe.refl _), (ALe.refl _), (ALe.refl _), (ALe.refl _), trivial⟩, ⟨⟨rfl, .inr rfl⟩, trivial⟩, h⟩
            · refine RunC.regionW ?_
              refine ROps.l (r := AV.i64 a2) rfl rfl rfl (LOp.move rfl rfl) ?_
              refine ROps.d (r := AV.b false) (fs := []) (Γ' := [⟨1, some ((List.replicate 65 (0 : Int)).map (AV.ik .u8))⟩]) rfl rfl rfl (TOp.eqb (TOp.callB (CallAs.func ent128 rfl rfl) (Bors.cons (Bor.pure rfl) Bors.nil) rfl rfl (x_internal_strconv_isPowerOfTwo_ok a2 r4 hf6)) hc7) rfl ?_
              refine ROps.nil ?_
              refine RunC.cond_false rfl rfl ?_
              refine RunC.seq ?_
              obtain ⟨x27, hx24, h⟩ := olet_some h
              refine RunC.regionW ?_
              refine ROps.l (r := AV.i64 a2) rfl rfl rfl (LOp.move rfl rfl) ?_
              refine ROps.l (r := AV.ik .u64 x27) rfl rfl rfl (LOp.eqr (LOp.i2i (src := 3) (dst := 137) ⟨_, pun3⟩ pun137 rfl rfl) (congrArg (AV.ik .u64) hx24)) ?_
              refine ROps.l (r := AV.ik .u64 x27) rfl rfl rfl (LOp.assign rfl rfl) ?_
              refine ROps.nil ?_
              refine RunC.seq ?_
              obtain ⟨z9, hz_9, h⟩ := obind_some h
              refine RunC.cutN (fun τ Γ => ∃ (L38 : List Int) (v40 : Int) (v41 : Int), L38.length = 65 ∧ WeakLe τ [(0, AV.sl a0.length (a0.map (AV.ik .u8))), (1, AV.ik .u64 v40), (3, AV.b a3), (4, AV.b a4), (10, AV.nilsl), (11, AV.str lit_99ba06bc), (12, AV.optr 0 1 0), (13, AV.i64 v41)] ∧ DeadLe Γ [⟨1, some (L38.map (AV.ik .u8))⟩] ∧ z9 = .inl (L38, v40, v41)) ?_ ?_
              · refine RunC.block (RunC.loop (RunL.loopM (x := z9) (x_internal_strconv_formatBits_s3 x27) (fun (s : (List Int) × Int × Int) τ Γ => s.1.length = 65 ∧ WeakLe τ [(0, AV.sl a0.length (a0.map (AV.ik .u8))), (1, AV.ik .u64 s.2.1), (3, AV.b a3), (4, AV.b a4), (10, AV.nilsl), (11, AV.str lit_99ba06bc), (12, AV.optr 0 1 0), (13, AV.i64 s.2.2), (17, AV.ik .u64 x27)] ∧ DeadLe Γ [⟨1, some (s.1.map (AV.ik .u8))⟩]) ?_ _ _ _ hz_9 ⟨hl3, ⟨(ALe.refl _), (ALe.refl _), (ALe.refl _), (ALe.refl _), (ALe.refl _), (ALe.refl _), (ALe.refl _), (ALe.refl _), (ALe.refl _), trivial⟩, ⟨⟨rfl, .inr rfl⟩, trivial⟩⟩))
                rintro ⟨L28, v30, v31⟩ τ9 Γ9 y9_ ⟨hl29, hw9, hd9⟩ h9_ ho9 hr9
                refine RunC.wl (τ' := [(0, AV.sl a0.length (a0.map (AV.ik .u8))), (1, AV.ik .u64 v30), (3, AV.b a3), (4, AV.b a4), (10, AV.nilsl), (11, AV.str lit_99ba06bc), (12, AV.optr 0 1 0), (13, AV.i64 v31), (17, AV.ik .u64 x27)]) (Γ' := [⟨1, some (L28.map (AV.ik .u8))⟩]) hw9 hd9 ?_
                replace hl29 : L28.length = 65 := hl29
                replace h9_ : x_internal_strconv_formatBits_b3 x27 L28 v30 v31 = some y9_ := h9_
                unfold x_internal_strconv_formatBits_b3 at h9_
                refine RunC.seq ?_
                refine RunC.seq ?_
                rcases bsel_some h9_ with ⟨hc25, h9_⟩ | ⟨hc25, h9_⟩
                · refine RunC.regionW ?_
                  refine ROps.l (r := AV.ik .u64 v30) rfl rfl rfl (LOp.move rfl rfl) ?_
                  refine ROps.l (r := AV.ik .u64 x27) rfl rfl rfl (LOp.move rfl rfl) ?_
                  refine ROps.l (r := AV.b true) rfl rfl rfl (LOp.eqb (LOp.geq rfl rfl rfl) hc25) ?_
                  refine ROps.nil ?_
                  refine RunC.cond_true rfl rfl ?_
                  refine RunC.skip ?_
                  refine RunC.block ?_
                  refine RunC.seq ?_
                  obtain ⟨x32, hx26, h9_⟩ := olet_some h9_
                  refine RunC.regionW ?_
                  refine ROps.l (r := AV.i64 v31) rfl rfl rfl (LOp.move rfl rfl) ?_
                  refine ROps.l (r := AV.i64 x32) rfl rfl rfl (LOp.eqr (LOp.sub rfl rfl rfl) (congrArg (AV.ik .i64) hx26)) ?_
                  refine ROps.l (r := AV.i64 x32) rfl rfl rfl (LOp.assign rfl rfl) ?_
                  refine ROps.nil ?_
                  refine RunC.seq ?_
                  obtain ⟨hz27, h9_⟩ := need_some h9_
                  obtain ⟨x33, hx28, h9_⟩ := olet_some h9_
                  refine RunC.regionW ?_
                  refine ROps.l (r := AV.ik .u64 v30) rfl rfl rfl (LOp.move rfl rfl) ?_
                  refine ROps.l (r := AV.ik .u64 x27) rfl rfl rfl (LOp.move rfl rfl) ?_
                  refine ROps.l (r := AV.ik .u64 x33) rfl rfl rfl (LOp.eqr (LOp.quo rfl rfl rfl (nz hz27)) (congrArg (AV.ik .u64) hx28)) ?_
                  refine ROps.l (r := AV.ik .u64 x33) rfl rfl rfl (LOp.assign rfl rfl) ?_
                  refine ROps.nil ?_
                  refine RunC.seq ?_
                  obtain ⟨x34, hx29, h9_⟩ := olet_some h9_
                  obtain ⟨x35, hx30, h9_⟩ := olet_some h9_
                  obtain ⟨e36, he31, h9_⟩ := obind_some h9_
                  obtain ⟨L37, he32, h9_⟩ := obind_some h9_
                  refine RunC.regionW ?_
                  refine ROps.l (r := AV.i64 x32) rfl rfl rfl (LOp.move rfl rfl) ?_
                  refine ROps.l (r := AV.ik .u64 v30) rfl rfl rfl (LOp.move rfl rfl) ?_
                  refine ROps.l (r := AV.ik .u64 x33) rfl rfl rfl (LOp.move rfl rfl) ?_
                  refine ROps.l (r := AV.ik .u64 x27) rfl rfl rfl (LOp.move rfl rfl) ?_
                  refine ROps.l (r := AV.ik .u64 x34) rfl rfl rfl (LOp.eqr (LOp.mul rfl rfl rfl) (congrArg (AV.ik .u64) hx29)) ?_
                  refine ROps.l (r := AV.ik .u64 x35) rfl rfl rfl (LOp.eqr (LOp.sub rfl rfl rfl) (congrArg (AV.ik .u64) hx30)) ?_
                  refine ROps.l (r := AV.ik .u8 e36) rfl rfl rfl (LOp.index_str und9 rfl rfl rfl he31) ?_
                  refine ROps.d (r := AV.optr 0 1 x32.toNat) (fs := []) (Γ' := [⟨1, some (L28.map (AV.ik .u8))⟩]) rfl rfl rfl (TOp.ixa und157 siz5 rfl rfl rfl (set_in he32 hl29) rfl) rfl ?_
                  refine ROps.st (f := (AV.ik .u8)) (i := x32) (Γ' := [⟨1, some (L37.map (AV.ik .u8))⟩]) rfl siz5 rfl rfl rfl (ALe.refl _) rfl rfl rfl he32 rfl ?_
                  refine ROps.nil ?_
                  refine RunC.wl (τ' := [(0, AV.sl a0.length (a0.map (AV.ik .u8))), (3, AV.b a3), (4, AV.b a4), (10, AV.nilsl), (11, AV.str lit_99ba06bc), (12, AV.optr 0 1 0), (13, AV.i64 x32), (17, AV.ik .u64 x27), (18, AV.ik .u64 x33)]) (Γ' := [⟨1, some (L37.map (AV.ik .u8))⟩]) ⟨(ALe.refl _), (ALe.refl _), (ALe.refl _), (ALe.refl _), (ALe.refl _), (ALe.refl _), (ALe.refl _), (ALe.refl _), (ALe.refl _), trivial⟩ ⟨⟨rfl, .inr rfl⟩, trivial⟩ ?_
                  refine RunC.regionW ?_
                  refine ROps.l (r := AV.ik .u64 x33) rfl rfl rfl (LOp.move rfl rfl) ?_
                  refine ROps.l (r := AV.ik .u64 x33) rfl rfl rfl (LOp.assign rfl rfl) ?_
                  refine ROps.nil ?_
                  cases Option.some.inj h9_
                  exact ⟨_, rfl, ((setAt?_len he32).trans hl29), ⟨(ALe.refl _), (ALe.refl _), (ALe.refl _), (ALe.refl _), (ALe.refl _), (ALe.refl _), (ALe.refl _), (ALe.refl _), (ALe.refl _), trivial⟩, ⟨⟨rfl, .inr rfl⟩, trivial⟩⟩
                · refine RunC.regionW ?_
                  refine ROps.l (r := AV.ik .u64 v30) rfl rfl rfl (LOp.move rfl rfl) ?_
                  refine ROps.l (r := AV.ik .u64 x27) rfl rfl rfl (LOp.move rfl rfl) ?_
                  refine ROps.l (r := AV.b false) rfl rfl rfl (LOp.eqb (LOp.geq rfl rfl rfl) hc25) ?_
                  refine ROps.nil ?_
                  refine RunC.cond_false rfl rfl ?_
                  refine RunC.exit ?_
                  cases Option.some.inj h9_
                  have hx := ho9 _ rfl
                  exact ⟨L28, v30, v31, hl29, ⟨(ALe.refl _), (ALe.refl _), (ALe.refl _), (ALe.refl _), (ALe.refl _), (ALe.refl _), (ALe.refl _), (ALe.refl _), trivial⟩, ⟨⟨rfl, .inr rfl⟩, trivial⟩, hx⟩
              · rintro τ10 Γ10 ⟨L38, v40, v41, hl39, hw10, hd10, rfl⟩
                refine RunC.wl (τ' := [(0, AV.sl a0.length (a0.map (AV.ik .u8))), (1, AV.ik .u64 v40), (3, AV.b a3), (4, AV.b a4), (10, AV.nilsl), (11, AV.str lit_99ba06bc), (12, AV.optr 0 1 0), (13, AV.i64 v41)]) (Γ' := [⟨1, some (L38.map (AV.ik .u8))⟩]) hw10 hd10 ?_
                replace h : x_internal_strconv_formatBits_k3 a3 a4 L38 v40 v41 = some (q0, q1) := h
                unfold x_internal_strconv_formatBits_k3 at h
                refine RunC.seq ?_
                obtain ⟨x42, hx33, h⟩ := olet_some h
                refine RunC.regionW ?_
                refine ROps.l (r := AV.i64 v41) rfl rfl rfl (LOp.move rfl rfl) ?_
                refine ROps.l (r := AV.i64 x42) rfl rfl rfl (LOp.eqr (LOp.sub rfl rfl rfl) (congrArg (AV.ik .i64) hx33)) ?_
                refine ROps.l (r := AV.i64 x42) rfl rfl rfl (LOp.assign rfl rfl) ?_
                refine ROps.nil ?_
                obtain ⟨e43, he34, h⟩ := obind_some h
                obtain ⟨L44, he35, h⟩ := obind_some h
                refine RunC.regionW ?_
                refine ROps.l (r := AV.i64 x42) rfl rfl rfl (LOp.move rfl rfl) ?_
                refine ROps.l (r := AV.ik .u64 v40) rfl rfl rfl (LOp.move rfl rfl) ?_
                refine ROps.l (r := AV.ik .u8 e43) rfl rfl rfl (LOp.index_str und9 rfl rfl rfl he34) ?_
                refine ROps.d (r := AV.optr 0 1 x42.toNat) (fs := []) (Γ' := [⟨1, some (L38.map (AV.ik .u8))⟩]) rfl rfl rfl (TOp.ixa und157 siz5 rfl rfl rfl (set_in he35 hl39) rfl) rfl ?_
                refine ROps.st (f := (AV.ik .u8)) (i := x42) (Γ' := [⟨1, some (L44.map (AV.ik .u8))⟩]) rfl siz5 rfl rfl rfl (ALe.refl _) rfl rfl rfl he35 rfl ?_
                refine ROps.nil ?_
                exact ⟨L44, x42, ((setAt?_len he35).trans hl39), ⟨(ALe.refl _), (ALe.refl _), (ALe.refl _), (ALe.refl _), (ALe.refl _), (ALe.refl _), (ALe.refl _), trivial⟩, ⟨⟨rfl, .inr rfl⟩, trivial⟩, h⟩
          · rintro τ11 Γ11 ⟨L45, v47, hl46, hw11, hd11, h⟩
            refine RunC.wl (τ' := [(0, AV.sl a0.length (a0.map (AV.ik .u8))), (3, AV.b a3), (4, AV.b a4), (10, AV.nilsl), (11, AV.str lit_99ba06bc), (12, AV.optr 0 1 0), (13, AV.i64 v47)]) (Γ' := [⟨1, some (L45.map (AV.ik .u8))⟩]) hw11 hd11 ?_
            unfold x_internal_strconv_formatBits_k4 at h
            refine RunC.seq ?_
            refine RunC.cutN (fun τ Γ => ∃ (L50 : List Int) (v52 : Int), L50.length = 65 ∧ WeakLe τ [(0, AV.sl a0.length (a0.map (AV.ik .u8))), (4, AV.b a4), (10, AV.nilsl), (11, AV.str lit_99ba06bc), (12, AV.optr 0 1 0), (13, AV.i64 v52)] ∧ DeadLe Γ [⟨1, some (L50.map (AV.ik .u8))⟩] ∧ x_internal_strconv_formatBits_k5 a4 L50 v52 = some (q0, q1)) ?_ ?_
            · refine RunC.seq ?_
              rcases bsel_some h with ⟨hc36, h⟩ | ⟨hc36, h⟩
              · refine RunC.regionW ?_
                refine ROps.l (r := AV.b true) rfl rfl rfl (LOp.eqb (LOp.move rfl rfl) hc36) ?_
                refine ROps.nil ?_
                refine RunC.cond_true rfl rfl ?_
                refine RunC.seq ?_
                obtain ⟨x48, hx37, h⟩ := olet_some h
                refine RunC.regionW ?_
                refine ROps.l (r := AV.i64 v47) rfl rfl rfl (LOp.move rfl rfl) ?_
                refine ROps.l (r := AV.i64 x48) rfl rfl rfl (LOp.eqr (LOp.sub rfl rfl rfl) (congrArg (AV.ik .i64) hx37)) ?_
                refine ROps.l (r := AV.i64 x48) rfl rfl rfl (LOp.assign rfl rfl) ?_
                refine ROps.nil ?_
                obtain ⟨L49, he38, h⟩ := obind_some h
                refine RunC.regionW ?_
                refine ROps.l (r := AV.i64 x48) rfl rfl rfl (LOp.move rfl rfl) ?_
                refine ROps.d (r := AV.optr 0 1 x48.toNat) (fs := []) (Γ' := [⟨1, some (L45.map (AV.ik .u8))⟩]) rfl rfl rfl (TOp.ixa und157 siz5 rfl rfl rfl (set_in he38 hl46) rfl) rfl ?_
                refine ROps.st (f := (AV.ik .u8)) (i := x48) (Γ' := [⟨1, some (L49.map (AV.ik .u8))⟩]) rfl siz5 rfl rfl rfl (ALe.refl _) rfl rfl rfl he38 rfl ?_
                refine ROps.nil ?_
                exact ⟨L49, x48, ((setAt?_len he38).trans hl46), ⟨(ALe.refl _), (ALe.refl _), (ALe.refl _), (ALe.refl _), (ALe.refl _), (ALe.refl _), trivial⟩, ⟨⟨rfl, .inr rfl⟩, trivial⟩, h⟩
              · refine RunC.regionW ?_
                refine ROps.l (r := AV.b false) rfl rfl rfl (LOp.eqb (LOp.move rfl rfl) hc36) ?_
                refine ROps.nil ?_
                refine RunC.cond_false rfl rfl ?_
                refine RunC.skip ?_
                exact ⟨L45, v47, hl46, ⟨(ALe.refl _), (ALe.refl _), (ALe.refl _), (ALe.refl _), (ALe.refl _), (ALe.refl _), trivial⟩, ⟨⟨rfl, .inr rfl⟩, trivial⟩, h⟩
            · rintro τ12 Γ12 ⟨L50, v52, hl51, hw12, hd12, h⟩
              refine RunC.wl (τ' := [(0, AV.sl a0.length (a0.map (AV.ik .u8))), (4, AV.b a4), (10, AV.nilsl), (11, AV.str lit_99ba06bc), (12, AV.optr 0 1 0), (13, AV.i64 v52)]) (Γ' := [⟨1, some (L50.map (AV.ik .u8))⟩]) hw12 hd12 ?_
              unfold x_internal_strconv_formatBits_k5 at h
              refine RunC.seq ?_
              refine RunC.seq ?_
              rcases bsel_some h with ⟨hc39, h⟩ | ⟨hc39, h⟩
              · refine RunC.regionW ?_
                refine ROps.l (r := AV.b true) rfl rfl rfl (LOp.eqb (LOp.move rfl rfl) hc39) ?_
                refine ROps.nil ?_
                refine RunC.cond_true rfl rfl ?_
                refine RunC.seq ?_
                refine RunC.le (Le.settle 0 [(0, AV.sl a0.length (a0.map (AV.ik .u8))), (4, AV.b a4), (10, AV.nilsl), (11, AV.str lit_99ba06bc), (12, AV.ptr (L50.map (AV.ik .u8))), (13, AV.i64 v52), (94, AV.b true)] rfl rfl rfl ⟨.inl rfl, .inl rfl, .inl rfl, .inl rfl, .inr (Bor.arr (f := (AV.ik .u8)) (fun _ => rfl) rfl), .inl rfl, .inl rfl, trivial⟩) ?_
                obtain ⟨hp40, h⟩ := need_some h
                cases h
              · refine RunC.regionW ?_
                refine ROps.l (r := AV.b false) rfl rfl rfl (LOp.eqb (LOp.move rfl rfl) hc39) ?_
                refine ROps.nil ?_
                refine RunC.cond_false rfl rfl ?_
                refine RunC.skip ?_
                refine RunC.seq ?_
                refine RunC.le (Le.settle 0 [(0, AV.sl a0.length (a0.map (AV.ik .u8))), (4, AV.b a4), (10, AV.nilsl), (11, AV.str lit_99ba06bc), (12, AV.ptr (L50.map (AV.ik .u8))), (13, AV.i64 v52), (94, AV.b false)] rfl rfl rfl ⟨.inl rfl, .inl rfl, .inl rfl, .inl rfl, .inr (Bor.arr (f := (AV.ik .u8)) (fun _ => rfl) rfl), .inl rfl, .inl rfl, trivial⟩) ?_
                obtain ⟨hp41, h⟩ := need_some h
                refine RunC.regionW ?_
                refine ROps.l (r := AV.i64 v52) rfl rfl rfl (LOp.move rfl rfl) ?_
                refine ROps.l (r := AV.sl (L50.drop v52.toNat).length ((L50.drop v52.toNat).map (AV.ik .u8))) rfl rfl rfl (LOp.sla (f := (AV.ik .u8)) und157 siz5 rfl rfl rfl hl51 (par_in hp41)) ?_
                refine ROps.d (r := AV.str (strOfNums (L50.drop v52.toNat))) (fs := []) (Γ' := [⟨1, none⟩]) rfl rfl rfl (TOp.b2s (xs := (L50.drop v52.toNat)) pun75 pun5 pun9 rfl (fun _ _ => ReadAs.sl (by simp))) rfl ?_
                refine ROps.l (r := AV.str (strOfNums (L50.drop v52.toNat))) rfl rfl rfl (LOp.assign rfl rfl) ?_
                refine ROps.nil ?_
                refine RunC.nil_slot (Γ' := [⟨2, some (([] : List Int).map (AV.ik .u8))⟩]) 10 0 rfl rfl rfl ?_
                refine RunC.ret ?_
                have hq := Option.some.inj h
                obtain ⟨hq0, hq⟩ := Prod.mk.inj hq
                subst q0
                subst q1
                exact bodyQ.mk (r' := AV.tup [AV.oref 0 2 0 (([] : List Int).length), AV.str (strOfNums (L50.drop v52.toNat))]) [(0, 2)] (.inr rfl) rfl (show List.Nodup [0] from by decide) rfl rfl (Res.eq (Res.two rfl (RV.tmp rfl) (RV.tmp rfl)) (by rw [(show ([] : List Int).length = 0 from rfl)] <;> rfl)) (SelL.arr0 (f := (AV.ik .u8)) (fun _ => rfl) rfl trivial)
noncomputable def x_internal_strconv_FormatInt_k2 (v3 : Int) : Option (ByteArray) :=
  none
noncomputable def x_internal_strconv_FormatInt_k1 (a0 : Int) : Option (ByteArray) :=
  olet (IntKind.u64.wrap a0) fun (x1 : Int) =>
  bsel (decide (a0 < 0)) (
    olet (IntKind.u64.wrap (0 - x1)) fun (x2 : Int) =>
    x_internal_strconv_FormatInt_k2 x2) (
    x_internal_strconv_FormatInt_k2 x1)
noncomputable def x_internal_strconv_FormatInt (a0 : Int) (a1 : Int) : Option (ByteArray) :=
  bsel (decide (a1 = 10)) (
    bsel (decide (0 ≤ a0)) (
      bsel (decide (a0 < 100)) (
        none) (
        x_internal_strconv_FormatInt_k1 a0)) (
      x_internal_strconv_FormatInt_k1 a0)) (
    olet (IntKind.u64.wrap a0) fun (x5 : Int) =>
    obind2 (x_internal_strconv_formatBits ([] : List Int) x5 a1 (decide (a0 < 0)) false) fun (r6 : ByteArray) (r7 : List Int) =>
    some r6)
theorem x_internal_strconv_FormatInt_ok (a0 : Int) (a1 : Int) (q0 : ByteArray) (h : x_internal_strconv_FormatInt a0 a1 = some q0) : Ev Tryd.prog 92 [AV.i64 a0, AV.i64 a1] [] (AV.str q0) [] := by
  refine Ev.start Tryd.func92 rfl rfl 1 (τ := [(0, AV.i64 a0), (1, AV.i64 a1)]) rfl (Γ' := [⟨0, none⟩]) rfl (n := 109) rfl (g := 0) rfl (fun _ => rfl) ?_
  unfold x_internal_strconv_FormatInt at h
  refine RunC.seq ?_
  refine RunC.regionW ?_
  refine ROps.l (r := AV.str lit_99ba06bc) rfl rfl rfl (LOp.assign rfl rfl) ?_
  refine ROps.nil ?_
  refine RunC.seq ?_
  refine RunC.seq ?_
  rcases bsel_some h with ⟨hc1, h⟩ | ⟨hc1, h⟩
  · refine RunC.regionW ?_
    refine ROps.l (r := AV.i64 a1) rfl rfl rfl (LOp.move rfl rfl) ?_
    refine ROps.l (r := AV.b true) rfl rfl rfl (LOp.eqb (LOp.eql rfl rfl rfl) hc1) ?_
    refine ROps.nil ?_
    refine RunC.cond_true rfl rfl ?_
    refine RunC.seq ?_
    refine RunC.cutN (fun τ Γ =>  WeakLe τ [(0, AV.i64 a0)] ∧ DeadLe Γ [⟨0, none⟩] ∧ x_internal_strconv_FormatInt_k1 a0 = some q0) ?_ ?_
    · refine RunC.seq ?_
      rcases bsel_some h with ⟨hc2, h⟩ | ⟨hc2, h⟩
      · rcases bsel_some h with ⟨hc3, h⟩ | ⟨hc3, h⟩
        · refine RunC.regionW ?_
          refine ROps.l (r := AV.i64 a0) rfl rfl rfl (LOp.move rfl rfl) ?_
          refine ROps.l (r := AV.b true) rfl rfl rfl (LOp.eqb (LOp.leq rfl rfl rfl) hc2) ?_
          refine ROps.l (r := AV.b true) rfl rfl rfl (LOp.move rfl rfl) ?_
          refine ROps.l (r := AV.i64 a0) rfl rfl rfl (LOp.move rfl rfl) ?_
          refine ROps.l (r := AV.b true) rfl rfl rfl (LOp.eqb (LOp.lss rfl rfl rfl) hc3) ?_
          refine ROps.l (r := AV.b true) rfl rfl rfl (LOp.pick_true rfl rfl rfl) ?_
          refine ROps.nil ?_
          refine RunC.cond_true rfl rfl ?_
          refine RunC.seq ?_
          cases h
        · refine RunC.regionW ?_
          refine ROps.l (r := AV.i64 a0) rfl rfl rfl (LOp.move rfl rfl) ?_
          refine ROps.l (r := AV.b true) rfl rfl rfl (LOp.eqb (LOp.leq rfl rfl rfl) hc2) ?_
          refine ROps.l (r := AV.b true) rfl rfl rfl (LOp.move rfl rfl) ?_
          refine ROps.l (r := AV.i64 a0) rfl rfl rfl (LOp.move rfl rfl) ?_
          refine ROps.l (r := AV.b false) rfl rfl rfl (LOp.eqb (LOp.lss rfl rfl rfl) hc3) ?_
          refine ROps.l (r := AV.b false) rfl rfl rfl (LOp.pick_true rfl rfl rfl) ?_
          refine ROps.nil ?_
          refine RunC.cond_false rfl rfl ?_
          refine RunC.skip ?_
          exact ⟨⟨(ALe.refl _), trivial⟩, ⟨⟨rfl, .inr rfl⟩, trivial⟩, h⟩
      · refine RunC.regionW ?_
        refine ROps.l (r := AV.i64 a0) rfl rfl rfl (LOp.move rfl rfl) ?_
        refine ROps.l (r := AV.b false) rfl rfl rfl (LOp.eqb (LOp.leq rfl rfl rfl) hc2) ?_
        refine ROps.l (r := AV.b false) rfl rfl rfl (LOp.move rfl rfl) ?_
        refine ROps.s rfl rfl rfl ?_
        refine ROps.s rfl rfl rfl ?_
        refine ROps.l (r := AV.b false) rfl rfl rfl (LOp.pick_false rfl rfl rfl) ?_
        refine ROps.nil ?_
        refine RunC.cond_false rfl rfl ?_
        refine RunC.skip ?_
        exact ⟨⟨(ALe.refl _), trivial⟩, ⟨⟨rfl, .inr rfl⟩, trivial⟩, h⟩
    · rintro τ3 Γ3 ⟨hw3, hd3, h⟩
      refine RunC.wl (τ' := [(0, AV.i64 a0)]) (Γ' := [⟨0, none⟩]) hw3 hd3 ?_
      unfold x_internal_strconv_FormatInt_k1 at h
      refine RunC.seq ?_
      refine RunC.regionW ?_
      refine ROps.d (r := AV.optr 0 1 0) (fs := [(0, ((List.replicate 24 (0 : Int)).map (AV.ik .u8)))]) (Γ' := [⟨1, some ((List.replicate 24 (0 : Int)).map (AV.ik .u8))⟩]) rfl rfl rfl (TOp.alloc_o (l := ((List.replicate 24 (0 : Int)).map (AV.ik .u8))) (g := ⟨0, none⟩) 0 rfl zer136 zok136 rfl) rfl ?_
      refine ROps.nil ?_
      refine RunC.seq ?_
      obtain ⟨x1, hx4, h⟩ := olet_some h
      refine RunC.regionW ?_
      refine ROps.l (r := AV.i64 a0) rfl rfl rfl (LOp.move rfl rfl) ?_
      refine ROps.l (r := AV.ik .u64 x1) rfl rfl rfl (LOp.eqr (LOp.i2i (src := 2) (dst := 137) ⟨_, pun2⟩ pun137 rfl rfl) (congrArg (AV.ik .u64) hx4)) ?_
      refine ROps.l (r := AV.ik .u64 x1) rfl rfl rfl (LOp.assign rfl rfl) ?_
      refine ROps.nil ?_
      refine RunC.seq ?_
      refine RunC.cutN (fun τ Γ => ∃ (v3 : Int), (List.replicate 24 (0 : Int)).length = 24 ∧ WeakLe τ [(0, AV.i64 a0), (5, AV.optr 0 1 0), (6, AV.ik .u64 v3)] ∧ DeadLe Γ [⟨1, some ((List.replicate 24 (0 : Int)).map (AV.ik .u8))⟩] ∧ x_internal_strconv_FormatInt_k2 v3 = some q0) ?_ ?_
      · refine RunC.seq ?_
        rcases bsel_some h with ⟨hc5, h⟩ | ⟨hc5, h⟩
        · refine RunC.regionW ?_
          refine ROps.l (r := AV.i64 a0) rfl rfl rfl (LOp.move rfl rfl) ?_
          refine ROps.l (r := AV.b true) rfl rfl rfl (LOp.eqb (LOp.lss rfl rfl rfl) hc5) ?_
          refine ROps.nil ?_
          refine RunC.cond_true rfl rfl ?_
          obtain ⟨x2, hx6, h⟩ := olet_some h
          refine RunC.regionW ?_
          refine ROps.l (r := AV.ik .u64 x1) rfl rfl rfl (LOp.move rfl rfl) ?_
          refine ROps.l (r := AV.ik .u64 x2) rfl rfl rfl (LOp.eqr (LOp.neg_int rfl rfl) (congrArg (AV.ik .u64) hx6)) ?_
          refine ROps.l (r := AV.ik .u64 x2) rfl rfl rfl (LOp.assign rfl rfl) ?_
          refine ROps.nil ?_
          exact ⟨x2, List.length_replicate, ⟨(ALe.refl _), (ALe.refl _), (ALe.refl _), trivial⟩, ⟨⟨rfl, .inr rfl⟩, trivial⟩, h⟩
        · refine RunC.regionW ?_
          refine ROps.l (r := AV.i64 a0) rfl rfl rfl (LOp.move rfl rfl) ?_
          refine ROps.l (r := AV.b false) rfl rfl rfl (LOp.eqb (LOp.lss rfl rfl rfl) hc5) ?_
          refine ROps.nil ?_
          refine RunC.cond_false rfl rfl ?_
          refine RunC.skip ?_
          exact ⟨x1, List.length_replicate, ⟨(ALe.refl _), (ALe.refl _), (ALe.refl _), trivial⟩, ⟨⟨rfl, .inr rfl⟩, trivial⟩, h⟩
      · rintro τ4 Γ4 ⟨v3, hl4, hw4, hd4, h⟩
        refine RunC.wl (τ' := [(0, AV.i64 a0), (5, AV.optr 0 1 0), (6, AV.ik .u64 v3)]) (Γ' := [⟨1, some ((List.replicate 24 (0 : Int)).map (AV.ik .u8))⟩]) hw4 hd4 ?_
        unfold x_internal_strconv_FormatInt_k2 at h
        refine RunC.seq ?_
        cases h
  · refine RunC.regionW ?_
    refine ROps.l (r := AV.i64 a1) rfl rfl rfl (LOp.move rfl rfl) ?_
    refine ROps.l (r := AV.b false) rfl rfl rfl (LOp.eqb (LOp.eql rfl rfl rfl) hc1) ?_
    refine ROps.nil ?_
    refine RunC.cond_false rfl rfl ?_
    refine RunC.skip ?_
    refine RunC.seq ?_
    obtain ⟨x5, hx7, h⟩ := olet_some h
    obtain ⟨r6, r7, hf8, h⟩ := obind2_some h
    refine RunC.regionW ?_
    refine ROps.l (r := AV.i64 a0) rfl rfl rfl (LOp.move rfl rfl) ?_
    refine ROps.l (r := AV.ik .u64 x5) rfl rfl rfl (LOp.eqr (LOp.i2i (src := 2) (dst := 137) ⟨_, pun2⟩ pun137 rfl rfl) (congrArg (AV.ik .u64) hx7)) ?_
    refine ROps.l (r := AV.i64 a1) rfl rfl rfl (LOp.move rfl rfl) ?_
    refine ROps.l (r := AV.i64 a0) rfl rfl rfl (LOp.move rfl rfl) ?_
    refine ROps.l (r := AV.b (decide (a0 < 0))) rfl rfl rfl (LOp.lss rfl rfl rfl) ?_
    refine ROps.d (r := AV.tup [AV.oref 0 1 0 r7.length, AV.str r6]) (fs := [(0, (r7.map (AV.ik .u8)))]) (Γ' := [⟨1, some (r7.map (AV.ik .u8))⟩]) rfl rfl rfl (TOp.callBN (ls := [(r7.map (AV.ik .u8))]) [0] (CallAs.func ent109 rfl rfl) (Bors.cons Bor.nilsl (Bors.cons (Bor.pure rfl) (Bors.cons (Bor.pure rfl) (Bors.cons (Bor.pure rfl) (Bors.cons (Bor.pure rfl) Bors.nil))))) rfl (x_internal_strconv_formatBits_ok ([] : List Int) x5 a1 (decide (a0 < 0)) false r6 r7 hf8) (and_all (lts0_map (f := (AV.ik .u8)) (fun _ => rfl) _) rfl) (and_all (noss_map (f := (AV.ik .u8)) (fun _ => rfl) _) rfl) rfl (by decide) (ns_of ⟨⟨_, rfl⟩, trivial⟩)) rfl ?_
    refine ROps.l (r := AV.tup [AV.oref 0 1 0 r7.length, AV.str r6]) rfl rfl rfl (LOp.move rfl rfl) ?_
    refine ROps.l (r := AV.oref 0 1 0 r7.length) rfl rfl rfl (LOp.extract rfl rfl rfl) ?_
    refine ROps.l (r := AV.str r6) rfl rfl rfl (LOp.extract rfl rfl rfl) ?_
    refine ROps.l (r := AV.oref 0 1 0 r7.length) rfl rfl rfl (LOp.assign rfl rfl) ?_
    refine ROps.l (r := AV.str r6) rfl rfl rfl (LOp.assign rfl rfl) ?_
    refine ROps.nil ?_
    refine RunC.wl (τ' := [(9, AV.str r6)]) (Γ' := [⟨1, none⟩]) ⟨(ALe.refl _), trivial⟩ ⟨⟨rfl, .inl rfl⟩, trivial⟩ ?_
    refine RunC.seq ?_
    refine RunC.regionW ?_
    refine ROps.l (r := AV.str r6) rfl rfl rfl (LOp.move rfl rfl) ?_
    refine ROps.l (r := AV.str r6) rfl rfl rfl (LOp.assign rfl rfl) ?_
    refine ROps.nil ?_
    refine RunC.ret ?_
    have hq := Option.some.inj h
    subst q0
    exact bodyQ.pure (.inr rfl) rfl (Res.one rfl (RV.tmp rfl))
noncomputable def x_strconv_FormatInt_16 (a0 : Int) (a1 : Int) : Option (ByteArray) :=
  obind (x_internal_strconv_FormatInt a0 a1) fun (r1 : ByteArray) =>
  some r1
theorem x_strconv_FormatInt_16_ok (a0 : Int) (a1 : Int) (q0 : ByteArray) (h : x_strconv_FormatInt_16 a0 a1 = some q0) : Ev Tryd.prog 75 [AV.i64 a0, AV.i64 a1] [] (AV.str q0) [] := by
  refine Ev.start Tryd.func75 rfl rfl 0 (τ := [(0, AV.i64 a0), (1, AV.i64 a1)]) rfl (Γ' := []) rfl (n := 17) rfl (g := 0) rfl (fun _ => rfl) ?_
  unfold x_strconv_FormatInt_16 at h
  refine RunC.seq ?_
  refine RunC.regionW ?_
  refine ROps.l (r := AV.str lit_99ba06bc) rfl rfl rfl (LOp.assign rfl rfl) ?_
  refine ROps.nil ?_
  refine RunC.seq ?_
  obtain ⟨r1, hf1, h⟩ := obind_some h
  refine RunC.regionW ?_
  refine ROps.l (r := AV.i64 a0) rfl rfl rfl (LOp.move rfl rfl) ?_
  refine ROps.l (r := AV.i64 a1) rfl rfl rfl (LOp.move rfl rfl) ?_
  refine ROps.d (r := AV.str r1) (fs := []) (Γ' := []) rfl rfl rfl (TOp.callB (CallAs.func ent92 rfl rfl) (Bors.cons (Bor.pure rfl) (Bors.cons (Bor.pure rfl) Bors.nil)) rfl rfl (x_internal_strconv_FormatInt_ok a0 a1 r1 hf1)) rfl ?_
  refine ROps.l (r := AV.str r1) rfl rfl rfl (LOp.assign rfl rfl) ?_
  refine ROps.nil ?_
  refine RunC.ret ?_
  have hq := Option.some.inj h
  subst q0
  exact bodyQ.pure (.inr rfl) rfl (Res.one rfl (RV.tmp rfl))
noncomputable def x_strings_Repeat (a0 : ByteArray) (a1 : Int) : Option ByteArray :=
  need (decide (0 ≤ a1)) <|
  need (decide (a1 ≤ 9223372036854775807)) <|
  need (decide (a0.size * a1.toNat ≤ 140737488355328)) <|
  some ⟨(Go.Lib.repeatL a0.data.toList a1.toNat).toArray⟩
def rep_ren : Go.Shelf.Ren :=
{
  f := fun x =>
    match x with
    | 105 => 100
    | 212 => 118
    | 99 => 119
    | 165 => 105
    | 166 => 47
    | 170 => 50
    | 169 => 51
    | 263 => 134
    | 264 => 135
    | 206 => 136
    | 240 => 74
    | 241 => 124
    | 276 => 91
    | 277 => 138
    | n => n,
  t := fun x =>
    match x with
    | 9 => 9
    | 3 => 3
    | 4 => 4
    | 20 => 20
    | 0 => 0
    | 46 => 144
    | 109 => 149
    | 5 => 5
    | 72 => 77
    | 76 => 81
    | 51 => 147
    | 146 => 160
    | 53 => 137
    | 148 => 164
    | 70 => 74
    | 37 => 75
    | 75 => 80
    | 127 => 112
    | 164 => 127
    | 80 => 86
    | n => n,
  g := fun x =>
    have n := x;
    n }
theorem rep_lays : Go.Proofs.Lays.n105 Tryd.prog rep_ren :=
  { f99 := (Eq.trans Tryd.func119 (congrArg some (by kernel_rfl))),
    f105 := (Eq.trans Tryd.func100 (congrArg some (by kernel_rfl))),
    f165 := (Eq.trans Tryd.func105 (congrArg some (by kernel_rfl))),
    f166 := (Eq.trans Tryd.func47 (congrArg some (by kernel_rfl))),
    f169 := (Eq.trans Tryd.func51 (congrArg some (by kernel_rfl))),
    f170 := (Eq.trans Tryd.func50 (congrArg some (by kernel_rfl))),
    f206 := (Eq.trans Tryd.func136 (congrArg some (by kernel_rfl))),
    f212 := (Eq.trans Tryd.func118 (congrArg some (by kernel_rfl))),
    f240 := (Eq.trans Tryd.func74 (congrArg some (by kernel_rfl))),
    f241 := (Eq.trans Tryd.func124 (congrArg some (by kernel_rfl))),
    f263 := (Eq.trans Tryd.func134 (congrArg some (by kernel_rfl))),
    f264 := (Eq.trans Tryd.func135 (congrArg some (by kernel_rfl))),
    f276 := (Eq.trans Tryd.func91 (congrArg some (by kernel_rfl))),
    f277 := (Eq.trans Tryd.func138 (congrArg some (by kernel_rfl))),
    t0 := Tryd.underlying0,
    a0 := Tryd.isAgg0,
    z0 := Tryd.sizeOf0,
    v0 := Tryd.zeroValue0,
    t3 := Tryd.underlying3,
    a3 := Tryd.isAgg3,
    z3 := Tryd.sizeOf3,
    v3 := Tryd.zeroValue3,
    t4 := Tryd.underlying4,
    a4 := Tryd.isAgg4,
    z4 := Tryd.sizeOf4,
    v4 := Tryd.zeroValue4,
    t5 := Tryd.underlying5,
    a5 := Tryd.isAgg5,
    z5 := Tryd.sizeOf5,
    v5 := Tryd.zeroValue5,
    t9 := Tryd.underlying9,
    a9 := Tryd.isAgg9,
    z9 := Tryd.sizeOf9,
    v9 := Tryd.zeroValue9,
    t20 := Tryd.underlying20,
    a20 := Tryd.isAgg20,
    z20 := Tryd.sizeOf20,
    v20 := Tryd.zeroValue20,
    t37 := Tryd.underlying75,
    a37 := Tryd.isAgg75,
    z37 := Tryd.sizeOf75,
    v37 := Tryd.zeroValue75,
    t46 := Tryd.underlying144,
    a46 := Tryd.isAgg144,
    z46 := Tryd.sizeOf144,
    v46 := Tryd.zeroValue144,
    t51 := Tryd.underlying147,
    a51 := Tryd.isAgg147,
    z51 := Tryd.sizeOf147,
    v51 := Tryd.zeroValue147,
    t53 := Tryd.underlying137,
    a53 := Tryd.isAgg137,
    z53 := Tryd.sizeOf137,
    v53 := Tryd.zeroValue137,
    t70 := Tryd.underlying74,
    a70 := Tryd.isAgg74,
    z70 := Tryd.sizeOf74,
    v70 := Tryd.zeroValue74,
    t72 := Tryd.underlying77,
    a72 := Tryd.isAgg77,
    z72 := Tryd.sizeOf77,
    v72 := Tryd.zeroValue77,
    t75 := Tryd.underlying80,
    a75 := Tryd.isAgg80,
    z75 := Tryd.sizeOf80,
    v75 := Tryd.zeroValue80,
    t76 := Tryd.underlying81,
    a76 := Tryd.isAgg81,
    z76 := Tryd.sizeOf81,
    v76 := Tryd.zeroValue81,
    t109 := Tryd.underlying149,
    a109 := Tryd.isAgg149,
    z109 := Tryd.sizeOf149,
    v109 := Tryd.zeroValue149,
    t127 := Tryd.underlying112,
    a127 := Tryd.isAgg112,
    z127 := Tryd.sizeOf112,
    v127 := Tryd.zeroValue112,
    t146 := Tryd.underlying160,
    a146 := Tryd.isAgg160,
    z146 := Tryd.sizeOf160,
    v146 := Tryd.zeroValue160,
    t148 := Tryd.underlying164,
    a148 := Tryd.isAgg164,
    z148 := Tryd.sizeOf164,
    v148 := Tryd.zeroValue164,
    t164 := Tryd.underlying127,
    a164 := Tryd.isAgg127,
    z164 := Tryd.sizeOf127,
    v164 := Tryd.zeroValue127,
    mixed := (by kernel_rfl) }
theorem rep_extra : Go.Proofs.Builder.Extra Tryd.prog rep_ren where
  sizeBuilder := by kernel_rfl
  liesBuilder := by kernel_rfl
  t5 := Tryd.underlying5
  a5 := Tryd.isAgg5
  z5 := Tryd.sizeOf5
  v5 := Tryd.zeroValue5
  infoByte := by kernel_rfl
  cellsByte := by kernel_rfl
  sizeByte := by kernel_rfl
  neB5 := by decide
theorem x_strings_Repeat_ok (a0 : ByteArray) (a1 : Int) (q0 : ByteArray) (h : x_strings_Repeat a0 a1 = some q0) : Ev Tryd.prog 100 [AV.str a0, AV.i64 a1] [] (AV.str q0) [] := by
  unfold x_strings_Repeat at h
  obtain ⟨h1, k1⟩ := need_some h
  obtain ⟨h2, k2⟩ := need_some k1
  obtain ⟨h3, k3⟩ := need_some k2
  have h1 := of_decide_eq_true h1
  have h2 := of_decide_eq_true h2
  have h3 := of_decide_eq_true h3
  have hq := Option.some.inj k3
  subst hq
  refine Ev.ofGrow fun S w vs hs ha => ?_
  obtain ⟨vl⟩ := vs
  match vl, ha with
  | [v0, v1], ha =>
    simp only [VL, V] at ha
    obtain ⟨rfl, rfl, _⟩ := ha
    have e : (Value.int .i64 a1) = .int .i64 (a1.toNat : Int) := by rw [Int.toNat_of_nonneg h1]
    rw [e]
    refine (Go.Proofs.Any.strings_Repeat rep_lays rep_extra a0 a1.toNat w (by omega) h3).mono ?_
    rintro e w' ⟨rfl, hB⟩
    exact ⟨_, rfl, by simp only [V], hB.size, fun k hk => hB.block k hk, hB.os, hB.tape, hB.output⟩
  | [], ha => simp only [VL] at ha
  | [_], ha => simp only [VL] at ha; exact ha.2.elim
  | _ :: _ :: _ :: _, ha => simp only [VL] at ha; exact ha.2.2.elim
noncomputable def i_digitsOf (a0 : F) : Option (ByteArray) :=
  obind (i_BitsOf a0) fun (r1 : Int) =>
  obind (x_strconv_FormatInt_16 r1 16) fun (r2 : ByteArray) =>
  olet (IntKind.i64.wrap (8 - (r2.size : Int))) fun (x3 : Int) =>
  obind (x_strings_Repeat lit_53dfb3bc x3) fun (r4 : ByteArray) =>
  obind (cats? r4 r2) fun (t5 : ByteArray) =>
  some t5
theorem i_digitsOf_ok (a0 : F) (q0 : ByteArray) (h : i_digitsOf a0 = some q0) : Ev Tryd.prog 83 [AV.f32 a0] [] (AV.str q0) [] := by
  refine Ev.start Tryd.func83 rfl rfl 0 (τ := [(0, AV.f32 a0)]) rfl (Γ' := []) rfl (n := 27) rfl (g := 0) rfl (fun _ => rfl) ?_
  unfold i_digitsOf at h
  refine RunC.seq ?_
  refine RunC.regionW ?_
  refine ROps.l (r := AV.str lit_99ba06bc) rfl rfl rfl (LOp.assign rfl rfl) ?_
  refine ROps.nil ?_
  refine RunC.seq ?_
  obtain ⟨r1, hf1, h⟩ := obind_some h
  obtain ⟨r2, hf2, h⟩ := obind_some h
  refine RunC.regionW ?_
  refine ROps.l (r := AV.f32 a0) rfl rfl rfl (LOp.move rfl rfl) ?_
  refine ROps.d (r := AV.i64 r1) (fs := []) (Γ' := []) rfl rfl rfl (TOp.callB (CallAs.func ent99 rfl rfl) (Bors.cons (Bor.pure rfl) Bors.nil) rfl rfl (i_BitsOf_ok a0 r1 hf1)) rfl ?_
  refine ROps.d (r := AV.str r2) (fs := []) (Γ' := []) rfl rfl rfl (TOp.callB (CallAs.func ent75 rfl rfl) (Bors.cons (Bor.pure rfl) (Bors.cons (Bor.pure rfl) Bors.nil)) rfl rfl (x_strconv_FormatInt_16_ok r1 16 r2 hf2)) rfl ?_
  refine ROps.l (r := AV.str r2) rfl rfl rfl (LOp.assign rfl rfl) ?_
  refine ROps.nil ?_
  refine RunC.seq ?_
  obtain ⟨x3, hx3, h⟩ := olet_some h
  obtain ⟨r4, hf4, h⟩ := obind_some h
  obtain ⟨t5, hs5, h⟩ := obind_some h
  refine RunC.regionW ?_
  refine ROps.l (r := AV.str r2) rfl rfl rfl (LOp.move rfl rfl) ?_
  refine ROps.l (r := AV.i64 (r2.size : Int)) rfl rfl rfl (LOp.len_str und9 rfl rfl) ?_
  refine ROps.l (r := AV.i64 x3) rfl rfl rfl (LOp.eqr (LOp.sub rfl rfl rfl) (congrArg (AV.ik .i64) hx3)) ?_
  refine ROps.d (r := AV.str r4) (fs := []) (Γ' := []) rfl rfl rfl (TOp.callB (CallAs.func ent100 rfl rfl) (Bors.cons (Bor.pure rfl) (Bors.cons (Bor.pure rfl) Bors.nil)) rfl rfl (x_strings_Repeat_ok lit_53dfb3bc x3 r4 hf4)) rfl ?_
  refine ROps.l (r := AV.str r2) rfl rfl rfl (LOp.move rfl rfl) ?_
  refine ROps.l (r := AV.str t5) rfl rfl rfl (LOp.cats rfl rfl rfl hs5) ?_
  refine ROps.l (r := AV.str t5) rfl rfl rfl (LOp.assign rfl rfl) ?_
  refine ROps.nil ?_
  refine RunC.ret ?_
  have hq := Option.some.inj h
  subst q0
  exact bodyQ.pure (.inr rfl) rfl (Res.one rfl (RV.tmp rfl))
noncomputable def i_numbersText_b1 (a0 : List F) (L3 : List ByteArray) (v4 : Int) : Option (LR ((List ByteArray) × Int) ((List ByteArray)) (ByteArray)) :=
  bsel (decide (v4 < (a0.length : Int))) (
    obind (at? a0 v4) fun (e5 : F) =>
    obind (i_digitsOf e5) fun (r6 : ByteArray) =>
    need (apok 16 L3.length 1) <|
    olet (IntKind.i64.wrap (v4 + 1)) fun (x7 : Int) =>
    some (LR.next ((L3 ++ ([r6] : List ByteArray)), x7))) (
    some (LR.out L3))
noncomputable def i_numbersText_s1 (a0 : List F) : ((List ByteArray) × Int) → Option (LR ((List ByteArray) × Int) ((List ByteArray)) (ByteArray)) := fun s => i_numbersText_b1 a0 s.1 s.2
noncomputable def i_numbersText_k1 (L10 : List ByteArray) : Option (ByteArray) :=
  obind (i_joined L10) fun (r11 : ByteArray) =>
  some r11
noncomputable def i_numbersText (a0 : List F) : Option (ByteArray) :=
  obind (loopM (i_numbersText_s1 a0) (([] : List ByteArray), 0)) fun z => osum z (fun e => i_numbersText_k1 e) (fun r => some r)
theorem i_numbersText_ok (a0 : List F) (q0 : ByteArray) (h : i_numbersText a0 = some q0) : Ev Tryd.prog 60 [AV.sl a0.length (a0.map AV.f32)] [] (AV.str q0) [] := by
  refine Ev.start Tryd.func60 rfl rfl 2 (τ := [(0, AV.sl a0.length (a0.map AV.f32))]) rfl (Γ' := [⟨0, none⟩, ⟨0, none⟩]) rfl (n := 43) rfl (g := 0) rfl (fun _ => rfl) ?_
  unfold i_numbersText at h
  refine RunC.seq ?_
  refine RunC.regionW ?_
  refine ROps.l (r := AV.str lit_99ba06bc) rfl rfl rfl (LOp.assign rfl rfl) ?_
  refine ROps.nil ?_
  refine RunC.seq ?_
  refine RunC.regionW ?_
  refine ROps.d (r := AV.oref 0 1 0 0) (fs := [(0, (([] : List ByteArray).map AV.str))]) (Γ' := [⟨1, some (([] : List ByteArray).map AV.str)⟩, ⟨0, none⟩]) rfl rfl rfl (TOp.buildSlice_o (g := ⟨0, none⟩) (za := AV.str lit_99ba06bc) (qs := []) 0 rfl und35 siz9 zer9 rfl zel9 rfl rfl trivial rfl) rfl ?_
  refine ROps.l (r := AV.oref 0 1 0 0) rfl rfl rfl (LOp.assign rfl rfl) ?_
  refine ROps.nil ?_
  refine RunC.seq ?_
  refine RunC.seq ?_
  refine RunC.regionW ?_
  refine ROps.l (r := AV.sl a0.length (a0.map AV.f32)) rfl rfl rfl (LOp.move rfl rfl) ?_
  refine ROps.l (r := AV.i64 (a0.length : Int)) rfl rfl rfl (LOp.len_sl und43 rfl rfl) ?_
  refine ROps.l (r := AV.i64 0) rfl rfl rfl (LOp.move rfl rfl) ?_
  refine ROps.nil ?_
  obtain ⟨z2, hz_2, h⟩ := obind_some h
  refine RunC.cutN (fun τ Γ => ∃ (L10 : List ByteArray) (u8 : Nat) (u9 : Nat), WeakLe τ [(3, AV.oref 0 u8 0 L10.length)] ∧ DeadLe Γ [⟨u8, some (L10.map AV.str)⟩, ⟨u9, none⟩] ∧ z2 = .inl L10) ?_ ?_
  · refine RunC.block (RunC.loop (RunL.loopM (x := z2) (i_numbersText_s1 a0) (fun (s : (List ByteArray) × Int) τ Γ => ∃ (u1 : Nat) (u2 : Nat), WeakLe τ [(3, AV.oref 0 u1 0 s.1.length), (7, AV.sl a0.length (a0.map AV.f32)), (8, AV.i64 (a0.length : Int)), (9, AV.i64 s.2)] ∧ DeadLe Γ [⟨u1, some (s.1.map AV.str)⟩, ⟨u2, none⟩]) ?_ _ _ _ hz_2 ⟨1, 0, ⟨(ALe.refl _), (ALe.refl _), (ALe.refl _), (ALe.refl _), trivial⟩, ⟨⟨rfl, .inr rfl⟩, ⟨rfl, .inl rfl⟩, trivial⟩⟩))
    rintro ⟨L3, v4⟩ τ2 Γ2 y2_ ⟨u1, u2, hw2, hd2⟩ h2_ ho2 hr2
    refine RunC.wl (τ' := [(3, AV.oref 0 u1 0 L3.length), (7, AV.sl a0.length (a0.map AV.f32)), (8, AV.i64 (a0.length : Int)), (9, AV.i64 v4)]) (Γ' := [⟨u1, some (L3.map AV.str)⟩, ⟨u2, none⟩]) hw2 hd2 ?_
    replace h2_ : i_numbersText_b1 a0 L3 v4 = some y2_ := h2_
    unfold i_numbersText_b1 at h2_
    refine RunC.seq ?_
    rcases bsel_some h2_ with ⟨hc1, h2_⟩ | ⟨hc1, h2_⟩
    · refine RunC.regionW ?_
      refine ROps.l (r := AV.b true) rfl rfl rfl (LOp.eqb (LOp.lss rfl rfl rfl) hc1) ?_
      refine ROps.nil ?_
      refine RunC.seq ?_
      refine RunC.cond_true rfl rfl ?_
      refine RunC.skip ?_
      refine RunC.seq ?_
      refine RunC.block ?_
      refine RunC.seq ?_
      obtain ⟨e5, he2, h2_⟩ := obind_some h2_
      refine RunC.regionW ?_
      refine ROps.l (r := AV.ptr [AV.f32 e5]) rfl rfl rfl (LOp.le (LOp.ix (f := AV.f32) und43 siz115 rfl rfl rfl rfl he2) ALe.ptr) ?_
      refine ROps.l (r := AV.f32 e5) rfl rfl rfl (LOp.load1 agg115 rfl rfl) ?_
      refine ROps.l (r := AV.f32 e5) rfl rfl rfl (LOp.assign rfl rfl) ?_
      refine ROps.nil ?_
      obtain ⟨r6, hf3, h2_⟩ := obind_some h2_
      obtain ⟨hm4, h2_⟩ := need_some h2_
      refine RunC.regionW ?_
      refine ROps.l (r := AV.oref 0 u1 0 L3.length) rfl rfl rfl (LOp.move rfl rfl) ?_
      refine ROps.l (r := AV.f32 e5) rfl rfl rfl (LOp.move rfl rfl) ?_
      refine ROps.d (r := AV.str r6) (fs := []) (Γ' := [⟨u1, some (L3.map AV.str)⟩, ⟨u2, none⟩]) rfl rfl rfl (TOp.callB (CallAs.func ent83 rfl rfl) (Bors.cons (Bor.pure rfl) Bors.nil) rfl rfl (i_digitsOf_ok e5 r6 hf3)) rfl ?_
      refine ROps.d (r := AV.oref 1 (u2 + 1) 0 1) (fs := [(1, (([r6] : List ByteArray).map AV.str))]) (Γ' := [⟨u1, some (L3.map AV.str)⟩, ⟨(u2 + 1), some (([r6] : List ByteArray).map AV.str)⟩]) rfl rfl rfl (TOp.buildSlice_o (g := ⟨u2, none⟩) (za := AV.str lit_99ba06bc) (qs := [(0, [AV.str r6])]) 1 rfl und35 siz9 zer9 rfl zel9 rfl rfl ⟨rfl, ⟨_, ALe.refl _, rfl⟩, trivial⟩ rfl) rfl ?_
      refine ROps.app (f := AV.str) (xs := L3) (ys := ([r6] : List ByteArray)) (Γ' := [⟨(u1 + 1), some ((L3 ++ ([r6] : List ByteArray)).map AV.str)⟩, ⟨(u2 + 1), some (([r6] : List ByteArray).map AV.str)⟩]) rfl pun35 inf9 rfl rfl rfl rfl rfl rfl rfl rfl rfl (by simp) (ReadAs.own rfl (by simp)) (ones_map (fun _ => rfl)) (ap_by hm4) (ap_mx hm4) rfl ?_
      refine ROps.l (r := AV.oref 0 (u1 + 1) 0 (L3.length + 1)) rfl rfl rfl (LOp.assign rfl rfl) ?_
      refine ROps.nil ?_
      refine RunC.wl (τ' := [(3, AV.oref 0 (u1 + 1) 0 (L3.length + 1)), (7, AV.sl a0.length (a0.map AV.f32)), (8, AV.i64 (a0.length : Int)), (9, AV.i64 v4)]) (Γ' := [⟨(u1 + 1), some ((L3 ++ ([r6] : List ByteArray)).map AV.str)⟩, ⟨(u2 + 1), none⟩]) ⟨(ALe.refl _), (ALe.refl _), (ALe.refl _), (ALe.refl _), trivial⟩ ⟨⟨rfl, .inr rfl⟩, ⟨rfl, .inl rfl⟩, trivial⟩ ?_
      obtain ⟨x7, hx5, h2_⟩ := olet_some h2_
      refine RunC.regionW ?_
      refine ROps.l (r := AV.i64 x7) rfl rfl rfl (LOp.eqr (LOp.add rfl rfl rfl) (congrArg (AV.ik .i64) hx5)) ?_
      refine ROps.l (r := AV.i64 x7) rfl rfl rfl (LOp.move rfl rfl) ?_
      refine ROps.nil ?_
      cases Option.some.inj h2_
      exact ⟨_, rfl, (u1 + 1), (u2 + 1), ⟨(ALe.eq (by rw [(app_len rfl rfl)] <;> rfl)), (ALe.refl _), (ALe.refl _), (ALe.refl _), trivial⟩, ⟨⟨rfl, .inr rfl⟩, ⟨rfl, .inl rfl⟩, trivial⟩⟩
    · refine RunC.regionW ?_
      refine ROps.l (r := AV.b false) rfl rfl rfl (LOp.eqb (LOp.lss rfl rfl rfl) hc1) ?_
      refine ROps.nil ?_
      refine RunC.seq ?_
      refine RunC.cond_false rfl rfl ?_
      refine RunC.exit ?_
      cases Option.some.inj h2_
      have hx := ho2 _ rfl
      exact ⟨L3, u1, u2, ⟨(ALe.refl _), trivial⟩, ⟨⟨rfl, .inr rfl⟩, ⟨rfl, .inl rfl⟩, trivial⟩, hx⟩
  · rintro τ3 Γ3 ⟨L10, u8, u9, hw3, hd3, rfl⟩
    refine RunC.wl (τ' := [(3, AV.oref 0 u8 0 L10.length)]) (Γ' := [⟨u8, some (L10.map AV.str)⟩, ⟨u9, none⟩]) hw3 hd3 ?_
    replace h : i_numbersText_k1 L10 = some q0 := h
    unfold i_numbersText_k1 at h
    refine RunC.seq ?_
    obtain ⟨r11, hf6, h⟩ := obind_some h
    refine RunC.regionW ?_
    refine ROps.l (r := AV.oref 0 u8 0 L10.length) rfl rfl rfl (LOp.move rfl rfl) ?_
    refine ROps.d (r := AV.str r11) (fs := []) (Γ' := [⟨u8, some (L10.map AV.str)⟩, ⟨u9, none⟩]) rfl rfl rfl (TOp.callB (CallAs.func ent71 rfl rfl) (Bors.cons (Bor.own (f := AV.str) (fun _ => rfl) rfl rfl) Bors.nil) rfl rfl (i_joined_ok L10 r11 hf6)) rfl ?_
    refine ROps.l (r := AV.str r11) rfl rfl rfl (LOp.assign rfl rfl) ?_
    refine ROps.nil ?_
    refine RunC.ret ?_
    have hq := Option.some.inj h
    subst q0
    exact bodyQ.pure (.inr rfl) rfl (Res.one rfl (RV.tmp rfl))
noncomputable def i_MatrixText (a0 : Int) (a1 : Int) (a2 : List F) : Option (ByteArray × Bool) :=
  obind (i_ValidMatrix a0 a1 a2) fun (r1 : Bool) =>
  bsel r1 (
    obind (i_listText ([a0, a1] : List Int)) fun (r2 : ByteArray) =>
    obind (cats? r2 lit_b7340269) fun (t3 : ByteArray) =>
    obind (i_numbersText a2) fun (r4 : ByteArray) =>
    obind (cats? t3 r4) fun (t5 : ByteArray) =>
    some (t5, true)) (
    some (lit_99ba06bc, false))
theorem i_MatrixText_ok (a0 : Int) (a1 : Int) (a2 : List F) (q0 : ByteArray) (q1 : Bool) (h : i_MatrixText a0 a1 a2 = some (q0, q1)) : Ev Tryd.prog 33 [AV.agg [AV.i64 a0, AV.i64 a1, AV.sl a2.length (a2.map AV.f32)]] [] (AV.tup [AV.str q0, AV.b q1]) [] := by
  refine Ev.start Tryd.func33 rfl rfl 0 (τ := [(0, AV.agg [AV.i64 a0, AV.i64 a1, AV.sl a2.length (a2.map AV.f32)])]) rfl (Γ' := []) rfl (n := 37) rfl (g := 0) rfl (fun _ => rfl) ?_
  unfold i_MatrixText at h
  refine RunC.seq ?_
  refine RunC.regionW ?_
  refine ROps.d (r := AV.ptr [AV.i64 a0, AV.i64 a1, AV.sl a2.length (a2.map AV.f32)]) (fs := []) (Γ' := []) rfl rfl rfl (TOp.box_s rfl rfl rfl) rfl ?_
  refine ROps.l (r := AV.str lit_99ba06bc) rfl rfl rfl (LOp.assign rfl rfl) ?_
  refine ROps.l (r := AV.b false) rfl rfl rfl (LOp.assign rfl rfl) ?_
  refine ROps.nil ?_
  refine RunC.seq ?_
  refine RunC.seq ?_
  obtain ⟨r1, hf1, h⟩ := obind_some h
  rcases bsel_some h with ⟨hc2, h⟩ | ⟨hc2, h⟩
  · refine RunC.regionW ?_
    refine ROps.l (r := AV.agg [AV.i64 a0, AV.i64 a1, AV.sl a2.length (a2.map AV.f32)]) rfl rfl rfl (LOp.loadAgg agg56 siz56 rfl rfl rfl rfl) ?_
    refine ROps.d (r := AV.b true) (fs := []) (Γ' := []) rfl rfl rfl (TOp.eqb (TOp.callB (CallAs.func ent64 rfl rfl) (Bors.cons (Bor.agg (Bors.cons (Bor.pure rfl) (Bors.cons (Bor.pure rfl) (Bors.cons (Bor.sl (fun _ => rfl)) Bors.nil)))) Bors.nil) rfl rfl (i_ValidMatrix_ok a0 a1 a2 r1 hf1)) hc2) rfl ?_
    refine ROps.l (r := AV.b false) rfl rfl rfl (LOp.eqb (LOp.not rfl rfl) rfl) ?_
    refine ROps.nil ?_
    refine RunC.cond_false rfl rfl ?_
    refine RunC.skip ?_
    refine RunC.seq ?_
    obtain ⟨r2, hf3, h⟩ := obind_some h
    obtain ⟨t3, hs4, h⟩ := obind_some h
    obtain ⟨r4, hf5, h⟩ := obind_some h
    obtain ⟨t5, hs6, h⟩ := obind_some h
    refine RunC.region_draw (Γ' := []) 13 mixed 
      (TR.l (r := AV.ptr [AV.i64 a0, AV.i64 a1, AV.sl a2.length (a2.map AV.f32)]) rfl rfl (LOp.fap und56 rfl siz2 rfl rfl rfl) <|
      (TR.l (r := AV.i64 a0) rfl rfl (LOp.load1 agg2 rfl rfl) <|
      (TR.l (r := AV.ptr [AV.i64 a1, AV.sl a2.length (a2.map AV.f32)]) rfl rfl (LOp.fap und56 rfl siz2 rfl rfl rfl) <|
      (TR.l (r := AV.i64 a1) rfl rfl (LOp.load1 agg2 rfl rfl) <|
      (TR.d (r := AV.sl ([a0, a1] : List Int).length (([a0, a1] : List Int).map AV.i64)) (fs := []) rfl rfl (TOp.buildSlice_s (za := AV.i64 0) (qs := [(0, [AV.i64 a0]), (1, [AV.i64 a1])]) und25 siz2 zer2 rfl zel2 rfl rfl ⟨rfl, ⟨_, ALe.refl _, rfl⟩, ⟨rfl, ⟨_, ALe.refl _, rfl⟩, trivial⟩⟩ rfl) <|
      (TR.d (r := AV.str r2) (fs := []) rfl rfl (TOp.callB (CallAs.func ent43 rfl rfl) (Bors.cons (Bor.sl (fun _ => rfl)) Bors.nil) rfl rfl (i_listText_ok ([a0, a1] : List Int) r2 hf3)) <|
      (TR.l (r := AV.str t3) rfl rfl (LOp.cats rfl rfl rfl hs4) <|
      (TR.l (r := AV.ptr [AV.sl a2.length (a2.map AV.f32)]) rfl rfl (LOp.fap und56 rfl siz43 rfl rfl rfl) <|
      (TR.l (r := AV.sl a2.length (a2.map AV.f32)) rfl rfl (LOp.load1 agg43 rfl rfl) <|
      (TR.d (r := AV.str r4) (fs := []) rfl rfl (TOp.callB (CallAs.func ent60 rfl rfl) (Bors.cons (Bor.sl (fun _ => rfl)) Bors.nil) rfl rfl (i_numbersText_ok a2 r4 hf5)) <|
      (TR.l (r := AV.str t5) rfl rfl (LOp.cats rfl rfl rfl hs6) <|
      (TR.l (r := AV.str t5) rfl rfl (LOp.assign rfl rfl) <|
      (TR.l (r := AV.b true) rfl rfl (LOp.assign rfl rfl) <|
      TR.nil))))))))))))) rfl (by kernel_rfl) rfl fills_nil rfl ?_
    iterate 13 refine ROps.dropS ?_
    refine ROps.drop0 ?_
    refine ROps.nil ?_
    refine RunC.ret ?_
    have hq := Option.some.inj h
    obtain ⟨hq0, hq⟩ := Prod.mk.inj hq
    subst q0
    subst q1
    exact bodyQ.pure (.inr rfl) rfl (Res.two rfl (RV.tmp rfl) (RV.tmp rfl))
  · refine RunC.regionW ?_
    refine ROps.l (r := AV.agg [AV.i64 a0, AV.i64 a1, AV.sl a2.length (a2.map AV.f32)]) rfl rfl rfl (LOp.loadAgg agg56 siz56 rfl rfl rfl rfl) ?_
    refine ROps.d (r := AV.b false) (fs := []) (Γ' := []) rfl rfl rfl (TOp.eqb (TOp.callB (CallAs.func ent64 rfl rfl) (Bors.cons (Bor.agg (Bors.cons (Bor.pure rfl) (Bors.cons (Bor.pure rfl) (Bors.cons (Bor.sl (fun _ => rfl)) Bors.nil)))) Bors.nil) rfl rfl (i_ValidMatrix_ok a0 a1 a2 r1 hf1)) hc2) rfl ?_
    refine ROps.l (r := AV.b true) rfl rfl rfl (LOp.eqb (LOp.not rfl rfl) rfl) ?_
    refine ROps.nil ?_
    refine RunC.cond_true rfl rfl ?_
    refine RunC.seq ?_
    refine RunC.regionW ?_
    refine ROps.l (r := AV.str lit_99ba06bc) rfl rfl rfl (LOp.assign rfl rfl) ?_
    refine ROps.l (r := AV.b false) rfl rfl rfl (LOp.assign rfl rfl) ?_
    refine ROps.nil ?_
    refine RunC.ret ?_
    have hq := Option.some.inj h
    obtain ⟨hq0, hq⟩ := Prod.mk.inj hq
    subst q0
    subst q1
    exact bodyQ.pure (.inr rfl) rfl (Res.two rfl (RV.tmp rfl) (RV.tmp rfl))
noncomputable def w_sameFloat_k1 (a0 : F) (a1 : F) : Option (Bool) :=
  some (feq .f64 a0 a1)
noncomputable def w_sameFloat (a0 : F) (a1 : F) : Option (Bool) :=
  bsel (!feq .f64 a0 a0) (
    some (!feq .f64 a1 a1)) (
    bsel (!feq .f64 a1 a1) (
      some false) (
      bsel (feq .f64 a0 (some 0)) (
        bsel (feq .f64 a1 (some 0)) (
          olet (fop .quo .f64 (some 4607182418800017408) a0) fun (x1 : F) =>
          olet (fop .quo .f64 (some 4607182418800017408) a1) fun (x2 : F) =>
          some ((flt .f64 (some 0) x1) == (flt .f64 (some 0) x2))) (
          w_sameFloat_k1 a0 a1)) (
        w_sameFloat_k1 a0 a1)))
theorem w_sameFloat_ok (a0 : F) (a1 : F) (q0 : Bool) (h : w_sameFloat a0 a1 = some q0) : Ev Tryd.prog 84 [AV.f64 a0, AV.f64 a1] [] (AV.b q0) [] := by
  refine Ev.start Tryd.func84 rfl rfl 0 (τ := [(0, AV.f64 a0), (1, AV.f64 a1)]) rfl (Γ' := []) rfl (n := 75) rfl (g := 0) rfl (fun _ => rfl) ?_
  unfold w_sameFloat at h
  refine RunC.seq ?_
  refine RunC.regionW ?_
  refine ROps.l (r := AV.b false) rfl rfl rfl (LOp.assign rfl rfl) ?_
  refine ROps.nil ?_
  refine RunC.seq ?_
  refine RunC.seq ?_
  rcases bsel_some h with ⟨hc1, h⟩ | ⟨hc1, h⟩
  · refine RunC.regionW ?_
    refine ROps.l (r := AV.f64 a0) rfl rfl rfl (LOp.move rfl rfl) ?_
    refine ROps.l (r := AV.f64 a0) rfl rfl rfl (LOp.move rfl rfl) ?_
    refine ROps.l (r := AV.b true) rfl rfl rfl (LOp.eqb (LOp.fne rfl (OpF.tmp rfl) (OpF.tmp rfl)) hc1) ?_
    refine ROps.l (r := AV.b true) rfl rfl rfl (LOp.move rfl rfl) ?_
    refine ROps.s rfl rfl rfl ?_
    refine ROps.s rfl rfl rfl ?_
    refine ROps.s rfl rfl rfl ?_
    refine ROps.l (r := AV.b true) rfl rfl rfl (LOp.pick_true rfl rfl rfl) ?_
    refine ROps.nil ?_
    refine RunC.cond_true rfl rfl ?_
    refine RunC.seq ?_
    refine RunC.regionW ?_
    refine ROps.l (r := AV.f64 a0) rfl rfl rfl (LOp.move rfl rfl) ?_
    refine ROps.l (r := AV.f64 a0) rfl rfl rfl (LOp.move rfl rfl) ?_
    refine ROps.l (r := AV.b true) rfl rfl rfl (LOp.eqb (LOp.fne rfl (OpF.tmp rfl) (OpF.tmp rfl)) hc1) ?_
    refine ROps.l (r := AV.b true) rfl rfl rfl (LOp.move rfl rfl) ?_
    refine ROps.l (r := AV.f64 a1) rfl rfl rfl (LOp.move rfl rfl) ?_
    refine ROps.l (r := AV.f64 a1) rfl rfl rfl (LOp.move rfl rfl) ?_
    refine ROps.l (r := AV.b (!feq .f64 a1 a1)) rfl rfl rfl (LOp.fne rfl (OpF.tmp rfl) (OpF.tmp rfl)) ?_
    refine ROps.l (r := AV.b (!feq .f64 a1 a1)) rfl rfl rfl (LOp.pick_true rfl rfl rfl) ?_
    refine ROps.l (r := AV.b (!feq .f64 a1 a1)) rfl rfl rfl (LOp.assign rfl rfl) ?_
    refine ROps.nil ?_
    refine RunC.ret ?_
    have hq := Option.some.inj h
    subst q0
    exact bodyQ.pure (.inr rfl) rfl (Res.one rfl (RV.tmp rfl))
  · rcases bsel_some h with ⟨hc2, h⟩ | ⟨hc2, h⟩
    · refine RunC.regionW ?_
      refine ROps.l (r := AV.f64 a0) rfl rfl rfl (LOp.move rfl rfl) ?_
      refine ROps.l (r := AV.f64 a0) rfl rfl rfl (LOp.move rfl rfl) ?_
      refine ROps.l (r := AV.b false) rfl rfl rfl (LOp.eqb (LOp.fne rfl (OpF.tmp rfl) (OpF.tmp rfl)) hc1) ?_
      refine ROps.l (r := AV.b false) rfl rfl rfl (LOp.move rfl rfl) ?_
      refine ROps.l (r := AV.f64 a1) rfl rfl rfl (LOp.move rfl rfl) ?_
      refine ROps.l (r := AV.f64 a1) rfl rfl rfl (LOp.move rfl rfl) ?_
      refine ROps.l (r := AV.b true) rfl rfl rfl (LOp.eqb (LOp.fne rfl (OpF.tmp rfl) (OpF.tmp rfl)) hc2) ?_
      refine ROps.l (r := AV.b true) rfl rfl rfl (LOp.pick_false rfl rfl rfl) ?_
      refine ROps.nil ?_
      refine RunC.cond_true rfl rfl ?_
      refine RunC.seq ?_
      refine RunC.regionW ?_
      refine ROps.l (r := AV.f64 a0) rfl rfl rfl (LOp.move rfl rfl) ?_
      refine ROps.l (r := AV.f64 a0) rfl rfl rfl (LOp.move rfl rfl) ?_
      refine ROps.l (r := AV.b false) rfl rfl rfl (LOp.eqb (LOp.fne rfl (OpF.tmp rfl) (OpF.tmp rfl)) hc1) ?_
      refine ROps.l (r := AV.b false) rfl rfl rfl (LOp.move rfl rfl) ?_
      refine ROps.s rfl rfl rfl ?_
      refine ROps.s rfl rfl rfl ?_
      refine ROps.s rfl rfl rfl ?_
      refine ROps.l (r := AV.b false) rfl rfl rfl (LOp.pick_false rfl rfl rfl) ?_
      refine ROps.l (r := AV.b false) rfl rfl rfl (LOp.assign rfl rfl) ?_
      refine ROps.nil ?_
      refine RunC.ret ?_
      have hq := Option.some.inj h
      subst q0
      exact bodyQ.pure (.inr rfl) rfl (Res.one rfl (RV.tmp rfl))
    · refine RunC.regionW ?_
      refine ROps.l (r := AV.f64 a0) rfl rfl rfl (LOp.move rfl rfl) ?_
      refine ROps.l (r := AV.f64 a0) rfl rfl rfl (LOp.move rfl rfl) ?_
      refine ROps.l (r := AV.b false) rfl rfl rfl (LOp.eqb (LOp.fne rfl (OpF.tmp rfl) (OpF.tmp rfl)) hc1) ?_
      refine ROps.l (r := AV.b false) rfl rfl rfl (LOp.move rfl rfl) ?_
      refine ROps.l (r := AV.f64 a1) rfl rfl rfl (LOp.move rfl rfl) ?_
      refine ROps.l (r := AV.f64 a1) rfl rfl rfl (LOp.move rfl rfl) ?_
      refine ROps.l (r := AV.b false) rfl rfl rfl (LOp.eqb (LOp.fne rfl (OpF.tmp rfl) (OpF.tmp rfl)) hc2) ?_
      refine ROps.l (r := AV.b false) rfl rfl rfl (LOp.pick_false rfl rfl rfl) ?_
      refine ROps.nil ?_
      refine RunC.cond_false rfl rfl ?_
      refine RunC.skip ?_
      refine RunC.seq ?_
      refine RunC.cutN (fun τ Γ =>  WeakLe τ [(0, AV.f64 a0), (1, AV.f64 a1)] ∧ DeadLe Γ [] ∧ w_sameFloat_k1 a0 a1 = some q0) ?_ ?_
      · refine RunC.seq ?_
        rcases bsel_some h with ⟨hc3, h⟩ | ⟨hc3, h⟩
        · rcases bsel_some h with ⟨hc4, h⟩ | ⟨hc4, h⟩
          · refine RunC.regionW ?_
            refine ROps.l (r := AV.f64 a0) rfl rfl rfl (LOp.move rfl rfl) ?_
            refine ROps.l (r := AV.b true) rfl rfl rfl (LOp.eqb (LOp.feq rfl (OpF.tmp rfl) (OpF.const rfl (by kernel_rfl) (by kernel_rfl))) hc3) ?_
            refine ROps.l (r := AV.b true) rfl rfl rfl (LOp.move rfl rfl) ?_
            refine ROps.l (r := AV.f64 a1) rfl rfl rfl (LOp.move rfl rfl) ?_
            refine ROps.l (r := AV.b true) rfl rfl rfl (LOp.eqb (LOp.feq rfl (OpF.tmp rfl) (OpF.const rfl (by kernel_rfl) (by kernel_rfl))) hc4) ?_
            refine ROps.l (r := AV.b true) rfl rfl rfl (LOp.pick_true rfl rfl rfl) ?_
            refine ROps.nil ?_
            refine RunC.wl (τ' := [(0, AV.f64 a0), (1, AV.f64 a1), (26, AV.b true)]) (Γ' := []) ⟨(ALe.refl _), (ALe.refl _), (ALe.refl _), trivial⟩ trivial ?_
            refine RunC.cond_true rfl rfl ?_
            refine RunC.seq ?_
            obtain ⟨x1, hx5, h⟩ := olet_some h
            obtain ⟨x2, hx6, h⟩ := olet_some h
            refine RunC.regionW ?_
            refine ROps.l (r := AV.f64 a0) rfl rfl rfl (LOp.move rfl rfl) ?_
            refine ROps.d (r := AV.f64 x1) (fs := []) (Γ' := []) rfl rfl rfl (TOp.eqr (TOp.fop (.inr (.inr (.inr rfl))) rfl (OpF.const rfl (by kernel_rfl) (by kernel_rfl)) (OpF.tmp rfl)) (congrArg (AV.f .f64) hx5)) rfl ?_
            refine ROps.l (r := AV.b (flt .f64 (some 0) x1)) rfl rfl rfl (LOp.fgt rfl (OpF.tmp rfl) (OpF.const rfl (by kernel_rfl) (by kernel_rfl))) ?_
            refine ROps.l (r := AV.f64 a1) rfl rfl rfl (LOp.move rfl rfl) ?_
            refine ROps.d (r := AV.f64 x2) (fs := []) (Γ' := []) rfl rfl rfl (TOp.eqr (TOp.fop (.inr (.inr (.inr rfl))) rfl (OpF.const rfl (by kernel_rfl) (by kernel_rfl)) (OpF.tmp rfl)) (congrArg (AV.f .f64) hx6)) rfl ?_
            refine ROps.l (r := AV.b (flt .f64 (some 0) x2)) rfl rfl rfl (LOp.fgt rfl (OpF.tmp rfl) (OpF.const rfl (by kernel_rfl) (by kernel_rfl))) ?_
            refine ROps.l (r := AV.b ((flt .f64 (some 0) x1) == (flt .f64 (some 0) x2))) rfl rfl rfl (LOp.eqlb pun4 rfl rfl rfl) ?_
            refine ROps.l (r := AV.b ((flt .f64 (some 0) x1) == (flt .f64 (some 0) x2))) rfl rfl rfl (LOp.assign rfl rfl) ?_
            refine ROps.nil ?_
            refine RunC.ret ?_
            have hq := Option.some.inj h
            subst q0
            exact bodyQ.pure (.inr rfl) rfl (Res.one rfl (RV.tmp rfl))
          · refine RunC.regionW ?_
            refine ROps.l (r := AV.f64 a0) rfl rfl rfl (LOp.move rfl rfl) ?_
            refine ROps.l (r := AV.b true) rfl rfl rfl (LOp.eqb (LOp.feq rfl (OpF.tmp rfl) (OpF.const rfl (by kernel_rfl) (by kernel_rfl))) hc3) ?_
            refine ROps.l (r := AV.b true) rfl rfl rfl (LOp.move rfl rfl) ?_
            refine ROps.l (r := AV.f64 a1) rfl rfl rfl (LOp.move rfl rfl) ?_
            refine ROps.l (r := AV.b false) rfl rfl rfl (LOp.eqb (LOp.feq rfl (OpF.tmp rfl) (OpF.const rfl (by kernel_rfl) (by kernel_rfl))) hc4) ?_
            refine ROps.l (r := AV.b false) rfl rfl rfl (LOp.pick_true rfl rfl rfl) ?_
            refine ROps.nil ?_
            refine RunC.wl (τ' := [(0, AV.f64 a0), (1, AV.f64 a1), (26, AV.b false)]) (Γ' := []) ⟨(ALe.refl _), (ALe.refl _), (ALe.refl _), trivial⟩ trivial ?_
            refine RunC.cond_false rfl rfl ?_
            refine RunC.skip ?_
            exact ⟨⟨(ALe.refl _), (ALe.refl _), trivial⟩, trivial, h⟩
        · refine RunC.regionW ?_
          refine ROps.l (r := AV.f64 a0) rfl rfl rfl (LOp.move rfl rfl) ?_
          refine ROps.l (r := AV.b false) rfl rfl rfl (LOp.eqb (LOp.feq rfl (OpF.tmp rfl) (OpF.const rfl (by kernel_rfl) (by kernel_rfl))) hc3) ?_
          refine ROps.l (r := AV.b false) rfl rfl rfl (LOp.move rfl rfl) ?_
          refine ROps.s rfl rfl rfl ?_
          refine ROps.s rfl rfl rfl ?_
          refine ROps.l (r := AV.b false) rfl rfl rfl (LOp.pick_false rfl rfl rfl) ?_
          refine ROps.nil ?_
          refine RunC.wl (τ' := [(0, AV.f64 a0), (1, AV.f64 a1), (26, AV.b false)]) (Γ' := []) ⟨(ALe.refl _), (ALe.refl _), (ALe.refl _), trivial⟩ trivial ?_
          refine RunC.cond_false rfl rfl ?_
          refine RunC.skip ?_
          exact ⟨⟨(ALe.refl _), (ALe.refl _), trivial⟩, trivial, h⟩
      · rintro τ2 Γ2 ⟨hw2, hd2, h⟩
        refine RunC.wl (τ' := [(0, AV.f64 a0), (1, AV.f64 a1)]) (Γ' := []) hw2 hd2 ?_
        unfold w_sameFloat_k1 at h
        refine RunC.seq ?_
        refine RunC.regionW ?_
        refine ROps.l (r := AV.f64 a0) rfl rfl rfl (LOp.move rfl rfl) ?_
        refine ROps.l (r := AV.f64 a1) rfl rfl rfl (LOp.move rfl rfl) ?_
        refine ROps.l (r := AV.b (feq .f64 a0 a1)) rfl rfl rfl (LOp.feq rfl (OpF.tmp rfl) (OpF.tmp rfl)) ?_
        refine ROps.l (r := AV.b (feq .f64 a0 a1)) rfl rfl rfl (LOp.assign rfl rfl) ?_
        refine ROps.nil ?_
        refine RunC.ret ?_
        have hq := Option.some.inj h
        subst q0
        exact bodyQ.pure (.inr rfl) rfl (Res.one rfl (RV.tmp rfl))
noncomputable def w_eqFloat32S_b1 (a0 : List F) (a1 : List F) (v1 : Int) : Option (LR (Int) (Unit) (Bool)) :=
  bsel (decide (v1 < (a0.length : Int))) (
    obind (at? a0 v1) fun (e2 : F) =>
    olet (fwiden e2) fun (x3 : F) =>
    obind (at? a1 v1) fun (e4 : F) =>
    olet (fwiden e4) fun (x5 : F) =>
    obind (w_sameFloat x3 x5) fun (r6 : Bool) =>
    bsel r6 (
      olet (IntKind.i64.wrap (v1 + 1)) fun (x7 : Int) =>
      some (LR.next x7)) (
      some (LR.ret false))) (
    some (LR.out ()))
noncomputable def w_eqFloat32S_s1 (a0 : List F) (a1 : List F) : (Int) → Option (LR (Int) (Unit) (Bool)) := fun s => w_eqFloat32S_b1 a0 a1 s
noncomputable def w_eqFloat32S_k1  : Option (Bool) :=
  some true
noncomputable def w_eqFloat32S (a0 : List F) (a1 : List F) : Option (Bool) :=
  bsel (!decide ((a0.length : Int) = (a1.length : Int))) (
    some false) (
    obind (loopM (w_eqFloat32S_s1 a0 a1) 0) fun z => osum z (fun _ => w_eqFloat32S_k1) (fun r => some r))
theorem w_eqFloat32S_ok (a0 : List F) (a1 : List F) (q0 : Bool) (h : w_eqFloat32S a0 a1 = some q0) : Ev Tryd.prog 61 [AV.sl a0.length (a0.map AV.f32), AV.sl a1.length (a1.map AV.f32)] [] (AV.b q0) [] := by
  refine Ev.start Tryd.func61 rfl rfl 0 (τ := [(0, AV.sl a0.length (a0.map AV.f32)), (1, AV.sl a1.length (a1.map AV.f32))]) rfl (Γ' := []) rfl (n := 59) rfl (g := 0) rfl (fun _ => rfl) ?_
  unfold w_eqFloat32S at h
  refine RunC.seq ?_
  refine RunC.regionW ?_
  refine ROps.l (r := AV.b false) rfl rfl rfl (LOp.assign rfl rfl) ?_
  refine ROps.nil ?_
  refine RunC.seq ?_
  refine RunC.seq ?_
  rcases bsel_some h with ⟨hc1, h⟩ | ⟨hc1, h⟩
  · refine RunC.regionW ?_
    refine ROps.l (r := AV.sl a0.length (a0.map AV.f32)) rfl rfl rfl (LOp.move rfl rfl) ?_
    refine ROps.l (r := AV.i64 (a0.length : Int)) rfl rfl rfl (LOp.len_sl und43 rfl rfl) ?_
    refine ROps.l (r := AV.sl a1.length (a1.map AV.f32)) rfl rfl rfl (LOp.move rfl rfl) ?_
    refine ROps.l (r := AV.i64 (a1.length : Int)) rfl rfl rfl (LOp.len_sl und43 rfl rfl) ?_
    refine ROps.l (r := AV.b true) rfl rfl rfl (LOp.eqb (LOp.neq rfl rfl rfl) hc1) ?_
    refine ROps.nil ?_
    refine RunC.cond_true rfl rfl ?_
    refine RunC.seq ?_
    refine RunC.regionW ?_
    refine ROps.l (r := AV.b false) rfl rfl rfl (LOp.assign rfl rfl) ?_
    refine ROps.nil ?_
    refine RunC.ret ?_
    have hq := Option.some.inj h
    subst q0
    exact bodyQ.pure (.inr rfl) rfl (Res.one rfl (RV.tmp rfl))
  · refine RunC.regionW ?_
    refine ROps.l (r := AV.sl a0.length (a0.map AV.f32)) rfl rfl rfl (LOp.move rfl rfl) ?_
    refine ROps.l (r := AV.i64 (a0.length : Int)) rfl rfl rfl (LOp.len_sl und43 rfl rfl) ?_
    refine ROps.l (r := AV.sl a1.length (a1.map AV.f32)) rfl rfl rfl (LOp.move rfl rfl) ?_
    refine ROps.l (r := AV.i64 (a1.length : Int)) rfl rfl rfl (LOp.len_sl und43 rfl rfl) ?_
    refine ROps.l (r := AV.b false) rfl rfl rfl (LOp.eqb (LOp.neq rfl rfl rfl) hc1) ?_
    refine ROps.nil ?_
    refine RunC.cond_false rfl rfl ?_
    refine RunC.skip ?_
    refine RunC.seq ?_
    refine RunC.seq ?_
    refine RunC.regionW ?_
    refine ROps.l (r := AV.i64 0) rfl rfl rfl (LOp.assign rfl rfl) ?_
    refine ROps.nil ?_
    obtain ⟨z2, hz_2, h⟩ := obind_some h
    refine RunC.cutN (fun τ Γ => WeakLe τ [] ∧ DeadLe Γ [] ∧ z2 = .inl ()) ?_ ?_
    · refine RunC.block (RunC.loop (RunL.loopM (x := z2) (w_eqFloat32S_s1 a0 a1) (fun (s : Int) τ Γ => WeakLe τ [(0, AV.sl a0.length (a0.map AV.f32)), (1, AV.sl a1.length (a1.map AV.f32)), (5, AV.i64 s)] ∧ DeadLe Γ []) ?_ _ _ _ hz_2 ⟨⟨(ALe.refl _), (ALe.refl _), (ALe.refl _), trivial⟩, trivial⟩))
      rintro v1 τ2 Γ2 y2_ ⟨hw2, hd2⟩ h2_ ho2 hr2
      refine RunC.wl (τ' := [(0, AV.sl a0.length (a0.map AV.f32)), (1, AV.sl a1.length (a1.map AV.f32)), (5, AV.i64 v1)]) (Γ' := []) hw2 hd2 ?_
      replace h2_ : w_eqFloat32S_b1 a0 a1 v1 = some y2_ := h2_
      unfold w_eqFloat32S_b1 at h2_
      refine RunC.seq ?_
      refine RunC.seq ?_
      rcases bsel_some h2_ with ⟨hc2, h2_⟩ | ⟨hc2, h2_⟩
      · refine RunC.regionW ?_
        refine ROps.l (r := AV.i64 v1) rfl rfl rfl (LOp.move rfl rfl) ?_
        refine ROps.l (r := AV.sl a0.length (a0.map AV.f32)) rfl rfl rfl (LOp.move rfl rfl) ?_
        refine ROps.l (r := AV.i64 (a0.length : Int)) rfl rfl rfl (LOp.len_sl und43 rfl rfl) ?_
        refine ROps.l (r := AV.b true) rfl rfl rfl (LOp.eqb (LOp.lss rfl rfl rfl) hc2) ?_
        refine ROps.nil ?_
        refine RunC.cond_true rfl rfl ?_
        refine RunC.skip ?_
        refine RunC.seq ?_
        refine RunC.block ?_
        refine RunC.seq ?_
        obtain ⟨e2, he3, h2_⟩ := obind_some h2_
        obtain ⟨x3, hx4, h2_⟩ := olet_some h2_
        obtain ⟨e4, he5, h2_⟩ := obind_some h2_
        obtain ⟨x5, hx6, h2_⟩ := olet_some h2_
        obtain ⟨r6, hf7, h2_⟩ := obind_some h2_
        rcases bsel_some h2_ with ⟨hc8, h2_⟩ | ⟨hc8, h2_⟩
        · refine RunC.region_draw (Γ' := []) 12 mixed 
            (TR.l (r := AV.sl a0.length (a0.map AV.f32)) rfl rfl (LOp.move rfl rfl) <|
            (TR.l (r := AV.i64 v1) rfl rfl (LOp.move rfl rfl) <|
            (TR.l (r := AV.ptr [AV.f32 e2]) rfl rfl (LOp.le (LOp.ix (f := AV.f32) und43 siz115 rfl rfl rfl rfl he3) ALe.ptr) <|
            (TR.l (r := AV.f32 e2) rfl rfl (LOp.load1 agg115 rfl rfl) <|
            (TR.d (r := AV.f64 x3) (fs := []) rfl rfl (TOp.eqr (TOp.widen (src := 115) (dst := 121) ⟨_, pun115⟩ pun121 rfl (OpF.tmp rfl)) (congrArg (AV.f .f64) hx4)) <|
            (TR.l (r := AV.sl a1.length (a1.map AV.f32)) rfl rfl (LOp.move rfl rfl) <|
            (TR.l (r := AV.i64 v1) rfl rfl (LOp.move rfl rfl) <|
            (TR.l (r := AV.ptr [AV.f32 e4]) rfl rfl (LOp.le (LOp.ix (f := AV.f32) und43 siz115 rfl rfl rfl rfl he5) ALe.ptr) <|
            (TR.l (r := AV.f32 e4) rfl rfl (LOp.load1 agg115 rfl rfl) <|
            (TR.d (r := AV.f64 x5) (fs := []) rfl rfl (TOp.eqr (TOp.widen (src := 115) (dst := 121) ⟨_, pun115⟩ pun121 rfl (OpF.tmp rfl)) (congrArg (AV.f .f64) hx6)) <|
            (TR.d (r := AV.b true) (fs := []) rfl rfl (TOp.eqb (TOp.callB (CallAs.func ent84 rfl rfl) (Bors.cons (Bor.pure rfl) (Bors.cons (Bor.pure rfl) Bors.nil)) rfl rfl (w_sameFloat_ok x3 x5 r6 hf7)) hc8) <|
            (TR.l (r := AV.b false) rfl rfl (LOp.eqb (LOp.not rfl rfl) rfl) <|
            TR.nil)))))))))))) rfl (by kernel_rfl) rfl fills_nil rfl ?_
          iterate 12 refine ROps.dropS ?_
          refine ROps.drop0 ?_
          refine ROps.nil ?_
          refine RunC.wl (τ' := [(0, AV.sl a0.length (a0.map AV.f32)), (1, AV.sl a1.length (a1.map AV.f32)), (5, AV.i64 v1), (28, AV.b false)]) (Γ' := []) ⟨(ALe.refl _), (ALe.refl _), (ALe.refl _), (ALe.refl _), trivial⟩ trivial ?_
          refine RunC.cond_false rfl rfl ?_
          refine RunC.skip ?_
          obtain ⟨x7, hx9, h2_⟩ := olet_some h2_
          refine RunC.regionW ?_
          refine ROps.l (r := AV.i64 v1) rfl rfl rfl (LOp.move rfl rfl) ?_
          refine ROps.l (r := AV.i64 x7) rfl rfl rfl (LOp.eqr (LOp.add rfl rfl rfl) (congrArg (AV.ik .i64) hx9)) ?_
          refine ROps.l (r := AV.i64 x7) rfl rfl rfl (LOp.assign rfl rfl) ?_
          refine ROps.nil ?_
          cases Option.some.inj h2_
          exact ⟨_, rfl, ⟨(ALe.refl _), (ALe.refl _), (ALe.refl _), trivial⟩, trivial⟩
        · refine RunC.region_draw (Γ' := []) 12 mixed 
            (TR.l (r := AV.sl a0.length (a0.map AV.f32)) rfl rfl (LOp.move rfl rfl) <|
            (TR.l (r := AV.i64 v1) rfl rfl (LOp.move rfl rfl) <|
            (TR.l (r := AV.ptr [AV.f32 e2]) rfl rfl (LOp.le (LOp.ix (f := AV.f32) und43 siz115 rfl rfl rfl rfl he3) ALe.ptr) <|
            (TR.l (r := AV.f32 e2) rfl rfl (LOp.load1 agg115 rfl rfl) <|
            (TR.d (r := AV.f64 x3) (fs := []) rfl rfl (TOp.eqr (TOp.widen (src := 115) (dst := 121) ⟨_, pun115⟩ pun121 rfl (OpF.tmp rfl)) (congrArg (AV.f .f64) hx4)) <|
            (TR.l (r := AV.sl a1.length (a1.map AV.f32)) rfl rfl (LOp.move rfl rfl) <|
            (TR.l (r := AV.i64 v1) rfl rfl (LOp.move rfl rfl) <|
            (TR.l (r := AV.ptr [AV.f32 e4]) rfl rfl (LOp.le (LOp.ix (f := AV.f32) und43 siz115 rfl rfl rfl rfl he5) ALe.ptr) <|
            (TR.l (r := AV.f32 e4) rfl rfl (LOp.load1 agg115 rfl rfl) <|
            (TR.d (r := AV.f64 x5) (fs := []) rfl rfl (TOp.eqr (TOp.widen (src := 115) (dst := 121) ⟨_, pun115⟩ pun121 rfl (OpF.tmp rfl)) (congrArg (AV.f .f64) hx6)) <|
            (TR.d (r := AV.b false) (fs := []) rfl rfl (TOp.eqb (TOp.callB (CallAs.func ent84 rfl rfl) (Bors.cons (Bor.pure rfl) (Bors.cons (Bor.pure rfl) Bors.nil)) rfl rfl (w_sameFloat_ok x3 x5 r6 hf7)) hc8) <|
            (TR.l (r := AV.b true) rfl rfl (LOp.eqb (LOp.not rfl rfl) rfl) <|
            TR.nil)))))))))))) rfl (by kernel_rfl) rfl fills_nil rfl ?_
          iterate 12 refine ROps.dropS ?_
          refine ROps.drop0 ?_
          refine ROps.nil ?_
          refine RunC.wl (τ' := [(0, AV.sl a0.length (a0.map AV.f32)), (1, AV.sl a1.length (a1.map AV.f32)), (5, AV.i64 v1), (28, AV.b true)]) (Γ' := []) ⟨(ALe.refl _), (ALe.refl _), (ALe.refl _), (ALe.refl _), trivial⟩ trivial ?_
          refine RunC.cond_true rfl rfl ?_
          refine RunC.seq ?_
          refine RunC.regionW ?_
          refine ROps.l (r := AV.b false) rfl rfl rfl (LOp.assign rfl rfl) ?_
          refine ROps.nil ?_
          refine RunC.ret ?_
          cases Option.some.inj h2_
          have hx3_ := hr2 _ rfl
          subst hx3_
          have hq := Option.some.inj h
          subst q0
          exact bodyQ.pure (.inr rfl) rfl (Res.one rfl (RV.tmp rfl))
      · refine RunC.regionW ?_
        refine ROps.l (r := AV.i64 v1) rfl rfl rfl (LOp.move rfl rfl) ?_
        refine ROps.l (r := AV.sl a0.length (a0.map AV.f32)) rfl rfl rfl (LOp.move rfl rfl) ?_
        refine ROps.l (r := AV.i64 (a0.length : Int)) rfl rfl rfl (LOp.len_sl und43 rfl rfl) ?_
        refine ROps.l (r := AV.b false) rfl rfl rfl (LOp.eqb (LOp.lss rfl rfl rfl) hc2) ?_
        refine ROps.nil ?_
        refine RunC.cond_false rfl rfl ?_
        refine RunC.exit ?_
        cases Option.some.inj h2_
        have hx := ho2 _ rfl
        exact ⟨trivial, trivial, hx⟩
    · rintro τ4 Γ4 ⟨hw4, hd4, rfl⟩
      refine RunC.wl (τ' := []) (Γ' := []) hw4 hd4 ?_
      replace h : w_eqFloat32S_k1 = some q0 := h
      unfold w_eqFloat32S_k1 at h
      refine RunC.seq ?_
      refine RunC.regionW ?_
      refine ROps.l (r := AV.b true) rfl rfl rfl (LOp.assign rfl rfl) ?_
      refine ROps.nil ?_
      refine RunC.ret ?_
      have hq := Option.some.inj h
      subst q0
      exact bodyQ.pure (.inr rfl) rfl (Res.one rfl (RV.tmp rfl))
end Go.Proofs.YtddegdokdpeboaaDoor
