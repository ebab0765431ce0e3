/- Generated. -/
import Derived.Test.YtjbifkimffmhpaaTys
namespace Go.Proofs.Ytjbifkimffmhpaa
open Go Go.AM
set_option maxRecDepth 20000
set_option maxHeartbeats 4000000
set_option linter.unusedVariables false
set_option linter.unusedSimpArgs false
noncomputable def w_szFloat32S (a0 : List F) (a1 : Int) : Option (Int) :=
  olet (IntKind.i64.wrap (a1 - (a0.length : Int))) fun (x1 : Int) =>
  bsel (decide (x1 < 0)) (
    some (-1)) (
    some x1)
theorem w_szFloat32S_ok (a0 : List F) (a1 : Int) (q0 : Int) (h : w_szFloat32S a0 a1 = some q0) : Ev Try.prog 36 [AV.sl a0.length (a0.map AV.f32), AV.i64 a1] [] (AV.i64 q0) [] := by
  refine Ev.start Try.func36 rfl rfl 0 (τ := [(0, AV.sl a0.length (a0.map AV.f32)), (1, AV.i64 a1)]) rfl (Γ' := []) rfl (n := 12) rfl (g := 0) rfl ?_
  unfold w_szFloat32S at h
  refine RunC.seq ?_
  refine RunC.regionW ?_
  refine ROps.l (r := AV.i64 0) rfl rfl rfl (LOp.assign rfl rfl) ?_
  refine ROps.nil ?_
  refine RunC.seq ?_
  obtain ⟨x1, hx1, h⟩ := olet_some h
  refine RunC.regionW ?_
  refine ROps.l (r := AV.i64 a1) rfl rfl rfl (LOp.move rfl rfl) ?_
  refine ROps.l (r := AV.sl a0.length (a0.map AV.f32)) rfl rfl rfl (LOp.move rfl rfl) ?_
  refine ROps.l (r := AV.i64 (a0.length : Int)) rfl rfl rfl (LOp.len_sl und22 rfl rfl) ?_
  refine ROps.l (r := AV.i64 x1) rfl rfl rfl (LOp.eqr (LOp.sub rfl rfl rfl) (congrArg (AV.ik .i64) hx1)) ?_
  refine ROps.l (r := AV.i64 x1) rfl rfl rfl (LOp.assign rfl rfl) ?_
  refine ROps.nil ?_
  refine RunC.seq ?_
  refine RunC.seq ?_
  rcases bsel_some h with ⟨hc2, h⟩ | ⟨hc2, h⟩
  · refine RunC.regionW ?_
    refine ROps.l (r := AV.i64 x1) rfl rfl rfl (LOp.move rfl rfl) ?_
    refine ROps.l (r := AV.b true) rfl rfl rfl (LOp.eqb (LOp.lss rfl rfl rfl) hc2) ?_
    refine ROps.nil ?_
    refine RunC.cond_true rfl rfl ?_
    refine RunC.seq ?_
    refine RunC.regionW ?_
    refine ROps.l (r := AV.i64 (-1)) rfl rfl rfl (LOp.assign rfl rfl) ?_
    refine ROps.nil ?_
    refine RunC.ret ?_
    have hq := Option.some.inj h
    subst q0
    exact bodyQ.pure (.inr rfl) rfl (Res.one rfl (RV.tmp rfl))
  · refine RunC.regionW ?_
    refine ROps.l (r := AV.i64 x1) rfl rfl rfl (LOp.move rfl rfl) ?_
    refine ROps.l (r := AV.b false) rfl rfl rfl (LOp.eqb (LOp.lss rfl rfl rfl) hc2) ?_
    refine ROps.nil ?_
    refine RunC.cond_false rfl rfl ?_
    refine RunC.skip ?_
    refine RunC.seq ?_
    refine RunC.regionW ?_
    refine ROps.l (r := AV.i64 x1) rfl rfl rfl (LOp.move rfl rfl) ?_
    refine ROps.l (r := AV.i64 x1) rfl rfl rfl (LOp.assign rfl rfl) ?_
    refine ROps.nil ?_
    refine RunC.ret ?_
    have hq := Option.some.inj h
    subst q0
    exact bodyQ.pure (.inr rfl) rfl (Res.one rfl (RV.tmp rfl))
noncomputable def w_szMatrix (a0 : Int) (a1 : Int) (a2 : List F) (a3 : Int) : Option (Int) :=
  obind (w_szFloat32S a2 a3) fun (r1 : Int) =>
  bsel (decide (r1 < 0)) (
    some (-1)) (
    some r1)
theorem w_szMatrix_ok (a0 : Int) (a1 : Int) (a2 : List F) (a3 : Int) (q0 : Int) (h : w_szMatrix a0 a1 a2 a3 = some q0) : Ev Try.prog 9 [AV.agg [AV.i64 a0, AV.i64 a1, AV.sl a2.length (a2.map AV.f32)], AV.i64 a3] [] (AV.i64 q0) [] := by
  refine Ev.start Try.func9 rfl rfl 0 (τ := [(0, AV.agg [AV.i64 a0, AV.i64 a1, AV.sl a2.length (a2.map AV.f32)]), (1, AV.i64 a3)]) rfl (Γ' := []) rfl (n := 12) rfl (g := 0) rfl ?_
  unfold w_szMatrix at h
  refine RunC.seq ?_
  refine RunC.regionW ?_
  refine ROps.d (r := AV.ptr [AV.i64 a0, AV.i64 a1, AV.sl a2.length (a2.map AV.f32)]) (fs := []) (Γ' := []) rfl rfl rfl (TOp.box_s rfl rfl rfl) rfl ?_
  refine ROps.l (r := AV.i64 0) rfl rfl rfl (LOp.assign rfl rfl) ?_
  refine ROps.nil ?_
  refine RunC.seq ?_
  obtain ⟨r1, hf1, h⟩ := obind_some h
  refine RunC.regionW ?_
  refine ROps.l (r := AV.ptr [AV.sl a2.length (a2.map AV.f32)]) rfl rfl rfl (LOp.fap und24 rfl siz22 rfl rfl rfl) ?_
  refine ROps.l (r := AV.sl a2.length (a2.map AV.f32)) rfl rfl rfl (LOp.load1 agg22 rfl rfl) ?_
  refine ROps.l (r := AV.i64 a3) rfl rfl rfl (LOp.move rfl rfl) ?_
  refine ROps.d (r := AV.i64 r1) (fs := []) (Γ' := []) rfl rfl rfl (TOp.callB (CallAs.func ent36 rfl rfl) (Bors.cons (Bor.sl (fun _ => rfl)) (Bors.cons (Bor.pure rfl) Bors.nil)) rfl rfl (w_szFloat32S_ok a2 a3 r1 hf1)) rfl ?_
  refine ROps.l (r := AV.i64 r1) rfl rfl rfl (LOp.assign rfl rfl) ?_
  refine ROps.nil ?_
  refine RunC.seq ?_
  refine RunC.seq ?_
  rcases bsel_some h with ⟨hc2, h⟩ | ⟨hc2, h⟩
  · refine RunC.regionW ?_
    refine ROps.l (r := AV.i64 r1) rfl rfl rfl (LOp.move rfl rfl) ?_
    refine ROps.l (r := AV.b true) rfl rfl rfl (LOp.eqb (LOp.lss rfl rfl rfl) hc2) ?_
    refine ROps.nil ?_
    refine RunC.cond_true rfl rfl ?_
    refine RunC.seq ?_
    refine RunC.regionW ?_
    refine ROps.l (r := AV.i64 (-1)) rfl rfl rfl (LOp.assign rfl rfl) ?_
    refine ROps.nil ?_
    refine RunC.ret ?_
    have hq := Option.some.inj h
    subst q0
    exact bodyQ.pure (.inr rfl) rfl (Res.one rfl (RV.tmp rfl))
  · refine RunC.regionW ?_
    refine ROps.l (r := AV.i64 r1) rfl rfl rfl (LOp.move rfl rfl) ?_
    refine ROps.l (r := AV.b false) rfl rfl rfl (LOp.eqb (LOp.lss rfl rfl rfl) hc2) ?_
    refine ROps.nil ?_
    refine RunC.cond_false rfl rfl ?_
    refine RunC.skip ?_
    refine RunC.seq ?_
    refine RunC.regionW ?_
    refine ROps.l (r := AV.i64 r1) rfl rfl rfl (LOp.move rfl rfl) ?_
    refine ROps.l (r := AV.i64 r1) rfl rfl rfl (LOp.assign rfl rfl) ?_
    refine ROps.nil ?_
    refine RunC.ret ?_
    have hq := Option.some.inj h
    subst q0
    exact bodyQ.pure (.inr rfl) rfl (Res.one rfl (RV.tmp rfl))
noncomputable def w_toFloat32S_b1 (a0 : List F) (L1 : List F) (v3 : Int) : Option (LR ((List F) × Int) ((List F)) ((List F))) :=
  bsel (decide (v3 < (a0.length : Int))) (
    obind (at? a0 v3) fun (e4 : F) =>
    obind (setAt? L1 v3 e4) fun (L5 : List F) =>
    olet (IntKind.i64.wrap (v3 + 1)) fun (x6 : Int) =>
    some (LR.next (L5, x6))) (
    some (LR.out L1))
noncomputable def w_toFloat32S_s1 (a0 : List F) : ((List F) × Int) → Option (LR ((List F) × Int) ((List F)) ((List F))) := fun s => w_toFloat32S_b1 a0 s.1 s.2
noncomputable def w_toFloat32S_k1 (L7 : List F) : Option ((List F)) :=
  some L7
noncomputable def w_toFloat32S (a0 : List F) : Option ((List F)) :=
  need (mkok 4 (a0.length : Int)) <|
  obind (loopM (w_toFloat32S_s1 a0) ((List.replicate (a0.length : Int).toNat (some 0)), 0)) fun z => osum z (fun e => w_toFloat32S_k1 e) (fun r => some r)
theorem w_toFloat32S_ok (a0 : List F) (q0 : List F) (h : w_toFloat32S a0 = some q0) : Ev Try.prog 44 [AV.sl a0.length (a0.map AV.f32)] [] (AV.oref 0 0 0 q0.length) [⟨0, some (q0.map AV.f32)⟩] := by
  refine Ev.start Try.func44 rfl rfl 1 (τ := [(0, AV.sl a0.length (a0.map AV.f32))]) rfl (Γ' := [⟨0, none⟩]) rfl (n := 22) rfl (g := 0) rfl ?_
  unfold w_toFloat32S at h
  refine RunC.seq ?_
  refine RunC.regionW ?_
  refine ROps.l (r := AV.nilsl) rfl rfl rfl (LOp.assign rfl rfl) ?_
  refine ROps.nil ?_
  refine RunC.seq ?_
  obtain ⟨hm1, h⟩ := need_some h
  refine RunC.regionW ?_
  refine ROps.l (r := AV.sl a0.length (a0.map AV.f32)) rfl rfl rfl (LOp.move rfl rfl) ?_
  refine ROps.l (r := AV.i64 (a0.length : Int)) rfl rfl rfl (LOp.len_sl und22 rfl rfl) ?_
  refine ROps.d (r := AV.oref 0 1 0 ((a0.length : Int).toNat)) (fs := [(0, ((List.replicate (a0.length : Int).toNat (some 0)).map AV.f32))]) (Γ' := [⟨1, some ((List.replicate (a0.length : Int).toNat (some 0)).map AV.f32)⟩]) rfl rfl rfl (TOp.mkS (g := ⟨0, none⟩) (t := 22) (e := 25) (by_ := 4) (f := AV.f32) (zv := some 0) 0 rfl und22 tin25 rfl siz25 zer25 rfl zel25 rfl rfl rfl hm1) rfl ?_
  refine ROps.l (r := AV.oref 0 1 0 ((a0.length : Int).toNat)) rfl rfl rfl (LOp.assign rfl rfl) ?_
  refine ROps.nil ?_
  refine RunC.seq ?_
  refine RunC.seq ?_
  refine RunC.regionW ?_
  refine ROps.l (r := AV.i64 0) rfl rfl rfl (LOp.assign rfl rfl) ?_
  refine ROps.nil ?_
  obtain ⟨z2, hz_2, h⟩ := obind_some h
  refine RunC.cutN (fun τ Γ => ∃ (L7 : List F), L7.length = (a0.length : Int).toNat ∧ WeakLe τ [(3, AV.oref 0 1 0 ((a0.length : Int).toNat))] ∧ DeadLe Γ [⟨1, some (L7.map AV.f32)⟩] ∧ z2 = .inl L7) ?_ ?_
  · refine RunC.block (RunC.loop (RunL.loopM (x := z2) (w_toFloat32S_s1 a0) (fun (s : (List F) × Int) τ Γ => s.1.length = (a0.length : Int).toNat ∧ WeakLe τ [(0, AV.sl a0.length (a0.map AV.f32)), (3, AV.oref 0 1 0 ((a0.length : Int).toNat)), (4, AV.i64 s.2)] ∧ DeadLe Γ [⟨1, some (s.1.map AV.f32)⟩]) ?_ _ _ _ hz_2 ⟨List.length_replicate, ⟨(ALe.refl _), (ALe.refl _), (ALe.refl _), trivial⟩, ⟨⟨rfl, .inr rfl⟩, trivial⟩⟩))
    rintro ⟨L1, v3⟩ τ2 Γ2 y2_ ⟨hl2, hw2, hd2⟩ h2_ ho2 hr2
    refine RunC.wl (τ' := [(0, AV.sl a0.length (a0.map AV.f32)), (3, AV.oref 0 1 0 ((a0.length : Int).toNat)), (4, AV.i64 v3)]) (Γ' := [⟨1, some (L1.map AV.f32)⟩]) hw2 hd2 ?_
    replace hl2 : L1.length = (a0.length : Int).toNat := hl2
    replace h2_ : w_toFloat32S_b1 a0 L1 v3 = some y2_ := h2_
    unfold w_toFloat32S_b1 at h2_
    refine RunC.seq ?_
    refine RunC.seq ?_
    rcases bsel_some h2_ with ⟨hc2, h2_⟩ | ⟨hc2, h2_⟩
    · refine RunC.regionW ?_
      refine ROps.l (r := AV.i64 v3) rfl rfl rfl (LOp.move rfl rfl) ?_
      refine ROps.l (r := AV.sl a0.length (a0.map AV.f32)) rfl rfl rfl (LOp.move rfl rfl) ?_
      refine ROps.l (r := AV.i64 (a0.length : Int)) rfl rfl rfl (LOp.len_sl und22 rfl rfl) ?_
      refine ROps.l (r := AV.b true) rfl rfl rfl (LOp.eqb (LOp.lss rfl rfl rfl) hc2) ?_
      refine ROps.nil ?_
      refine RunC.cond_true rfl rfl ?_
      refine RunC.skip ?_
      refine RunC.seq ?_
      refine RunC.block ?_
      obtain ⟨e4, he3, h2_⟩ := obind_some h2_
      obtain ⟨L5, he4, h2_⟩ := obind_some h2_
      refine RunC.regionW ?_
      refine ROps.l (r := AV.oref 0 1 0 ((a0.length : Int).toNat)) rfl rfl rfl (LOp.move rfl rfl) ?_
      refine ROps.l (r := AV.i64 v3) rfl rfl rfl (LOp.move rfl rfl) ?_
      refine ROps.l (r := AV.sl a0.length (a0.map AV.f32)) rfl rfl rfl (LOp.move rfl rfl) ?_
      refine ROps.l (r := AV.i64 v3) rfl rfl rfl (LOp.move rfl rfl) ?_
      refine ROps.l (r := AV.ptr [AV.f32 e4]) rfl rfl rfl (LOp.le (LOp.ix (f := AV.f32) und22 siz25 rfl rfl rfl rfl he3) ALe.ptr) ?_
      refine ROps.l (r := AV.f32 e4) rfl rfl rfl (LOp.load1 agg25 rfl rfl) ?_
      refine ROps.d (r := AV.optr 0 1 v3.toNat) (fs := []) (Γ' := [⟨1, some (L1.map AV.f32)⟩]) rfl rfl rfl (TOp.ixo und22 siz25 rfl rfl rfl (set_in he4 hl2) rfl) rfl ?_
      refine ROps.st (f := AV.f32) (i := v3) (Γ' := [⟨1, some (L5.map AV.f32)⟩]) rfl siz25 rfl rfl rfl (ALe.refl _) rfl rfl rfl he4 rfl ?_
      refine ROps.nil ?_
      obtain ⟨x6, hx5, h2_⟩ := olet_some h2_
      refine RunC.regionW ?_
      refine ROps.l (r := AV.i64 v3) rfl rfl rfl (LOp.move rfl rfl) ?_
      refine ROps.l (r := AV.i64 x6) rfl rfl rfl (LOp.eqr (LOp.add rfl rfl rfl) (congrArg (AV.ik .i64) hx5)) ?_
      refine ROps.l (r := AV.i64 x6) rfl rfl rfl (LOp.assign rfl rfl) ?_
      refine ROps.nil ?_
      cases Option.some.inj h2_
      exact ⟨_, rfl, ((setAt?_len he4).trans hl2), ⟨(ALe.refl _), (ALe.refl _), (ALe.refl _), trivial⟩, ⟨⟨rfl, .inr rfl⟩, trivial⟩⟩
    · refine RunC.regionW ?_
      refine ROps.l (r := AV.i64 v3) rfl rfl rfl (LOp.move rfl rfl) ?_
      refine ROps.l (r := AV.sl a0.length (a0.map AV.f32)) rfl rfl rfl (LOp.move rfl rfl) ?_
      refine ROps.l (r := AV.i64 (a0.length : Int)) rfl rfl rfl (LOp.len_sl und22 rfl rfl) ?_
      refine ROps.l (r := AV.b false) rfl rfl rfl (LOp.eqb (LOp.lss rfl rfl rfl) hc2) ?_
      refine ROps.nil ?_
      refine RunC.cond_false rfl rfl ?_
      refine RunC.exit ?_
      cases Option.some.inj h2_
      have hx := ho2 _ rfl
      exact ⟨L1, hl2, ⟨(ALe.refl _), trivial⟩, ⟨⟨rfl, .inr rfl⟩, trivial⟩, hx⟩
  · rintro τ3 Γ3 ⟨L7, hl8, hw3, hd3, rfl⟩
    refine RunC.wl (τ' := [(3, AV.oref 0 1 0 ((a0.length : Int).toNat))]) (Γ' := [⟨1, some (L7.map AV.f32)⟩]) hw3 hd3 ?_
    replace h : w_toFloat32S_k1 L7 = some q0 := h
    unfold w_toFloat32S_k1 at h
    refine RunC.seq ?_
    refine RunC.regionW ?_
    refine ROps.l (r := AV.oref 0 1 0 ((a0.length : Int).toNat)) rfl rfl rfl (LOp.move rfl rfl) ?_
    refine ROps.l (r := AV.oref 0 1 0 ((a0.length : Int).toNat)) rfl rfl rfl (LOp.assign rfl rfl) ?_
    refine ROps.nil ?_
    refine RunC.ret ?_
    have hq := Option.some.inj h
    subst q0
    exact bodyQ.mk (r' := AV.oref 0 1 0 L7.length) [(0, 1)] (.inr rfl) rfl (show List.Nodup [0] from by decide) rfl rfl (Res.eq (Res.one rfl (RV.tmp rfl)) (by rw [(show L7.length = (a0.length : Int).toNat from hl8)] <;> rfl)) (SelL.arr0 (f := AV.f32) (fun _ => rfl) rfl trivial)
noncomputable def w_toMatrix (a0 : Int) (a1 : Int) (a2 : List F) : Option (Int × Int × (List F)) :=
  obind (w_toFloat32S a2) fun (r1 : List F) =>
  some (a0, a1, r1)
theorem w_toMatrix_ok (a0 : Int) (a1 : Int) (a2 : List F) (q0 : Int) (q1 : Int) (q2 : List F) (h : w_toMatrix a0 a1 a2 = some (q0, q1, q2)) : Ev Try.prog 11 [AV.agg [AV.i64 a0, AV.i64 a1, AV.sl a2.length (a2.map AV.f32)]] [] (AV.agg [AV.i64 q0, AV.i64 q1, AV.oref 0 0 0 q2.length]) [⟨0, some (q2.map AV.f32)⟩] := by
  refine Ev.start Try.func11 rfl rfl 3 (τ := [(0, AV.agg [AV.i64 a0, AV.i64 a1, AV.sl a2.length (a2.map AV.f32)])]) rfl (Γ' := [⟨0, none⟩, ⟨0, none⟩, ⟨0, none⟩]) rfl (n := 15) rfl (g := 0) rfl ?_
  unfold w_toMatrix at h
  refine RunC.seq ?_
  refine RunC.regionW ?_
  refine ROps.d (r := AV.ptr [AV.i64 a0, AV.i64 a1, AV.sl a2.length (a2.map AV.f32)]) (fs := []) (Γ' := [⟨0, none⟩, ⟨0, none⟩, ⟨0, none⟩]) rfl rfl rfl (TOp.box_s rfl rfl rfl) rfl ?_
  refine ROps.d (r := AV.optr 0 1 0) (fs := [(0, [AV.i64 0, AV.i64 0, AV.nilsl])]) (Γ' := [⟨1, some [AV.i64 0, AV.i64 0, AV.nilsl]⟩, ⟨0, none⟩, ⟨0, none⟩]) rfl rfl rfl (TOp.alloc_o (g := ⟨0, none⟩) 0 rfl zer27 zok27 rfl) rfl ?_
  refine ROps.nil ?_
  refine RunC.seq ?_
  refine RunC.regionW ?_
  refine ROps.d (r := AV.optr 1 1 0) (fs := [(1, [AV.i64 0, AV.i64 0, AV.nilsl])]) (Γ' := [⟨1, some [AV.i64 0, AV.i64 0, AV.nilsl]⟩, ⟨1, some [AV.i64 0, AV.i64 0, AV.nilsl]⟩, ⟨0, none⟩]) rfl rfl rfl (TOp.alloc_o (g := ⟨0, none⟩) 1 rfl zer27 zok27 rfl) rfl ?_
  refine ROps.nil ?_
  refine RunC.seq ?_
  refine RunC.regionW ?_
  refine ROps.l (r := AV.ptr [AV.i64 a0, AV.i64 a1, AV.sl a2.length (a2.map AV.f32)]) rfl rfl rfl (LOp.fap und24 rfl siz2 rfl rfl rfl) ?_
  refine ROps.l (r := AV.i64 a0) rfl rfl rfl (LOp.load1 agg2 rfl rfl) ?_
  refine ROps.l (r := AV.optr 1 1 0) rfl rfl rfl (LOp.fao und27 rfl siz2 rfl rfl rfl) ?_
  refine ROps.store_le (r := AV.i64 a0) (l' := [AV.i64 a0, AV.i64 0, AV.nilsl]) (Γ' := [⟨1, some [AV.i64 0, AV.i64 0, AV.nilsl]⟩, ⟨1, some [AV.i64 a0, AV.i64 0, AV.nilsl]⟩, ⟨0, none⟩]) rfl siz2 rfl rfl rfl (ALe.refl _) rfl rfl rfl rfl (Nat.le_of_ble_eq_true rfl) rfl rfl ?_
  refine ROps.nil ?_
  refine RunC.seq ?_
  refine RunC.regionW ?_
  refine ROps.l (r := AV.ptr [AV.i64 a1, AV.sl a2.length (a2.map AV.f32)]) rfl rfl rfl (LOp.fap und24 rfl siz2 rfl rfl rfl) ?_
  refine ROps.l (r := AV.i64 a1) rfl rfl rfl (LOp.load1 agg2 rfl rfl) ?_
  refine ROps.l (r := AV.optr 1 1 1) rfl rfl rfl (LOp.fao und27 rfl siz2 rfl rfl rfl) ?_
  refine ROps.store_le (r := AV.i64 a1) (l' := [AV.i64 a0, AV.i64 a1, AV.nilsl]) (Γ' := [⟨1, some [AV.i64 0, AV.i64 0, AV.nilsl]⟩, ⟨1, some [AV.i64 a0, AV.i64 a1, AV.nilsl]⟩, ⟨0, none⟩]) rfl siz2 rfl rfl rfl (ALe.refl _) rfl rfl rfl rfl (Nat.le_of_ble_eq_true rfl) rfl rfl ?_
  refine ROps.nil ?_
  refine RunC.seq ?_
  obtain ⟨r1, hf1, h⟩ := obind_some h
  refine RunC.regionW ?_
  refine ROps.l (r := AV.ptr [AV.sl a2.length (a2.map AV.f32)]) rfl rfl rfl (LOp.fap und24 rfl siz22 rfl rfl rfl) ?_
  refine ROps.l (r := AV.sl a2.length (a2.map AV.f32)) rfl rfl rfl (LOp.load1 agg22 rfl rfl) ?_
  refine ROps.d (r := AV.oref 2 1 0 r1.length) (fs := [(2, (r1.map AV.f32))]) (Γ' := [⟨1, some [AV.i64 0, AV.i64 0, AV.nilsl]⟩, ⟨1, some [AV.i64 a0, AV.i64 a1, AV.nilsl]⟩, ⟨1, some (r1.map AV.f32)⟩]) rfl rfl rfl (TOp.callBN (ls := [(r1.map AV.f32)]) [2] (CallAs.func ent44 rfl rfl) (Bors.cons (Bor.sl (fun _ => rfl)) Bors.nil) rfl (w_toFloat32S_ok a2 r1 hf1) (and_all (lts0_map (f := AV.f32) (fun _ => rfl) _) rfl) (and_all (noss_map (f := AV.f32) (fun _ => rfl) _) rfl) rfl (by decide) (ns_of ⟨⟨_, rfl⟩, trivial⟩)) rfl ?_
  refine ROps.l (r := AV.optr 1 1 2) rfl rfl rfl (LOp.fao und27 rfl siz22 rfl rfl rfl) ?_
  refine ROps.store_le (r := AV.oref 2 1 0 r1.length) (l' := [AV.i64 a0, AV.i64 a1, AV.oref 2 1 0 r1.length]) (Γ' := [⟨1, some [AV.i64 0, AV.i64 0, AV.nilsl]⟩, ⟨1, some [AV.i64 a0, AV.i64 a1, AV.oref 2 1 0 r1.length]⟩, ⟨1, some (r1.map AV.f32)⟩]) rfl siz22 rfl rfl rfl (ALe.refl _) rfl rfl rfl rfl (Nat.le_of_ble_eq_true rfl) rfl rfl ?_
  refine ROps.nil ?_
  refine RunC.seq ?_
  refine RunC.regionW ?_
  refine ROps.d (r := AV.agg [AV.i64 a0, AV.i64 a1, AV.oref 2 1 0 r1.length]) (fs := []) (Γ' := [⟨1, some [AV.i64 0, AV.i64 0, AV.nilsl]⟩, ⟨1, some [AV.i64 a0, AV.i64 a1, AV.oref 2 1 0 r1.length]⟩, ⟨1, some (r1.map AV.f32)⟩]) rfl rfl rfl (TOp.loadAgg_o rfl agg27 siz27 rfl rfl rfl rfl) rfl ?_
  refine ROps.store_le (r := AV.agg [AV.i64 a0, AV.i64 a1, AV.oref 2 1 0 r1.length]) (l' := [AV.i64 a0, AV.i64 a1, AV.oref 2 1 0 r1.length]) (Γ' := [⟨1, some [AV.i64 a0, AV.i64 a1, AV.oref 2 1 0 r1.length]⟩, ⟨1, some [AV.i64 a0, AV.i64 a1, AV.oref 2 1 0 r1.length]⟩, ⟨1, some (r1.map AV.f32)⟩]) rfl siz27 rfl rfl rfl (ALe.refl _) rfl rfl rfl rfl (Nat.le_of_ble_eq_true rfl) rfl rfl ?_
  refine ROps.nil ?_
  refine RunC.ret ?_
  have hq := Option.some.inj h
  obtain ⟨hq0, hq⟩ := Prod.mk.inj hq
  obtain ⟨hq1, hq⟩ := Prod.mk.inj hq
  subst q0
  subst q1
  subst q2
  exact bodyQ.mk (r' := AV.agg [AV.i64 a0, AV.i64 a1, AV.oref 2 1 0 r1.length]) [(2, 1)] (.inr rfl) rfl (show List.Nodup [2] from by decide) rfl rfl (Res.one rfl (RV.cell agg27 siz27 rfl rfl rfl rfl)) (SelL.arr0 (f := AV.f32) (fun _ => rfl) rfl trivial)
noncomputable def s_l00In (a0 : Int) (a1 : Int) (a2 : Int) : Option (Bool) :=
  bsel (decide (a1 ≤ a0)) (
    some (decide (a0 ≤ a2))) (
    some false)
theorem s_l00In_ok (a0 : Int) (a1 : Int) (a2 : Int) (q0 : Bool) (h : s_l00In a0 a1 a2 = some q0) : Ev Try.prog 39 [AV.i64 a0, AV.i64 a1, AV.i64 a2] [] (AV.b q0) [] := by
  refine Ev.start Try.func39 rfl rfl 0 (τ := [(0, AV.i64 a0), (1, AV.i64 a1), (2, AV.i64 a2)]) rfl (Γ' := []) rfl (n := 15) rfl (g := 0) rfl ?_
  unfold s_l00In at h
  refine RunC.seq ?_
  refine RunC.regionW ?_
  refine ROps.l (r := AV.b false) rfl rfl rfl (LOp.assign rfl rfl) ?_
  refine ROps.nil ?_
  refine RunC.seq ?_
  rcases bsel_some h with ⟨hc1, h⟩ | ⟨hc1, h⟩
  · refine RunC.regionW ?_
    refine ROps.l (r := AV.i64 a0) rfl rfl rfl (LOp.move rfl rfl) ?_
    refine ROps.l (r := AV.i64 a1) rfl rfl rfl (LOp.move rfl rfl) ?_
    refine ROps.l (r := AV.b true) rfl rfl rfl (LOp.eqb (LOp.geq rfl rfl rfl) hc1) ?_
    refine ROps.l (r := AV.b true) rfl rfl rfl (LOp.move rfl rfl) ?_
    refine ROps.l (r := AV.i64 a0) rfl rfl rfl (LOp.move rfl rfl) ?_
    refine ROps.l (r := AV.i64 a2) rfl rfl rfl (LOp.move rfl rfl) ?_
    refine ROps.l (r := AV.b (decide (a0 ≤ a2))) rfl rfl rfl (LOp.leq rfl rfl rfl) ?_
    refine ROps.l (r := AV.b (decide (a0 ≤ a2))) rfl rfl rfl (LOp.pick_true rfl rfl rfl) ?_
    refine ROps.l (r := AV.b (decide (a0 ≤ a2))) rfl rfl rfl (LOp.assign rfl rfl) ?_
    refine ROps.nil ?_
    refine RunC.ret ?_
    have hq := Option.some.inj h
    subst q0
    exact bodyQ.pure (.inr rfl) rfl (Res.one rfl (RV.tmp rfl))
  · refine RunC.regionW ?_
    refine ROps.l (r := AV.i64 a0) rfl rfl rfl (LOp.move rfl rfl) ?_
    refine ROps.l (r := AV.i64 a1) rfl rfl rfl (LOp.move rfl rfl) ?_
    refine ROps.l (r := AV.b false) rfl rfl rfl (LOp.eqb (LOp.geq rfl rfl rfl) hc1) ?_
    refine ROps.l (r := AV.b false) rfl rfl rfl (LOp.move rfl rfl) ?_
    refine ROps.s rfl rfl rfl ?_
    refine ROps.s rfl rfl rfl ?_
    refine ROps.s rfl rfl rfl ?_
    refine ROps.l (r := AV.b false) rfl rfl rfl (LOp.pick_false rfl rfl rfl) ?_
    refine ROps.l (r := AV.b false) rfl rfl rfl (LOp.assign rfl rfl) ?_
    refine ROps.nil ?_
    refine RunC.ret ?_
    have hq := Option.some.inj h
    subst q0
    exact bodyQ.pure (.inr rfl) rfl (Res.one rfl (RV.tmp rfl))
noncomputable def s_l02Sides (a0 : Int) (a1 : Int) : Option (Bool) :=
  obind (s_l00In a0 1 12) fun (r1 : Bool) =>
  bsel r1 (
    obind (s_l00In a1 1 12) fun (r2 : Bool) =>
    some r2) (
    some false)
theorem s_l02Sides_ok (a0 : Int) (a1 : Int) (q0 : Bool) (h : s_l02Sides a0 a1 = some q0) : Ev Try.prog 87 [AV.i64 a0, AV.i64 a1] [] (AV.b q0) [] := by
  refine Ev.start Try.func87 rfl rfl 0 (τ := [(0, AV.i64 a0), (1, AV.i64 a1)]) rfl (Γ' := []) rfl (n := 11) rfl (g := 0) rfl ?_
  unfold s_l02Sides at h
  refine RunC.seq ?_
  refine RunC.regionW ?_
  refine ROps.l (r := AV.b false) rfl rfl rfl (LOp.assign rfl rfl) ?_
  refine ROps.nil ?_
  refine RunC.seq ?_
  obtain ⟨r1, hf1, h⟩ := obind_some h
  rcases bsel_some h with ⟨hc2, h⟩ | ⟨hc2, h⟩
  · obtain ⟨r2, hf3, h⟩ := obind_some h
    refine RunC.regionW ?_
    refine ROps.l (r := AV.i64 a0) rfl rfl rfl (LOp.move rfl rfl) ?_
    refine ROps.d (r := AV.b true) (fs := []) (Γ' := []) rfl rfl rfl (TOp.eqb (TOp.callB (CallAs.func ent39 rfl rfl) (Bors.cons (Bor.pure rfl) (Bors.cons (Bor.pure rfl) (Bors.cons (Bor.pure rfl) Bors.nil))) rfl rfl (s_l00In_ok a0 1 12 r1 hf1)) hc2) rfl ?_
    refine ROps.l (r := AV.b true) rfl rfl rfl (LOp.move rfl rfl) ?_
    refine ROps.l (r := AV.i64 a1) rfl rfl rfl (LOp.move rfl rfl) ?_
    refine ROps.d (r := AV.b r2) (fs := []) (Γ' := []) rfl rfl rfl (TOp.callB (CallAs.func ent39 rfl rfl) (Bors.cons (Bor.pure rfl) (Bors.cons (Bor.pure rfl) (Bors.cons (Bor.pure rfl) Bors.nil))) rfl rfl (s_l00In_ok a1 1 12 r2 hf3)) rfl ?_
    refine ROps.l (r := AV.b r2) rfl rfl rfl (LOp.pick_true rfl rfl rfl) ?_
    refine ROps.l (r := AV.b r2) rfl rfl rfl (LOp.assign rfl rfl) ?_
    refine ROps.nil ?_
    refine RunC.ret ?_
    have hq := Option.some.inj h
    subst q0
    exact bodyQ.pure (.inr rfl) rfl (Res.one rfl (RV.tmp rfl))
  · refine RunC.regionW ?_
    refine ROps.l (r := AV.i64 a0) rfl rfl rfl (LOp.move rfl rfl) ?_
    refine ROps.d (r := AV.b false) (fs := []) (Γ' := []) rfl rfl rfl (TOp.eqb (TOp.callB (CallAs.func ent39 rfl rfl) (Bors.cons (Bor.pure rfl) (Bors.cons (Bor.pure rfl) (Bors.cons (Bor.pure rfl) Bors.nil))) rfl rfl (s_l00In_ok a0 1 12 r1 hf1)) hc2) rfl ?_
    refine ROps.l (r := AV.b false) rfl rfl rfl (LOp.move rfl rfl) ?_
    refine ROps.s rfl rfl rfl ?_
    refine ROps.s rfl rfl rfl ?_
    refine ROps.l (r := AV.b false) rfl rfl rfl (LOp.pick_false rfl rfl rfl) ?_
    refine ROps.l (r := AV.b false) rfl rfl rfl (LOp.assign rfl rfl) ?_
    refine ROps.nil ?_
    refine RunC.ret ?_
    have hq := Option.some.inj h
    subst q0
    exact bodyQ.pure (.inr rfl) rfl (Res.one rfl (RV.tmp rfl))
noncomputable def s_l01Finite (a0 : F) : Option (Bool) :=
  olet (fop .sub .f32 a0 a0) fun (x1 : F) =>
  some (feq .f32 x1 (some 0))
theorem s_l01Finite_ok (a0 : F) (q0 : Bool) (h : s_l01Finite a0 = some q0) : Ev Try.prog 58 [AV.f32 a0] [] (AV.b q0) [] := by
  refine Ev.start Try.func58 rfl rfl 0 (τ := [(0, AV.f32 a0)]) rfl (Γ' := []) rfl (n := 7) rfl (g := 0) rfl ?_
  unfold s_l01Finite at h
  refine RunC.seq ?_
  refine RunC.regionW ?_
  refine ROps.l (r := AV.b false) rfl rfl rfl (LOp.assign rfl rfl) ?_
  refine ROps.nil ?_
  refine RunC.seq ?_
  obtain ⟨x1, hx1, h⟩ := olet_some h
  refine RunC.regionW ?_
  refine ROps.l (r := AV.f32 a0) rfl rfl rfl (LOp.move rfl rfl) ?_
  refine ROps.l (r := AV.f32 a0) rfl rfl rfl (LOp.move rfl rfl) ?_
  refine ROps.d (r := AV.f32 x1) (fs := []) (Γ' := []) rfl rfl rfl (TOp.eqr (TOp.fop (.inr (.inl rfl)) rfl (OpF.tmp rfl) (OpF.tmp rfl)) (congrArg (AV.f .f32) hx1)) rfl ?_
  refine ROps.l (r := AV.b (feq .f32 x1 (some 0))) rfl rfl rfl (LOp.feq rfl (OpF.tmp rfl) (OpF.const rfl (by kernel_rfl) (by kernel_rfl))) ?_
  refine ROps.l (r := AV.b (feq .f32 x1 (some 0))) rfl rfl rfl (LOp.assign rfl rfl) ?_
  refine ROps.nil ?_
  refine RunC.ret ?_
  have hq := Option.some.inj h
  subst q0
  exact bodyQ.pure (.inr rfl) rfl (Res.one rfl (RV.tmp rfl))
noncomputable def s_l02Finite_b1 (a0 : List F) (v1 : Int) : Option (LR (Int) (Unit) (Bool)) :=
  bsel (decide (v1 < (a0.length : Int))) (
    obind (at? a0 v1) fun (e2 : F) =>
    obind (s_l01Finite e2) fun (r3 : Bool) =>
    bsel r3 (
      olet (IntKind.i64.wrap (v1 + 1)) fun (x4 : Int) =>
      some (LR.next x4)) (
      some (LR.ret false))) (
    some (LR.out ()))
noncomputable def s_l02Finite_s1 (a0 : List F) : (Int) → Option (LR (Int) (Unit) (Bool)) := fun s => s_l02Finite_b1 a0 s
noncomputable def s_l02Finite_k1  : Option (Bool) :=
  some true
noncomputable def s_l02Finite (a0 : List F) : Option (Bool) :=
  obind (loopM (s_l02Finite_s1 a0) 0) fun z => osum z (fun _ => s_l02Finite_k1) (fun r => some r)
theorem s_l02Finite_ok (a0 : List F) (q0 : Bool) (h : s_l02Finite a0 = some q0) : Ev Try.prog 88 [AV.sl a0.length (a0.map AV.f32)] [] (AV.b q0) [] := by
  refine Ev.start Try.func88 rfl rfl 0 (τ := [(0, AV.sl a0.length (a0.map AV.f32))]) rfl (Γ' := []) rfl (n := 16) rfl (g := 0) rfl ?_
  unfold s_l02Finite at h
  refine RunC.seq ?_
  refine RunC.regionW ?_
  refine ROps.l (r := AV.b false) rfl rfl rfl (LOp.assign rfl rfl) ?_
  refine ROps.nil ?_
  refine RunC.seq ?_
  refine RunC.seq ?_
  refine RunC.regionW ?_
  refine ROps.l (r := AV.i64 0) rfl rfl rfl (LOp.assign rfl rfl) ?_
  refine ROps.nil ?_
  obtain ⟨z2, hz_2, h⟩ := obind_some h
  refine RunC.cutN (fun τ Γ => WeakLe τ [] ∧ DeadLe Γ [] ∧ z2 = .inl ()) ?_ ?_
  · refine RunC.block (RunC.loop (RunL.loopM (x := z2) (s_l02Finite_s1 a0) (fun (s : Int) τ Γ => WeakLe τ [(0, AV.sl a0.length (a0.map AV.f32)), (3, AV.i64 s)] ∧ DeadLe Γ []) ?_ _ _ _ hz_2 ⟨⟨(ALe.refl _), (ALe.refl _), trivial⟩, trivial⟩))
    rintro v1 τ2 Γ2 y2_ ⟨hw2, hd2⟩ h2_ ho2 hr2
    refine RunC.wl (τ' := [(0, AV.sl a0.length (a0.map AV.f32)), (3, AV.i64 v1)]) (Γ' := []) hw2 hd2 ?_
    replace h2_ : s_l02Finite_b1 a0 v1 = some y2_ := h2_
    unfold s_l02Finite_b1 at h2_
    refine RunC.seq ?_
    refine RunC.seq ?_
    rcases bsel_some h2_ with ⟨hc1, h2_⟩ | ⟨hc1, h2_⟩
    · refine RunC.regionW ?_
      refine ROps.l (r := AV.i64 v1) rfl rfl rfl (LOp.move rfl rfl) ?_
      refine ROps.l (r := AV.sl a0.length (a0.map AV.f32)) rfl rfl rfl (LOp.move rfl rfl) ?_
      refine ROps.l (r := AV.i64 (a0.length : Int)) rfl rfl rfl (LOp.len_sl und22 rfl rfl) ?_
      refine ROps.l (r := AV.b true) rfl rfl rfl (LOp.eqb (LOp.lss rfl rfl rfl) hc1) ?_
      refine ROps.nil ?_
      refine RunC.cond_true rfl rfl ?_
      refine RunC.skip ?_
      refine RunC.seq ?_
      refine RunC.block ?_
      refine RunC.seq ?_
      obtain ⟨e2, he2, h2_⟩ := obind_some h2_
      obtain ⟨r3, hf3, h2_⟩ := obind_some h2_
      rcases bsel_some h2_ with ⟨hc4, h2_⟩ | ⟨hc4, h2_⟩
      · refine RunC.regionW ?_
        refine ROps.l (r := AV.sl a0.length (a0.map AV.f32)) rfl rfl rfl (LOp.move rfl rfl) ?_
        refine ROps.l (r := AV.i64 v1) rfl rfl rfl (LOp.move rfl rfl) ?_
        refine ROps.l (r := AV.ptr [AV.f32 e2]) rfl rfl rfl (LOp.le (LOp.ix (f := AV.f32) und22 siz25 rfl rfl rfl rfl he2) ALe.ptr) ?_
        refine ROps.l (r := AV.f32 e2) rfl rfl rfl (LOp.load1 agg25 rfl rfl) ?_
        refine ROps.d (r := AV.b true) (fs := []) (Γ' := []) rfl rfl rfl (TOp.eqb (TOp.callB (CallAs.func ent58 rfl rfl) (Bors.cons (Bor.pure rfl) Bors.nil) rfl rfl (s_l01Finite_ok e2 r3 hf3)) hc4) rfl ?_
        refine ROps.l (r := AV.b false) rfl rfl rfl (LOp.eqb (LOp.not rfl rfl) rfl) ?_
        refine ROps.nil ?_
        refine RunC.cond_false rfl rfl ?_
        refine RunC.skip ?_
        obtain ⟨x4, hx5, h2_⟩ := olet_some h2_
        refine RunC.regionW ?_
        refine ROps.l (r := AV.i64 v1) rfl rfl rfl (LOp.move rfl rfl) ?_
        refine ROps.l (r := AV.i64 x4) rfl rfl rfl (LOp.eqr (LOp.add rfl rfl rfl) (congrArg (AV.ik .i64) hx5)) ?_
        refine ROps.l (r := AV.i64 x4) rfl rfl rfl (LOp.assign rfl rfl) ?_
        refine ROps.nil ?_
        cases Option.some.inj h2_
        exact ⟨_, rfl, ⟨(ALe.refl _), (ALe.refl _), trivial⟩, trivial⟩
      · refine RunC.regionW ?_
        refine ROps.l (r := AV.sl a0.length (a0.map AV.f32)) rfl rfl rfl (LOp.move rfl rfl) ?_
        refine ROps.l (r := AV.i64 v1) rfl rfl rfl (LOp.move rfl rfl) ?_
        refine ROps.l (r := AV.ptr [AV.f32 e2]) rfl rfl rfl (LOp.le (LOp.ix (f := AV.f32) und22 siz25 rfl rfl rfl rfl he2) ALe.ptr) ?_
        refine ROps.l (r := AV.f32 e2) rfl rfl rfl (LOp.load1 agg25 rfl rfl) ?_
        refine ROps.d (r := AV.b false) (fs := []) (Γ' := []) rfl rfl rfl (TOp.eqb (TOp.callB (CallAs.func ent58 rfl rfl) (Bors.cons (Bor.pure rfl) Bors.nil) rfl rfl (s_l01Finite_ok e2 r3 hf3)) hc4) rfl ?_
        refine ROps.l (r := AV.b true) rfl rfl rfl (LOp.eqb (LOp.not rfl rfl) rfl) ?_
        refine ROps.nil ?_
        refine RunC.cond_true rfl rfl ?_
        refine RunC.seq ?_
        refine RunC.regionW ?_
        refine ROps.l (r := AV.b false) rfl rfl rfl (LOp.assign rfl rfl) ?_
        refine ROps.nil ?_
        refine RunC.ret ?_
        cases Option.some.inj h2_
        have hx3_ := hr2 _ rfl
        subst hx3_
        have hq := Option.some.inj h
        subst q0
        exact bodyQ.pure (.inr rfl) rfl (Res.one rfl (RV.tmp rfl))
    · refine RunC.regionW ?_
      refine ROps.l (r := AV.i64 v1) rfl rfl rfl (LOp.move rfl rfl) ?_
      refine ROps.l (r := AV.sl a0.length (a0.map AV.f32)) rfl rfl rfl (LOp.move rfl rfl) ?_
      refine ROps.l (r := AV.i64 (a0.length : Int)) rfl rfl rfl (LOp.len_sl und22 rfl rfl) ?_
      refine ROps.l (r := AV.b false) rfl rfl rfl (LOp.eqb (LOp.lss rfl rfl rfl) hc1) ?_
      refine ROps.nil ?_
      refine RunC.cond_false rfl rfl ?_
      refine RunC.exit ?_
      cases Option.some.inj h2_
      have hx := ho2 _ rfl
      exact ⟨trivial, trivial, hx⟩
  · rintro τ4 Γ4 ⟨hw4, hd4, rfl⟩
    refine RunC.wl (τ' := []) (Γ' := []) hw4 hd4 ?_
    replace h : s_l02Finite_k1 = some q0 := h
    unfold s_l02Finite_k1 at h
    refine RunC.seq ?_
    refine RunC.regionW ?_
    refine ROps.l (r := AV.b true) rfl rfl rfl (LOp.assign rfl rfl) ?_
    refine ROps.nil ?_
    refine RunC.ret ?_
    have hq := Option.some.inj h
    subst q0
    exact bodyQ.pure (.inr rfl) rfl (Res.one rfl (RV.tmp rfl))
noncomputable def s_l02Is (a0 : Int) (a1 : Int) (a2 : List F) : Option (Bool) :=
  obind (s_l02Sides a0 a1) fun (r1 : Bool) =>
  bsel r1 (
    olet (IntKind.i64.wrap (a0 * a1)) fun (x2 : Int) =>
    bsel (decide ((a2.length : Int) = x2)) (
      obind (s_l02Finite a2) fun (r3 : Bool) =>
      some r3) (
      some false)) (
    some false)
theorem s_l02Is_ok (a0 : Int) (a1 : Int) (a2 : List F) (q0 : Bool) (h : s_l02Is a0 a1 a2 = some q0) : Ev Try.prog 37 [AV.ptr [AV.i64 a0, AV.i64 a1, AV.sl a2.length (a2.map AV.f32)]] [] (AV.b q0) [] := by
  refine Ev.start Try.func37 rfl rfl 0 (τ := [(0, AV.ptr [AV.i64 a0, AV.i64 a1, AV.sl a2.length (a2.map AV.f32)])]) rfl (Γ' := []) rfl (n := 36) rfl (g := 0) rfl ?_
  unfold s_l02Is at h
  refine RunC.seq ?_
  refine RunC.regionW ?_
  refine ROps.l (r := AV.b false) rfl rfl rfl (LOp.assign rfl rfl) ?_
  refine ROps.nil ?_
  refine RunC.seq ?_
  obtain ⟨r1, hf1, h⟩ := obind_some h
  rcases bsel_some h with ⟨hc2, h⟩ | ⟨hc2, h⟩
  · obtain ⟨x2, hx3, h⟩ := olet_some h
    rcases bsel_some h with ⟨hc4, h⟩ | ⟨hc4, h⟩
    · obtain ⟨r3, hf5, h⟩ := obind_some h
      refine RunC.region_draw (Γ' := []) 34 mixed 
        (TR.l (r := AV.ptr [AV.i64 a0, AV.i64 a1, AV.sl a2.length (a2.map AV.f32)]) rfl rfl (LOp.move rfl rfl) <|
        (TR.l (r := AV.ptr [AV.i64 a0, AV.i64 a1, AV.sl a2.length (a2.map AV.f32)]) rfl rfl (LOp.nilCheck_ptr rfl rfl) <|
        (TR.l (r := AV.ptr [AV.i64 a0, AV.i64 a1, AV.sl a2.length (a2.map AV.f32)]) rfl rfl (LOp.fap und27 rfl siz2 rfl rfl rfl) <|
        (TR.l (r := AV.i64 a0) rfl rfl (LOp.load1 agg2 rfl rfl) <|
        (TR.l (r := AV.ptr [AV.i64 a0, AV.i64 a1, AV.sl a2.length (a2.map AV.f32)]) rfl rfl (LOp.move rfl rfl) <|
        (TR.l (r := AV.ptr [AV.i64 a0, AV.i64 a1, AV.sl a2.length (a2.map AV.f32)]) rfl rfl (LOp.nilCheck_ptr rfl rfl) <|
        (TR.l (r := AV.ptr [AV.i64 a1, AV.sl a2.length (a2.map AV.f32)]) rfl rfl (LOp.fap und27 rfl siz2 rfl rfl rfl) <|
        (TR.l (r := AV.i64 a1) rfl rfl (LOp.load1 agg2 rfl rfl) <|
        (TR.d (r := AV.b true) (fs := []) rfl rfl (TOp.eqb (TOp.callB (CallAs.func ent87 rfl rfl) (Bors.cons (Bor.pure rfl) (Bors.cons (Bor.pure rfl) Bors.nil)) rfl rfl (s_l02Sides_ok a0 a1 r1 hf1)) hc2) <|
        (TR.l (r := AV.b true) rfl rfl (LOp.move rfl rfl) <|
        (TR.l (r := AV.ptr [AV.i64 a0, AV.i64 a1, AV.sl a2.length (a2.map AV.f32)]) rfl rfl (LOp.move rfl rfl) <|
        (TR.l (r := AV.ptr [AV.i64 a0, AV.i64 a1, AV.sl a2.length (a2.map AV.f32)]) rfl rfl (LOp.nilCheck_ptr rfl rfl) <|
        (TR.l (r := AV.ptr [AV.sl a2.length (a2.map AV.f32)]) rfl rfl (LOp.fap und27 rfl siz22 rfl rfl rfl) <|
        (TR.l (r := AV.sl a2.length (a2.map AV.f32)) rfl rfl (LOp.load1 agg22 rfl rfl) <|
        (TR.l (r := AV.i64 (a2.length : Int)) rfl rfl (LOp.len_sl und22 rfl rfl) <|
        (TR.l (r := AV.ptr [AV.i64 a0, AV.i64 a1, AV.sl a2.length (a2.map AV.f32)]) rfl rfl (LOp.move rfl rfl) <|
        (TR.l (r := AV.ptr [AV.i64 a0, AV.i64 a1, AV.sl a2.length (a2.map AV.f32)]) rfl rfl (LOp.nilCheck_ptr rfl rfl) <|
        (TR.l (r := AV.ptr [AV.i64 a0, AV.i64 a1, AV.sl a2.length (a2.map AV.f32)]) rfl rfl (LOp.fap und27 rfl siz2 rfl rfl rfl) <|
        (TR.l (r := AV.i64 a0) rfl rfl (LOp.load1 agg2 rfl rfl) <|
        (TR.l (r := AV.ptr [AV.i64 a0, AV.i64 a1, AV.sl a2.length (a2.map AV.f32)]) rfl rfl (LOp.move rfl rfl) <|
        (TR.l (r := AV.ptr [AV.i64 a0, AV.i64 a1, AV.sl a2.length (a2.map AV.f32)]) rfl rfl (LOp.nilCheck_ptr rfl rfl) <|
        (TR.l (r := AV.ptr [AV.i64 a1, AV.sl a2.length (a2.map AV.f32)]) rfl rfl (LOp.fap und27 rfl siz2 rfl rfl rfl) <|
        (TR.l (r := AV.i64 a1) rfl rfl (LOp.load1 agg2 rfl rfl) <|
        (TR.l (r := AV.i64 x2) rfl rfl (LOp.eqr (LOp.mul rfl rfl rfl) (congrArg (AV.ik .i64) hx3)) <|
        (TR.l (r := AV.b true) rfl rfl (LOp.eqb (LOp.eql rfl rfl rfl) hc4) <|
        (TR.l (r := AV.b true) rfl rfl (LOp.pick_true rfl rfl rfl) <|
        (TR.l (r := AV.b true) rfl rfl (LOp.move rfl rfl) <|
        (TR.l (r := AV.ptr [AV.i64 a0, AV.i64 a1, AV.sl a2.length (a2.map AV.f32)]) rfl rfl (LOp.move rfl rfl) <|
        (TR.l (r := AV.ptr [AV.i64 a0, AV.i64 a1, AV.sl a2.length (a2.map AV.f32)]) rfl rfl (LOp.nilCheck_ptr rfl rfl) <|
        (TR.l (r := AV.ptr [AV.sl a2.length (a2.map AV.f32)]) rfl rfl (LOp.fap und27 rfl siz22 rfl rfl rfl) <|
        (TR.l (r := AV.sl a2.length (a2.map AV.f32)) rfl rfl (LOp.load1 agg22 rfl rfl) <|
        (TR.d (r := AV.b r3) (fs := []) rfl rfl (TOp.callB (CallAs.func ent88 rfl rfl) (Bors.cons (Bor.sl (fun _ => rfl)) Bors.nil) rfl rfl (s_l02Finite_ok a2 r3 hf5)) <|
        (TR.l (r := AV.b r3) rfl rfl (LOp.pick_true rfl rfl rfl) <|
        (TR.l (r := AV.b r3) rfl rfl (LOp.assign rfl rfl) <|
        TR.nil)))))))))))))))))))))))))))))))))) rfl (by kernel_rfl) rfl fills_nil rfl ?_
      iterate 34 refine ROps.dropS ?_
      refine ROps.drop0 ?_
      refine ROps.nil ?_
      refine RunC.ret ?_
      have hq := Option.some.inj h
      subst q0
      exact bodyQ.pure (.inr rfl) rfl (Res.one rfl (RV.tmp rfl))
    · refine RunC.region_draw (Γ' := []) 34 mixed 
        (TR.l (r := AV.ptr [AV.i64 a0, AV.i64 a1, AV.sl a2.length (a2.map AV.f32)]) rfl rfl (LOp.move rfl rfl) <|
        (TR.l (r := AV.ptr [AV.i64 a0, AV.i64 a1, AV.sl a2.length (a2.map AV.f32)]) rfl rfl (LOp.nilCheck_ptr rfl rfl) <|
        (TR.l (r := AV.ptr [AV.i64 a0, AV.i64 a1, AV.sl a2.length (a2.map AV.f32)]) rfl rfl (LOp.fap und27 rfl siz2 rfl rfl rfl) <|
        (TR.l (r := AV.i64 a0) rfl rfl (LOp.load1 agg2 rfl rfl) <|
        (TR.l (r := AV.ptr [AV.i64 a0, AV.i64 a1, AV.sl a2.length (a2.map AV.f32)]) rfl rfl (LOp.move rfl rfl) <|
        (TR.l (r := AV.ptr [AV.i64 a0, AV.i64 a1, AV.sl a2.length (a2.map AV.f32)]) rfl rfl (LOp.nilCheck_ptr rfl rfl) <|
        (TR.l (r := AV.ptr [AV.i64 a1, AV.sl a2.length (a2.map AV.f32)]) rfl rfl (LOp.fap und27 rfl siz2 rfl rfl rfl) <|
        (TR.l (r := AV.i64 a1) rfl rfl (LOp.load1 agg2 rfl rfl) <|
        (TR.d (r := AV.b true) (fs := []) rfl rfl (TOp.eqb (TOp.callB (CallAs.func ent87 rfl rfl) (Bors.cons (Bor.pure rfl) (Bors.cons (Bor.pure rfl) Bors.nil)) rfl rfl (s_l02Sides_ok a0 a1 r1 hf1)) hc2) <|
        (TR.l (r := AV.b true) rfl rfl (LOp.move rfl rfl) <|
        (TR.l (r := AV.ptr [AV.i64 a0, AV.i64 a1, AV.sl a2.length (a2.map AV.f32)]) rfl rfl (LOp.move rfl rfl) <|
        (TR.l (r := AV.ptr [AV.i64 a0, AV.i64 a1, AV.sl a2.length (a2.map AV.f32)]) rfl rfl (LOp.nilCheck_ptr rfl rfl) <|
        (TR.l (r := AV.ptr [AV.sl a2.length (a2.map AV.f32)]) rfl rfl (LOp.fap und27 rfl siz22 rfl rfl rfl) <|
        (TR.l (r := AV.sl a2.length (a2.map AV.f32)) rfl rfl (LOp.load1 agg22 rfl rfl) <|
        (TR.l (r := AV.i64 (a2.length : Int)) rfl rfl (LOp.len_sl und22 rfl rfl) <|
        (TR.l (r := AV.ptr [AV.i64 a0, AV.i64 a1, AV.sl a2.length (a2.map AV.f32)]) rfl rfl (LOp.move rfl rfl) <|
        (TR.l (r := AV.ptr [AV.i64 a0, AV.i64 a1, AV.sl a2.length (a2.map AV.f32)]) rfl rfl (LOp.nilCheck_ptr rfl rfl) <|
        (TR.l (r := AV.ptr [AV.i64 a0, AV.i64 a1, AV.sl a2.length (a2.map AV.f32)]) rfl rfl (LOp.fap und27 rfl siz2 rfl rfl rfl) <|
        (TR.l (r := AV.i64 a0) rfl rfl (LOp.load1 agg2 rfl rfl) <|
        (TR.l (r := AV.ptr [AV.i64 a0, AV.i64 a1, AV.sl a2.length (a2.map AV.f32)]) rfl rfl (LOp.move rfl rfl) <|
        (TR.l (r := AV.ptr [AV.i64 a0, AV.i64 a1, AV.sl a2.length (a2.map AV.f32)]) rfl rfl (LOp.nilCheck_ptr rfl rfl) <|
        (TR.l (r := AV.ptr [AV.i64 a1, AV.sl a2.length (a2.map AV.f32)]) rfl rfl (LOp.fap und27 rfl siz2 rfl rfl rfl) <|
        (TR.l (r := AV.i64 a1) rfl rfl (LOp.load1 agg2 rfl rfl) <|
        (TR.l (r := AV.i64 x2) rfl rfl (LOp.eqr (LOp.mul rfl rfl rfl) (congrArg (AV.ik .i64) hx3)) <|
        (TR.l (r := AV.b false) rfl rfl (LOp.eqb (LOp.eql rfl rfl rfl) hc4) <|
        (TR.l (r := AV.b false) rfl rfl (LOp.pick_true rfl rfl rfl) <|
        (TR.l (r := AV.b false) rfl rfl (LOp.move rfl rfl) <|
        (TR.s rfl rfl <|
        (TR.s rfl rfl <|
        (TR.s rfl rfl <|
        (TR.s rfl rfl <|
        (TR.s rfl rfl <|
        (TR.l (r := AV.b false) rfl rfl (LOp.pick_false rfl rfl rfl) <|
        (TR.l (r := AV.b false) rfl rfl (LOp.assign rfl rfl) <|
        TR.nil)))))))))))))))))))))))))))))))))) rfl (by kernel_rfl) rfl fills_nil rfl ?_
      iterate 34 refine ROps.dropS ?_
      refine ROps.drop0 ?_
      refine ROps.nil ?_
      refine RunC.ret ?_
      have hq := Option.some.inj h
      subst q0
      exact bodyQ.pure (.inr rfl) rfl (Res.one rfl (RV.tmp rfl))
  · refine RunC.region_draw (Γ' := []) 34 mixed 
      (TR.l (r := AV.ptr [AV.i64 a0, AV.i64 a1, AV.sl a2.length (a2.map AV.f32)]) rfl rfl (LOp.move rfl rfl) <|
      (TR.l (r := AV.ptr [AV.i64 a0, AV.i64 a1, AV.sl a2.length (a2.map AV.f32)]) rfl rfl (LOp.nilCheck_ptr rfl rfl) <|
      (TR.l (r := AV.ptr [AV.i64 a0, AV.i64 a1, AV.sl a2.length (a2.map AV.f32)]) rfl rfl (LOp.fap und27 rfl siz2 rfl rfl rfl) <|
      (TR.l (r := AV.i64 a0) rfl rfl (LOp.load1 agg2 rfl rfl) <|
      (TR.l (r := AV.ptr [AV.i64 a0, AV.i64 a1, AV.sl a2.length (a2.map AV.f32)]) rfl rfl (LOp.move rfl rfl) <|
      (TR.l (r := AV.ptr [AV.i64 a0, AV.i64 a1, AV.sl a2.length (a2.map AV.f32)]) rfl rfl (LOp.nilCheck_ptr rfl rfl) <|
      (TR.l (r := AV.ptr [AV.i64 a1, AV.sl a2.length (a2.map AV.f32)]) rfl rfl (LOp.fap und27 rfl siz2 rfl rfl rfl) <|
      (TR.l (r := AV.i64 a1) rfl rfl (LOp.load1 agg2 rfl rfl) <|
      (TR.d (r := AV.b false) (fs := []) rfl rfl (TOp.eqb (TOp.callB (CallAs.func ent87 rfl rfl) (Bors.cons (Bor.pure rfl) (Bors.cons (Bor.pure rfl) Bors.nil)) rfl rfl (s_l02Sides_ok a0 a1 r1 hf1)) hc2) <|
      (TR.l (r := AV.b false) rfl rfl (LOp.move rfl rfl) <|
      (TR.s rfl rfl <|
      (TR.s rfl rfl <|
      (TR.s rfl rfl <|
      (TR.s rfl rfl <|
      (TR.s rfl rfl <|
      (TR.s rfl rfl <|
      (TR.s rfl rfl <|
      (TR.s rfl rfl <|
      (TR.s rfl rfl <|
      (TR.s rfl rfl <|
      (TR.s rfl rfl <|
      (TR.s rfl rfl <|
      (TR.s rfl rfl <|
      (TR.s rfl rfl <|
      (TR.s rfl rfl <|
      (TR.l (r := AV.b false) rfl rfl (LOp.pick_false rfl rfl rfl) <|
      (TR.l (r := AV.b false) rfl rfl (LOp.move rfl rfl) <|
      (TR.s rfl rfl <|
      (TR.s rfl rfl <|
      (TR.s rfl rfl <|
      (TR.s rfl rfl <|
      (TR.s rfl rfl <|
      (TR.l (r := AV.b false) rfl rfl (LOp.pick_false rfl rfl rfl) <|
      (TR.l (r := AV.b false) rfl rfl (LOp.assign rfl rfl) <|
      TR.nil)))))))))))))))))))))))))))))))))) rfl (by kernel_rfl) rfl fills_nil rfl ?_
    iterate 34 refine ROps.dropS ?_
    refine ROps.drop0 ?_
    refine ROps.nil ?_
    refine RunC.ret ?_
    have hq := Option.some.inj h
    subst q0
    exact bodyQ.pure (.inr rfl) rfl (Res.one rfl (RV.tmp rfl))
noncomputable def s_l02Least (a0 : F) : Option (Bool) :=
  obind (s_l01Finite a0) fun (r1 : Bool) =>
  bsel r1 (
    some (fle .f32 (some 0) a0)) (
    some false)
theorem s_l02Least_ok (a0 : F) (q0 : Bool) (h : s_l02Least a0 = some q0) : Ev Try.prog 38 [AV.f32 a0] [] (AV.b q0) [] := by
  refine Ev.start Try.func38 rfl rfl 0 (τ := [(0, AV.f32 a0)]) rfl (Γ' := []) rfl (n := 9) rfl (g := 0) rfl ?_
  unfold s_l02Least at h
  refine RunC.seq ?_
  refine RunC.regionW ?_
  refine ROps.l (r := AV.b false) rfl rfl rfl (LOp.assign rfl rfl) ?_
  refine ROps.nil ?_
  refine RunC.seq ?_
  obtain ⟨r1, hf1, h⟩ := obind_some h
  rcases bsel_some h with ⟨hc2, h⟩ | ⟨hc2, h⟩
  · refine RunC.regionW ?_
    refine ROps.l (r := AV.f32 a0) rfl rfl rfl (LOp.move rfl rfl) ?_
    refine ROps.d (r := AV.b true) (fs := []) (Γ' := []) rfl rfl rfl (TOp.eqb (TOp.callB (CallAs.func ent58 rfl rfl) (Bors.cons (Bor.pure rfl) Bors.nil) rfl rfl (s_l01Finite_ok a0 r1 hf1)) hc2) rfl ?_
    refine ROps.l (r := AV.b true) rfl rfl rfl (LOp.move rfl rfl) ?_
    refine ROps.l (r := AV.f32 a0) rfl rfl rfl (LOp.move rfl rfl) ?_
    refine ROps.l (r := AV.b (fle .f32 (some 0) a0)) rfl rfl rfl (LOp.fge rfl (OpF.tmp rfl) (OpF.const rfl (by kernel_rfl) (by kernel_rfl))) ?_
    refine ROps.l (r := AV.b (fle .f32 (some 0) a0)) rfl rfl rfl (LOp.pick_true rfl rfl rfl) ?_
    refine ROps.l (r := AV.b (fle .f32 (some 0) a0)) rfl rfl rfl (LOp.assign rfl rfl) ?_
    refine ROps.nil ?_
    refine RunC.ret ?_
    have hq := Option.some.inj h
    subst q0
    exact bodyQ.pure (.inr rfl) rfl (Res.one rfl (RV.tmp rfl))
  · refine RunC.regionW ?_
    refine ROps.l (r := AV.f32 a0) rfl rfl rfl (LOp.move rfl rfl) ?_
    refine ROps.d (r := AV.b false) (fs := []) (Γ' := []) rfl rfl rfl (TOp.eqb (TOp.callB (CallAs.func ent58 rfl rfl) (Bors.cons (Bor.pure rfl) Bors.nil) rfl rfl (s_l01Finite_ok a0 r1 hf1)) hc2) rfl ?_
    refine ROps.l (r := AV.b false) rfl rfl rfl (LOp.move rfl rfl) ?_
    refine ROps.s rfl rfl rfl ?_
    refine ROps.s rfl rfl rfl ?_
    refine ROps.l (r := AV.b false) rfl rfl rfl (LOp.pick_false rfl rfl rfl) ?_
    refine ROps.l (r := AV.b false) rfl rfl rfl (LOp.assign rfl rfl) ?_
    refine ROps.nil ?_
    refine RunC.ret ?_
    have hq := Option.some.inj h
    subst q0
    exact bodyQ.pure (.inr rfl) rfl (Res.one rfl (RV.tmp rfl))
noncomputable def s_l02Own (a0 : Int) (a1 : Int) (a2 : List F) : Option (Int × Int × (List F)) :=
  need (apok 4 0 a2.length) <|
  some (a0, a1, (([] : List F) ++ a2))
theorem s_l02Own_ok (a0 : Int) (a1 : Int) (a2 : List F) (q0 : Int) (q1 : Int) (q2 : List F) (h : s_l02Own a0 a1 a2 = some (q0, q1, q2)) : Ev Try.prog 40 [AV.ptr [AV.i64 a0, AV.i64 a1, AV.sl a2.length (a2.map AV.f32)]] [] (AV.agg [AV.i64 q0, AV.i64 q1, AV.oref 0 0 0 q2.length]) [⟨0, some (q2.map AV.f32)⟩] := by
  refine Ev.start Try.func40 rfl rfl 2 (τ := [(0, AV.ptr [AV.i64 a0, AV.i64 a1, AV.sl a2.length (a2.map AV.f32)])]) rfl (Γ' := [⟨0, none⟩, ⟨0, none⟩]) rfl (n := 18) rfl (g := 0) rfl ?_
  unfold s_l02Own at h
  refine RunC.seq ?_
  refine RunC.regionW ?_
  refine ROps.d (r := AV.optr 0 1 0) (fs := [(0, [AV.i64 0, AV.i64 0, AV.nilsl])]) (Γ' := [⟨1, some [AV.i64 0, AV.i64 0, AV.nilsl]⟩, ⟨0, none⟩]) rfl rfl rfl (TOp.alloc_o (g := ⟨0, none⟩) 0 rfl zer27 zok27 rfl) rfl ?_
  refine ROps.nil ?_
  refine RunC.seq ?_
  obtain ⟨hm1, h⟩ := need_some h
  refine RunC.region_draw (Γ' := [⟨1, some [AV.i64 0, AV.i64 0, AV.nilsl]⟩, ⟨1, some (([] : List F).map AV.f32)⟩]) 13 mixed 
    (TR.loose (r := AV.ptr [AV.i64 a0, AV.i64 a1, AV.sl a2.length (a2.map AV.f32)]) rfl rfl (LOp.move rfl rfl) <|
    (TR.loose (r := AV.ptr [AV.i64 a0, AV.i64 a1, AV.sl a2.length (a2.map AV.f32)]) rfl rfl (LOp.nilCheck_ptr rfl rfl) <|
    (TR.loose (r := AV.ptr [AV.i64 a0, AV.i64 a1, AV.sl a2.length (a2.map AV.f32)]) rfl rfl (LOp.fap und27 rfl siz2 rfl rfl rfl) <|
    (TR.loose (r := AV.i64 a0) rfl rfl (LOp.load1 agg2 rfl rfl) <|
    (TR.loose (r := AV.ptr [AV.i64 a0, AV.i64 a1, AV.sl a2.length (a2.map AV.f32)]) rfl rfl (LOp.move rfl rfl) <|
    (TR.loose (r := AV.ptr [AV.i64 a0, AV.i64 a1, AV.sl a2.length (a2.map AV.f32)]) rfl rfl (LOp.nilCheck_ptr rfl rfl) <|
    (TR.loose (r := AV.ptr [AV.i64 a1, AV.sl a2.length (a2.map AV.f32)]) rfl rfl (LOp.fap und27 rfl siz2 rfl rfl rfl) <|
    (TR.loose (r := AV.i64 a1) rfl rfl (LOp.load1 agg2 rfl rfl) <|
    (TR.d (r := AV.oref 1 1 0 0) (fs := [(1, (([] : List F).map AV.f32))]) rfl rfl (TOp.buildSlice_o (g := ⟨0, none⟩) (za := AV.f32 (some 0)) (qs := []) 1 rfl und22 siz25 zer25 rfl zel25 rfl rfl trivial rfl) <|
    (TR.l (r := AV.ptr [AV.i64 a0, AV.i64 a1, AV.sl a2.length (a2.map AV.f32)]) rfl rfl (LOp.move rfl rfl) <|
    (TR.l (r := AV.ptr [AV.i64 a0, AV.i64 a1, AV.sl a2.length (a2.map AV.f32)]) rfl rfl (LOp.nilCheck_ptr rfl rfl) <|
    (TR.l (r := AV.ptr [AV.sl a2.length (a2.map AV.f32)]) rfl rfl (LOp.fap und27 rfl siz22 rfl rfl rfl) <|
    (TR.l (r := AV.sl a2.length (a2.map AV.f32)) rfl rfl (LOp.load1 agg22 rfl rfl) <|
    TR.nil))))))))))))) rfl (by kernel_rfl) rfl (fills_of (by show List.Nodup [1]; decide) ⟨⟨_, rfl⟩, trivial⟩) rfl ?_
  iterate 13 refine ROps.dropS ?_
  refine ROps.drop0 ?_
  refine ROps.app (f := AV.f32) (xs := ([] : List F)) (ys := a2) (Γ' := [⟨1, some [AV.i64 0, AV.i64 0, AV.nilsl]⟩, ⟨2, some ((([] : List F) ++ a2).map AV.f32)⟩]) rfl pun22 inf25 rfl rfl rfl rfl rfl rfl rfl rfl rfl (by simp) (ReadAs.sl (by simp)) (ones_map (fun _ => rfl)) (ap_by hm1) (ap_mx hm1) rfl ?_
  refine ROps.l (r := AV.agg [AV.i64 a0, AV.i64 a1, AV.oref 1 2 0 (0 + a2.length)]) rfl rfl rfl (LOp.build (qs := [(0, [AV.i64 a0]), (1, [AV.i64 a1]), (2, [AV.oref 1 2 0 (0 + a2.length)])]) zer27 zok27 und27 plc27 rfl ⟨rfl, ⟨_, ALe.refl _, rfl⟩, ⟨rfl, ⟨_, ALe.refl _, rfl⟩, ⟨rfl, ⟨_, ALe.refl _, rfl⟩, trivial⟩⟩⟩ rfl) ?_
  refine ROps.store_le (r := AV.agg [AV.i64 a0, AV.i64 a1, AV.oref 1 2 0 (0 + a2.length)]) (l' := [AV.i64 a0, AV.i64 a1, AV.oref 1 2 0 (0 + a2.length)]) (Γ' := [⟨1, some [AV.i64 a0, AV.i64 a1, AV.oref 1 2 0 (0 + a2.length)]⟩, ⟨2, some ((([] : List F) ++ a2).map AV.f32)⟩]) rfl siz27 rfl rfl rfl (ALe.refl _) rfl rfl rfl rfl (Nat.le_of_ble_eq_true rfl) rfl rfl ?_
  refine ROps.nil ?_
  refine RunC.ret ?_
  have hq := Option.some.inj h
  obtain ⟨hq0, hq⟩ := Prod.mk.inj hq
  obtain ⟨hq1, hq⟩ := Prod.mk.inj hq
  subst q0
  subst q1
  subst q2
  exact bodyQ.mk (r' := AV.agg [AV.i64 a0, AV.i64 a1, AV.oref 1 2 0 ((([] : List F) ++ a2).length)]) [(1, 2)] (.inr rfl) rfl (show List.Nodup [1] from by decide) rfl rfl (Res.eq (Res.one rfl (RV.cell agg27 siz27 rfl rfl rfl rfl)) (by rw [(show (([] : List F) ++ a2).length = (0 + a2.length) from (app_len rfl rfl))] <;> rfl)) (SelL.arr0 (f := AV.f32) (fun _ => rfl) rfl trivial)
noncomputable def s_l02Zero (a0 : Int) (a1 : Int) : Option (Int × Int × (List F)) :=
  olet (IntKind.i64.wrap (a0 * a1)) fun (x1 : Int) =>
  need (mkok 4 x1) <|
  some (a0, a1, (List.replicate x1.toNat (some 0)))
theorem s_l02Zero_ok (a0 : Int) (a1 : Int) (q0 : Int) (q1 : Int) (q2 : List F) (h : s_l02Zero a0 a1 = some (q0, q1, q2)) : Ev Try.prog 41 [AV.i64 a0, AV.i64 a1] [] (AV.agg [AV.i64 q0, AV.i64 q1, AV.oref 0 0 0 q2.length]) [⟨0, some (q2.map AV.f32)⟩] := by
  refine Ev.start Try.func41 rfl rfl 2 (τ := [(0, AV.i64 a0), (1, AV.i64 a1)]) rfl (Γ' := [⟨0, none⟩, ⟨0, none⟩]) rfl (n := 12) rfl (g := 0) rfl ?_
  unfold s_l02Zero at h
  refine RunC.seq ?_
  refine RunC.regionW ?_
  refine ROps.d (r := AV.optr 0 1 0) (fs := [(0, [AV.i64 0, AV.i64 0, AV.nilsl])]) (Γ' := [⟨1, some [AV.i64 0, AV.i64 0, AV.nilsl]⟩, ⟨0, none⟩]) rfl rfl rfl (TOp.alloc_o (g := ⟨0, none⟩) 0 rfl zer27 zok27 rfl) rfl ?_
  refine ROps.nil ?_
  refine RunC.seq ?_
  obtain ⟨x1, hx1, h⟩ := olet_some h
  obtain ⟨hm2, h⟩ := need_some h
  refine RunC.regionW ?_
  refine ROps.l (r := AV.i64 a0) rfl rfl rfl (LOp.move rfl rfl) ?_
  refine ROps.l (r := AV.i64 a1) rfl rfl rfl (LOp.move rfl rfl) ?_
  refine ROps.l (r := AV.i64 a0) rfl rfl rfl (LOp.move rfl rfl) ?_
  refine ROps.l (r := AV.i64 a1) rfl rfl rfl (LOp.move rfl rfl) ?_
  refine ROps.l (r := AV.i64 x1) rfl rfl rfl (LOp.eqr (LOp.mul rfl rfl rfl) (congrArg (AV.ik .i64) hx1)) ?_
  refine ROps.d (r := AV.oref 1 1 0 x1.toNat) (fs := [(1, ((List.replicate x1.toNat (some 0)).map AV.f32))]) (Γ' := [⟨1, some [AV.i64 0, AV.i64 0, AV.nilsl]⟩, ⟨1, some ((List.replicate x1.toNat (some 0)).map AV.f32)⟩]) rfl rfl rfl (TOp.mkS (g := ⟨0, none⟩) (t := 22) (e := 25) (by_ := 4) (f := AV.f32) (zv := some 0) 1 rfl und22 tin25 rfl siz25 zer25 rfl zel25 rfl rfl rfl hm2) rfl ?_
  refine ROps.l (r := AV.agg [AV.i64 a0, AV.i64 a1, AV.oref 1 1 0 x1.toNat]) rfl rfl rfl (LOp.build (qs := [(0, [AV.i64 a0]), (1, [AV.i64 a1]), (2, [AV.oref 1 1 0 x1.toNat])]) zer27 zok27 und27 plc27 rfl ⟨rfl, ⟨_, ALe.refl _, rfl⟩, ⟨rfl, ⟨_, ALe.refl _, rfl⟩, ⟨rfl, ⟨_, ALe.refl _, rfl⟩, trivial⟩⟩⟩ rfl) ?_
  refine ROps.store_le (r := AV.agg [AV.i64 a0, AV.i64 a1, AV.oref 1 1 0 x1.toNat]) (l' := [AV.i64 a0, AV.i64 a1, AV.oref 1 1 0 x1.toNat]) (Γ' := [⟨1, some [AV.i64 a0, AV.i64 a1, AV.oref 1 1 0 x1.toNat]⟩, ⟨1, some ((List.replicate x1.toNat (some 0)).map AV.f32)⟩]) rfl siz27 rfl rfl rfl (ALe.refl _) rfl rfl rfl rfl (Nat.le_of_ble_eq_true rfl) rfl rfl ?_
  refine ROps.nil ?_
  refine RunC.ret ?_
  have hq := Option.some.inj h
  obtain ⟨hq0, hq⟩ := Prod.mk.inj hq
  obtain ⟨hq1, hq⟩ := Prod.mk.inj hq
  subst q0
  subst q1
  subst q2
  exact bodyQ.mk (r' := AV.agg [AV.i64 a0, AV.i64 a1, AV.oref 1 1 0 ((List.replicate x1.toNat (some 0)).length)]) [(1, 1)] (.inr rfl) rfl (show List.Nodup [1] from by decide) rfl rfl (Res.eq (Res.one rfl (RV.cell agg27 siz27 rfl rfl rfl rfl)) (by rw [(show (List.replicate x1.toNat (some 0)).length = x1.toNat from by simp)] <;> rfl)) (SelL.arr0 (f := AV.f32) (fun _ => rfl) rfl trivial)
noncomputable def s_l02Size (a0 : F) : Option (F) :=
  bsel (fle .f32 a0 (some 0)) (
    olet (fop .sub .f32 (some 0) a0) fun (x1 : F) =>
    some x1) (
    some a0)
theorem s_l02Size_ok (a0 : F) (q0 : F) (h : s_l02Size a0 = some q0) : Ev Try.prog 42 [AV.f32 a0] [] (AV.f32 q0) [] := by
  refine Ev.start Try.func42 rfl rfl 0 (τ := [(0, AV.f32 a0)]) rfl (Γ' := []) rfl (n := 8) rfl (g := 0) rfl ?_
  unfold s_l02Size at h
  refine RunC.seq ?_
  refine RunC.regionW ?_
  refine ROps.l (r := AV.f32 (some 0)) rfl rfl rfl (LOp.le (LOp.assign rfl rfl) (ALe.fl (by kernel_rfl) (by kernel_rfl))) ?_
  refine ROps.nil ?_
  refine RunC.seq ?_
  refine RunC.seq ?_
  rcases bsel_some h with ⟨hc1, h⟩ | ⟨hc1, h⟩
  · refine RunC.regionW ?_
    refine ROps.l (r := AV.f32 a0) rfl rfl rfl (LOp.move rfl rfl) ?_
    refine ROps.l (r := AV.b true) rfl rfl rfl (LOp.eqb (LOp.fle rfl (OpF.tmp rfl) (OpF.const rfl (by kernel_rfl) (by kernel_rfl))) hc1) ?_
    refine ROps.nil ?_
    refine RunC.cond_true rfl rfl ?_
    refine RunC.seq ?_
    obtain ⟨x1, hx2, h⟩ := olet_some h
    refine RunC.regionW ?_
    refine ROps.l (r := AV.f32 a0) rfl rfl rfl (LOp.move rfl rfl) ?_
    refine ROps.d (r := AV.f32 x1) (fs := []) (Γ' := []) rfl rfl rfl (TOp.eqr (TOp.fop (.inr (.inl rfl)) rfl (OpF.const rfl (by kernel_rfl) (by kernel_rfl)) (OpF.tmp rfl)) (congrArg (AV.f .f32) hx2)) rfl ?_
    refine ROps.l (r := AV.f32 x1) rfl rfl rfl (LOp.assign rfl rfl) ?_
    refine ROps.nil ?_
    refine RunC.ret ?_
    have hq := Option.some.inj h
    subst q0
    exact bodyQ.pure (.inr rfl) rfl (Res.one rfl (RV.tmp rfl))
  · refine RunC.regionW ?_
    refine ROps.l (r := AV.f32 a0) rfl rfl rfl (LOp.move rfl rfl) ?_
    refine ROps.l (r := AV.b false) rfl rfl rfl (LOp.eqb (LOp.fle rfl (OpF.tmp rfl) (OpF.const rfl (by kernel_rfl) (by kernel_rfl))) hc1) ?_
    refine ROps.nil ?_
    refine RunC.cond_false rfl rfl ?_
    refine RunC.skip ?_
    refine RunC.seq ?_
    refine RunC.regionW ?_
    refine ROps.l (r := AV.f32 a0) rfl rfl rfl (LOp.move rfl rfl) ?_
    refine ROps.l (r := AV.f32 a0) rfl rfl rfl (LOp.assign rfl rfl) ?_
    refine ROps.nil ?_
    refine RunC.ret ?_
    have hq := Option.some.inj h
    subst q0
    exact bodyQ.pure (.inr rfl) rfl (Res.one rfl (RV.tmp rfl))
noncomputable def s_l02At (a0 : Int) (a1 : Int) (a2 : List F) (a3 : Int) (a4 : Int) : Option (F) :=
  olet (IntKind.i64.wrap (a3 * a1)) fun (x1 : Int) =>
  olet (IntKind.i64.wrap (x1 + a4)) fun (x2 : Int) =>
  obind (at? a2 x2) fun (e3 : F) =>
  some e3
theorem s_l02At_ok (a0 : Int) (a1 : Int) (a2 : List F) (a3 : Int) (a4 : Int) (q0 : F) (h : s_l02At a0 a1 a2 a3 a4 = some q0) : Ev Try.prog 43 [AV.ptr [AV.i64 a0, AV.i64 a1, AV.sl a2.length (a2.map AV.f32)], AV.i64 a3, AV.i64 a4] [] (AV.f32 q0) [] := by
  refine Ev.start Try.func43 rfl rfl 0 (τ := [(0, AV.ptr [AV.i64 a0, AV.i64 a1, AV.sl a2.length (a2.map AV.f32)]), (1, AV.i64 a3), (2, AV.i64 a4)]) rfl (Γ' := []) rfl (n := 21) rfl (g := 0) rfl ?_
  unfold s_l02At at h
  refine RunC.seq ?_
  refine RunC.regionW ?_
  refine ROps.l (r := AV.f32 (some 0)) rfl rfl rfl (LOp.le (LOp.assign rfl rfl) (ALe.fl (by kernel_rfl) (by kernel_rfl))) ?_
  refine ROps.nil ?_
  refine RunC.seq ?_
  obtain ⟨x1, hx1, h⟩ := olet_some h
  obtain ⟨x2, hx2, h⟩ := olet_some h
  obtain ⟨e3, he3, h⟩ := obind_some h
  refine RunC.region_draw (Γ' := []) 15 mixed 
    (TR.l (r := AV.ptr [AV.i64 a0, AV.i64 a1, AV.sl a2.length (a2.map AV.f32)]) rfl rfl (LOp.move rfl rfl) <|
    (TR.l (r := AV.ptr [AV.i64 a0, AV.i64 a1, AV.sl a2.length (a2.map AV.f32)]) rfl rfl (LOp.nilCheck_ptr rfl rfl) <|
    (TR.l (r := AV.ptr [AV.sl a2.length (a2.map AV.f32)]) rfl rfl (LOp.fap und27 rfl siz22 rfl rfl rfl) <|
    (TR.l (r := AV.sl a2.length (a2.map AV.f32)) rfl rfl (LOp.load1 agg22 rfl rfl) <|
    (TR.l (r := AV.i64 a3) rfl rfl (LOp.move rfl rfl) <|
    (TR.l (r := AV.ptr [AV.i64 a0, AV.i64 a1, AV.sl a2.length (a2.map AV.f32)]) rfl rfl (LOp.move rfl rfl) <|
    (TR.l (r := AV.ptr [AV.i64 a0, AV.i64 a1, AV.sl a2.length (a2.map AV.f32)]) rfl rfl (LOp.nilCheck_ptr rfl rfl) <|
    (TR.l (r := AV.ptr [AV.i64 a1, AV.sl a2.length (a2.map AV.f32)]) rfl rfl (LOp.fap und27 rfl siz2 rfl rfl rfl) <|
    (TR.l (r := AV.i64 a1) rfl rfl (LOp.load1 agg2 rfl rfl) <|
    (TR.l (r := AV.i64 x1) rfl rfl (LOp.eqr (LOp.mul rfl rfl rfl) (congrArg (AV.ik .i64) hx1)) <|
    (TR.l (r := AV.i64 a4) rfl rfl (LOp.move rfl rfl) <|
    (TR.l (r := AV.i64 x2) rfl rfl (LOp.eqr (LOp.add rfl rfl rfl) (congrArg (AV.ik .i64) hx2)) <|
    (TR.l (r := AV.ptr [AV.f32 e3]) rfl rfl (LOp.le (LOp.ix (f := AV.f32) und22 siz25 rfl rfl rfl rfl he3) ALe.ptr) <|
    (TR.l (r := AV.f32 e3) rfl rfl (LOp.load1 agg25 rfl rfl) <|
    (TR.l (r := AV.f32 e3) rfl rfl (LOp.assign rfl rfl) <|
    TR.nil))))))))))))))) rfl (by kernel_rfl) rfl fills_nil rfl ?_
  iterate 15 refine ROps.dropS ?_
  refine ROps.drop0 ?_
  refine ROps.nil ?_
  refine RunC.ret ?_
  have hq := Option.some.inj h
  subst q0
  exact bodyQ.pure (.inr rfl) rfl (Res.one rfl (RV.tmp rfl))
noncomputable def s_CrossOf_k10 (v22 : Int) (v27 : Int) : Option (LR (Int × Int) (Int) (Int × Int × Bool × (List F) × (List Int) × (List Int))) :=
  olet (IntKind.i64.wrap (v22 + 1)) fun (x30 : Int) =>
  some (LR.next (v27, x30))
noncomputable def s_CrossOf_b11 (r6 : List F) (L14 : List F) (v21 : Int) (v22 : Int) : Option (LR (Int × Int) (Int) (Int × Int × Bool × (List F) × (List Int) × (List Int))) :=
  bsel (decide (v22 < ((r6.length : Nat) : Int))) (
    obind (at? L14 v22) fun (e23 : F) =>
    obind (s_l02Size e23) fun (r24 : F) =>
    obind (at? L14 v21) fun (e25 : F) =>
    obind (s_l02Size e25) fun (r26 : F) =>
    bsel (flt .f32 r26 r24) (
      s_CrossOf_k10 v22 v22) (
      s_CrossOf_k10 v22 v21)) (
    some (LR.out v21))
noncomputable def s_CrossOf_s11 (r6 : List F) (L14 : List F) : (Int × Int) → Option (LR (Int × Int) (Int) (Int × Int × Bool × (List F) × (List Int) × (List Int))) := fun s => s_CrossOf_b11 r6 L14 s.1 s.2
noncomputable def s_CrossOf_b13 (a1 : Int) (x36 : Int) (r38 : Int) (r39 : Int) (r40 : List F) (v45 : Int) (x47 : F) (L48 : List F) (L50 : List F) (v52 : Int) : Option (LR ((List F) × (List F) × Int) ((List F) × (List F)) (Int × Int × Bool × (List F) × (List Int) × (List Int))) :=
  bsel (decide (v52 < a1)) (
    olet (IntKind.i64.wrap (v45 * a1)) fun (x53 : Int) =>
    olet (IntKind.i64.wrap (x53 + v52)) fun (x54 : Int) =>
    obind (s_l02At r38 r39 r40 x36 v52) fun (r55 : F) =>
    olet (fop .mul .f32 x47 r55) fun (x56 : F) =>
    obind (at? L50 x54) fun (e57 : F) =>
    olet (fop .add .f32 e57 x56) fun (x58 : F) =>
    obind (setAt? L50 x54 x58) fun (L59 : List F) =>
    obind (at? L48 x54) fun (e60 : F) =>
    olet (fop .sub .f32 e60 x56) fun (x61 : F) =>
    obind (setAt? L48 x54 x61) fun (L62 : List F) =>
    olet (IntKind.i64.wrap (v52 + 1)) fun (x63 : Int) =>
    some (LR.next (L62, L59, x63))) (
    some (LR.out (L48, L50)))
noncomputable def s_CrossOf_s13 (a1 : Int) (x36 : Int) (r38 : Int) (r39 : Int) (r40 : List F) (v45 : Int) (x47 : F) : ((List F) × (List F) × Int) → Option (LR ((List F) × (List F) × Int) ((List F) × (List F)) (Int × Int × Bool × (List F) × (List Int) × (List Int))) := fun s => s_CrossOf_b13 a1 x36 r38 r39 r40 v45 x47 s.1 s.2.1 s.2.2
noncomputable def s_CrossOf_k13 (v45 : Int) (L64 : List F) (L66 : List F) : Option (LR ((List F) × (List F) × Int) ((List F) × (List F)) (Int × Int × Bool × (List F) × (List Int) × (List Int))) :=
  olet (IntKind.i64.wrap (v45 + 1)) fun (x68 : Int) =>
  some (LR.next (L64, L66, x68))
noncomputable def s_CrossOf_b14 (a0 : Int) (a1 : Int) (e34 : F) (x36 : Int) (x37 : Int) (r38 : Int) (r39 : Int) (r40 : List F) (L41 : List F) (L43 : List F) (v45 : Int) : Option (LR ((List F) × (List F) × Int) ((List F) × (List F)) (Int × Int × Bool × (List F) × (List Int) × (List Int))) :=
  bsel (decide (v45 < a0)) (
    obind (s_l02At r38 r39 r40 v45 x37) fun (r46 : F) =>
    olet (fop .quo .f32 r46 e34) fun (x47 : F) =>
    obind (loopM (s_CrossOf_s13 a1 x36 r38 r39 r40 v45 x47) (L41, L43, 0)) fun z => osum z (fun e => s_CrossOf_k13 v45 e.1 e.2) (fun r => some (LR.ret r))) (
    some (LR.out (L41, L43)))
noncomputable def s_CrossOf_s14 (a0 : Int) (a1 : Int) (e34 : F) (x36 : Int) (x37 : Int) (r38 : Int) (r39 : Int) (r40 : List F) : ((List F) × (List F) × Int) → Option (LR ((List F) × (List F) × Int) ((List F) × (List F)) (Int × Int × Bool × (List F) × (List Int) × (List Int))) := fun s => s_CrossOf_b14 a0 a1 e34 x36 x37 r38 r39 r40 s.1 s.2.1 s.2.2
noncomputable def s_CrossOf_k14 (r4 : Int) (r5 : Int) (r7 : Int) (r8 : Int) (L18 : List Int) (L19 : List Int) (v20 : Int) (x36 : Int) (x37 : Int) (L69 : List F) (L71 : List F) : Option (LR ((List F) × (List F) × (List Int) × (List Int) × Int) ((List F) × (List Int) × (List Int)) (Int × Int × Bool × (List F) × (List Int) × (List Int))) :=
  obind (s_l02Is r4 r5 L69) fun (r73 : Bool) =>
  bsel r73 (
    obind (s_l02Is r7 r8 L71) fun (r74 : Bool) =>
    bsel r74 (
      need (apok 8 L18.length 1) <|
      need (apok 8 L19.length 1) <|
      olet (IntKind.i64.wrap (v20 - 1)) fun (x75 : Int) =>
      some (LR.next (L69, L71, (L18 ++ ([x36] : List Int)), (L19 ++ ([x37] : List Int)), x75))) (
      some (LR.ret (0, 0, false, ([] : List F), ([] : List Int), ([] : List Int))))) (
    some (LR.ret (0, 0, false, ([] : List F), ([] : List Int), ([] : List Int))))
noncomputable def s_CrossOf_k11 (a0 : Int) (a1 : Int) (a3 : F) (r4 : Int) (r5 : Int) (r7 : Int) (r8 : Int) (L14 : List F) (L16 : List F) (L18 : List Int) (L19 : List Int) (v20 : Int) (v33 : Int) : Option (LR ((List F) × (List F) × (List Int) × (List Int) × Int) ((List F) × (List Int) × (List Int)) (Int × Int × Bool × (List F) × (List Int) × (List Int))) :=
  obind (at? L14 v33) fun (e34 : F) =>
  obind (s_l02Size e34) fun (r35 : F) =>
  bsel (fle .f32 r35 a3) (
    some (LR.out (L16, L18, L19))) (
    need (!decide (a1 = 0)) <|
    olet (IntKind.i64.wrap (v33.tdiv a1)) fun (x36 : Int) =>
    need (!decide (a1 = 0)) <|
    olet (v33.tmod a1) fun (x37 : Int) =>
    obind3 (s_l02Own r4 r5 L14) fun (r38 : Int) (r39 : Int) (r40 : List F) =>
    obind (loopM (s_CrossOf_s14 a0 a1 e34 x36 x37 r38 r39 r40) (L14, L16, 0)) fun z => osum z (fun e => s_CrossOf_k14 r4 r5 r7 r8 L18 L19 v20 x36 x37 e.1 e.2) (fun r => some (LR.ret r)))
noncomputable def s_CrossOf_b15 (a0 : Int) (a1 : Int) (a3 : F) (r4 : Int) (r5 : Int) (r6 : List F) (r7 : Int) (r8 : Int) (L14 : List F) (L16 : List F) (L18 : List Int) (L19 : List Int) (v20 : Int) : Option (LR ((List F) × (List F) × (List Int) × (List Int) × Int) ((List F) × (List Int) × (List Int)) (Int × Int × Bool × (List F) × (List Int) × (List Int))) :=
  bsel (decide (0 < v20)) (
    obind (loopM (s_CrossOf_s11 r6 L14) (0, 0)) fun z => osum z (fun e => s_CrossOf_k11 a0 a1 a3 r4 r5 r7 r8 L14 L16 L18 L19 v20 e) (fun r => some (LR.ret r))) (
    some (LR.out (L16, L18, L19)))
noncomputable def s_CrossOf_s15 (a0 : Int) (a1 : Int) (a3 : F) (r4 : Int) (r5 : Int) (r6 : List F) (r7 : Int) (r8 : Int) : ((List F) × (List F) × (List Int) × (List Int) × Int) → Option (LR ((List F) × (List F) × (List Int) × (List Int) × Int) ((List F) × (List Int) × (List Int)) (Int × Int × Bool × (List F) × (List Int) × (List Int))) := fun s => s_CrossOf_b15 a0 a1 a3 r4 r5 r6 r7 r8 s.1 s.2.1 s.2.2.1 s.2.2.2.1 s.2.2.2.2
noncomputable def s_CrossOf_k15 (r7 : Int) (r8 : Int) (L80 : List F) (L82 : List Int) (L83 : List Int) : Option (Int × Int × Bool × (List F) × (List Int) × (List Int)) :=
  some (r7, r8, true, L80, L82, L83)
noncomputable def s_CrossOf (a0 : Int) (a1 : Int) (a2 : List F) (a3 : F) (a4 : Int) : Option (Int × Int × Bool × (List F) × (List Int) × (List Int)) :=
  obind (s_l02Is a0 a1 a2) fun (r1 : Bool) =>
  bsel r1 (
    obind (s_l02Least a3) fun (r2 : Bool) =>
    bsel r2 (
      obind (s_l00In a4 1 12) fun (r3 : Bool) =>
      bsel r3 (
        obind3 (s_l02Own a0 a1 a2) fun (r4 : Int) (r5 : Int) (r6 : List F) =>
        obind3 (s_l02Zero a0 a1) fun (r7 : Int) (r8 : Int) (r9 : List F) =>
        obind (loopM (s_CrossOf_s15 a0 a1 a3 r4 r5 r6 r7 r8) (r6, r9, ([] : List Int), ([] : List Int), a4)) fun z => osum z (fun e => s_CrossOf_k15 r7 r8 e.1 e.2.1 e.2.2) (fun r => some r)) (
        some (0, 0, false, ([] : List F), ([] : List Int), ([] : List Int)))) (
      some (0, 0, false, ([] : List F), ([] : List Int), ([] : List Int)))) (
    some (0, 0, false, ([] : List F), ([] : List Int), ([] : List Int)))
theorem s_CrossOf_ok (a0 : Int) (a1 : Int) (a2 : List F) (a3 : F) (a4 : Int) (q0 : Int) (q1 : Int) (q2 : Bool) (q3 : List F) (q4 : List Int) (q5 : List Int) (h : s_CrossOf a0 a1 a2 a3 a4 = some (q0, q1, q2, q3, q4, q5)) : Ev Try.prog 10 [AV.agg [AV.i64 a0, AV.i64 a1, AV.sl a2.length (a2.map AV.f32)], AV.f32 a3, AV.i64 a4] [] (AV.tup [AV.agg [AV.i64 q0, AV.i64 q1, AV.oref 0 0 0 q3.length], AV.oref 1 0 0 q4.length, AV.oref 2 0 0 q5.length, AV.b q2]) [⟨0, some (q3.map AV.f32)⟩, ⟨0, some (q4.map AV.i64)⟩, ⟨0, some (q5.map AV.i64)⟩] := by
  refine Ev.start Try.func10 rfl rfl 10 (τ := [(0, AV.agg [AV.i64 a0, AV.i64 a1, AV.sl a2.length (a2.map AV.f32)]), (1, AV.f32 a3), (2, AV.i64 a4)]) rfl (Γ' := [⟨0, none⟩, ⟨0, none⟩, ⟨0, none⟩, ⟨0, none⟩, ⟨0, none⟩, ⟨0, none⟩, ⟨0, none⟩, ⟨0, none⟩, ⟨0, none⟩, ⟨0, none⟩]) rfl (n := 157) rfl (g := 0) rfl ?_
  unfold s_CrossOf at h
  refine RunC.seq ?_
  refine RunC.regionW ?_
  refine ROps.d (r := AV.ptr [AV.i64 a0, AV.i64 a1, AV.sl a2.length (a2.map AV.f32)]) (fs := []) (Γ' := [⟨0, none⟩, ⟨0, none⟩, ⟨0, none⟩, ⟨0, none⟩, ⟨0, none⟩, ⟨0, none⟩, ⟨0, none⟩, ⟨0, none⟩, ⟨0, none⟩, ⟨0, none⟩]) rfl rfl rfl (TOp.box_s rfl rfl rfl) rfl ?_
  refine ROps.d (r := AV.optr 0 1 0) (fs := [(0, [AV.i64 0, AV.i64 0, AV.nilsl])]) (Γ' := [⟨1, some [AV.i64 0, AV.i64 0, AV.nilsl]⟩, ⟨0, none⟩, ⟨0, none⟩, ⟨0, none⟩, ⟨0, none⟩, ⟨0, none⟩, ⟨0, none⟩, ⟨0, none⟩, ⟨0, none⟩, ⟨0, none⟩]) rfl rfl rfl (TOp.alloc_o (g := ⟨0, none⟩) 0 rfl zer27 zok27 rfl) rfl ?_
  refine ROps.l (r := AV.nilsl) rfl rfl rfl (LOp.assign rfl rfl) ?_
  refine ROps.l (r := AV.nilsl) rfl rfl rfl (LOp.assign rfl rfl) ?_
  refine ROps.l (r := AV.b false) rfl rfl rfl (LOp.assign rfl rfl) ?_
  refine ROps.nil ?_
  refine RunC.seq ?_
  refine RunC.seq ?_
  obtain ⟨r1, hf1, h⟩ := obind_some h
  rcases bsel_some h with ⟨hc2, h⟩ | ⟨hc2, h⟩
  · obtain ⟨r2, hf3, h⟩ := obind_some h
    rcases bsel_some h with ⟨hc4, h⟩ | ⟨hc4, h⟩
    · obtain ⟨r3, hf5, h⟩ := obind_some h
      rcases bsel_some h with ⟨hc6, h⟩ | ⟨hc6, h⟩
      · refine RunC.regionW ?_
        refine ROps.d (r := AV.b true) (fs := []) (Γ' := [⟨1, some [AV.i64 0, AV.i64 0, AV.nilsl]⟩, ⟨0, none⟩, ⟨0, none⟩, ⟨0, none⟩, ⟨0, none⟩, ⟨0, none⟩, ⟨0, none⟩, ⟨0, none⟩, ⟨0, none⟩, ⟨0, none⟩]) rfl rfl rfl (TOp.eqb (TOp.callB (CallAs.func ent37 rfl rfl) (Bors.cons (Bor.ptr (Bors.cons (Bor.pure rfl) (Bors.cons (Bor.pure rfl) (Bors.cons (Bor.sl (fun _ => rfl)) Bors.nil)))) Bors.nil) rfl rfl (s_l02Is_ok a0 a1 a2 r1 hf1)) hc2) rfl ?_
        refine ROps.l (r := AV.b false) rfl rfl rfl (LOp.eqb (LOp.not rfl rfl) rfl) ?_
        refine ROps.l (r := AV.b false) rfl rfl rfl (LOp.move rfl rfl) ?_
        refine ROps.l (r := AV.f32 a3) rfl rfl rfl (LOp.move rfl rfl) ?_
        refine ROps.d (r := AV.b true) (fs := []) (Γ' := [⟨1, some [AV.i64 0, AV.i64 0, AV.nilsl]⟩, ⟨0, none⟩, ⟨0, none⟩, ⟨0, none⟩, ⟨0, none⟩, ⟨0, none⟩, ⟨0, none⟩, ⟨0, none⟩, ⟨0, none⟩, ⟨0, none⟩]) rfl rfl rfl (TOp.eqb (TOp.callB (CallAs.func ent38 rfl rfl) (Bors.cons (Bor.pure rfl) Bors.nil) rfl rfl (s_l02Least_ok a3 r2 hf3)) hc4) rfl ?_
        refine ROps.l (r := AV.b false) rfl rfl rfl (LOp.eqb (LOp.not rfl rfl) rfl) ?_
        refine ROps.l (r := AV.b false) rfl rfl rfl (LOp.pick_false rfl rfl rfl) ?_
        refine ROps.l (r := AV.b false) rfl rfl rfl (LOp.move rfl rfl) ?_
        refine ROps.l (r := AV.i64 a4) rfl rfl rfl (LOp.move rfl rfl) ?_
        refine ROps.d (r := AV.b true) (fs := []) (Γ' := [⟨1, some [AV.i64 0, AV.i64 0, AV.nilsl]⟩, ⟨0, none⟩, ⟨0, none⟩, ⟨0, none⟩, ⟨0, none⟩, ⟨0, none⟩, ⟨0, none⟩, ⟨0, none⟩, ⟨0, none⟩, ⟨0, none⟩]) rfl rfl rfl (TOp.eqb (TOp.callB (CallAs.func ent39 rfl rfl) (Bors.cons (Bor.pure rfl) (Bors.cons (Bor.pure rfl) (Bors.cons (Bor.pure rfl) Bors.nil))) rfl rfl (s_l00In_ok a4 1 12 r3 hf5)) hc6) rfl ?_
        refine ROps.l (r := AV.b false) rfl rfl rfl (LOp.eqb (LOp.not rfl rfl) rfl) ?_
        refine ROps.l (r := AV.b false) rfl rfl rfl (LOp.pick_false rfl rfl rfl) ?_
        refine ROps.nil ?_
        refine RunC.wl (τ' := [(1, AV.f32 a3), (2, AV.i64 a4), (3, AV.ptr [AV.i64 a0, AV.i64 a1, AV.sl a2.length (a2.map AV.f32)]), (6, AV.optr 0 1 0), (36, AV.b false)]) (Γ' := [⟨1, some [AV.i64 0, AV.i64 0, AV.nilsl]⟩, ⟨0, none⟩, ⟨0, none⟩, ⟨0, none⟩, ⟨0, none⟩, ⟨0, none⟩, ⟨0, none⟩, ⟨0, none⟩, ⟨0, none⟩, ⟨0, none⟩]) ⟨(ALe.refl _), (ALe.refl _), (ALe.refl _), (ALe.refl _), (ALe.refl _), trivial⟩ ⟨⟨rfl, .inr rfl⟩, ⟨rfl, .inr rfl⟩, ⟨rfl, .inr rfl⟩, ⟨rfl, .inr rfl⟩, ⟨rfl, .inr rfl⟩, ⟨rfl, .inr rfl⟩, ⟨rfl, .inr rfl⟩, ⟨rfl, .inr rfl⟩, ⟨rfl, .inr rfl⟩, ⟨rfl, .inr rfl⟩, trivial⟩ ?_
        refine RunC.cond_false rfl rfl ?_
        refine RunC.skip ?_
        refine RunC.seq ?_
        obtain ⟨r4, r5, r6, hf7, h⟩ := obind3_some h
        refine RunC.regionW ?_
        refine ROps.d (r := AV.agg [AV.i64 r4, AV.i64 r5, AV.oref 1 1 0 r6.length]) (fs := [(1, (r6.map AV.f32))]) (Γ' := [⟨1, some [AV.i64 0, AV.i64 0, AV.nilsl]⟩, ⟨1, some (r6.map AV.f32)⟩, ⟨0, none⟩, ⟨0, none⟩, ⟨0, none⟩, ⟨0, none⟩, ⟨0, none⟩, ⟨0, none⟩, ⟨0, none⟩, ⟨0, none⟩]) rfl rfl rfl (TOp.callBN (ls := [(r6.map AV.f32)]) [1] (CallAs.func ent40 rfl rfl) (Bors.cons (Bor.ptr (Bors.cons (Bor.pure rfl) (Bors.cons (Bor.pure rfl) (Bors.cons (Bor.sl (fun _ => rfl)) Bors.nil)))) Bors.nil) rfl (s_l02Own_ok a0 a1 a2 r4 r5 r6 hf7) (and_all (lts0_map (f := AV.f32) (fun _ => rfl) _) rfl) (and_all (noss_map (f := AV.f32) (fun _ => rfl) _) rfl) rfl (by decide) (ns_of ⟨⟨_, rfl⟩, trivial⟩)) rfl ?_
        refine ROps.d (r := AV.optr 2 1 0) (fs := [(2, [AV.i64 0, AV.i64 0, AV.nilsl])]) (Γ' := [⟨1, some [AV.i64 0, AV.i64 0, AV.nilsl]⟩, ⟨1, some (r6.map AV.f32)⟩, ⟨1, some [AV.i64 0, AV.i64 0, AV.nilsl]⟩, ⟨0, none⟩, ⟨0, none⟩, ⟨0, none⟩, ⟨0, none⟩, ⟨0, none⟩, ⟨0, none⟩, ⟨0, none⟩]) rfl rfl rfl (TOp.alloc_o (g := ⟨0, none⟩) 2 rfl zer27 zok27 rfl) rfl ?_
        refine ROps.store_le (r := AV.agg [AV.i64 r4, AV.i64 r5, AV.oref 1 1 0 r6.length]) (l' := [AV.i64 r4, AV.i64 r5, AV.oref 1 1 0 r6.length]) (Γ' := [⟨1, some [AV.i64 0, AV.i64 0, AV.nilsl]⟩, ⟨1, some (r6.map AV.f32)⟩, ⟨1, some [AV.i64 r4, AV.i64 r5, AV.oref 1 1 0 r6.length]⟩, ⟨0, none⟩, ⟨0, none⟩, ⟨0, none⟩, ⟨0, none⟩, ⟨0, none⟩, ⟨0, none⟩, ⟨0, none⟩]) rfl siz27 rfl rfl rfl (ALe.refl _) rfl rfl rfl rfl (Nat.le_of_ble_eq_true rfl) rfl rfl ?_
        refine ROps.nil ?_
        refine RunC.seq ?_
        obtain ⟨r7, r8, r9, hf8, h⟩ := obind3_some h
        refine RunC.regionW ?_
        refine ROps.l (r := AV.ptr [AV.i64 a0, AV.i64 a1, AV.sl a2.length (a2.map AV.f32)]) rfl rfl rfl (LOp.fap und27 rfl siz2 rfl rfl rfl) ?_
        refine ROps.l (r := AV.i64 a0) rfl rfl rfl (LOp.load1 agg2 rfl rfl) ?_
        refine ROps.l (r := AV.ptr [AV.i64 a1, AV.sl a2.length (a2.map AV.f32)]) rfl rfl rfl (LOp.fap und27 rfl siz2 rfl rfl rfl) ?_
        refine ROps.l (r := AV.i64 a1) rfl rfl rfl (LOp.load1 agg2 rfl rfl) ?_
        refine ROps.d (r := AV.agg [AV.i64 r7, AV.i64 r8, AV.oref 3 1 0 r9.length]) (fs := [(3, (r9.map AV.f32))]) (Γ' := [⟨1, some [AV.i64 0, AV.i64 0, AV.nilsl]⟩, ⟨1, some (r6.map AV.f32)⟩, ⟨1, some [AV.i64 r4, AV.i64 r5, AV.oref 1 1 0 r6.length]⟩, ⟨1, some (r9.map AV.f32)⟩, ⟨0, none⟩, ⟨0, none⟩, ⟨0, none⟩, ⟨0, none⟩, ⟨0, none⟩, ⟨0, none⟩]) rfl rfl rfl (TOp.callBN (ls := [(r9.map AV.f32)]) [3] (CallAs.func ent41 rfl rfl) (Bors.cons (Bor.pure rfl) (Bors.cons (Bor.pure rfl) Bors.nil)) rfl (s_l02Zero_ok a0 a1 r7 r8 r9 hf8) (and_all (lts0_map (f := AV.f32) (fun _ => rfl) _) rfl) (and_all (noss_map (f := AV.f32) (fun _ => rfl) _) rfl) rfl (by decide) (ns_of ⟨⟨_, rfl⟩, trivial⟩)) rfl ?_
        refine ROps.d (r := AV.optr 4 1 0) (fs := [(4, [AV.i64 0, AV.i64 0, AV.nilsl])]) (Γ' := [⟨1, some [AV.i64 0, AV.i64 0, AV.nilsl]⟩, ⟨1, some (r6.map AV.f32)⟩, ⟨1, some [AV.i64 r4, AV.i64 r5, AV.oref 1 1 0 r6.length]⟩, ⟨1, some (r9.map AV.f32)⟩, ⟨1, some [AV.i64 0, AV.i64 0, AV.nilsl]⟩, ⟨0, none⟩, ⟨0, none⟩, ⟨0, none⟩, ⟨0, none⟩, ⟨0, none⟩]) rfl rfl rfl (TOp.alloc_o (g := ⟨0, none⟩) 4 rfl zer27 zok27 rfl) rfl ?_
        refine ROps.store_le (r := AV.agg [AV.i64 r7, AV.i64 r8, AV.oref 3 1 0 r9.length]) (l' := [AV.i64 r7, AV.i64 r8, AV.oref 3 1 0 r9.length]) (Γ' := [⟨1, some [AV.i64 0, AV.i64 0, AV.nilsl]⟩, ⟨1, some (r6.map AV.f32)⟩, ⟨1, some [AV.i64 r4, AV.i64 r5, AV.oref 1 1 0 r6.length]⟩, ⟨1, some (r9.map AV.f32)⟩, ⟨1, some [AV.i64 r7, AV.i64 r8, AV.oref 3 1 0 r9.length]⟩, ⟨0, none⟩, ⟨0, none⟩, ⟨0, none⟩, ⟨0, none⟩, ⟨0, none⟩]) rfl siz27 rfl rfl rfl (ALe.refl _) rfl rfl rfl rfl (Nat.le_of_ble_eq_true rfl) rfl rfl ?_
        refine ROps.nil ?_
        refine RunC.seq ?_
        refine RunC.regionW ?_
        refine ROps.d (r := AV.oref 5 1 0 0) (fs := [(5, (([] : List Int).map AV.i64))]) (Γ' := [⟨1, some [AV.i64 0, AV.i64 0, AV.nilsl]⟩, ⟨1, some (r6.map AV.f32)⟩, ⟨1, some [AV.i64 r4, AV.i64 r5, AV.oref 1 1 0 r6.length]⟩, ⟨1, some (r9.map AV.f32)⟩, ⟨1, some [AV.i64 r7, AV.i64 r8, AV.oref 3 1 0 r9.length]⟩, ⟨1, some (([] : List Int).map AV.i64)⟩, ⟨0, none⟩, ⟨0, none⟩, ⟨0, none⟩, ⟨0, none⟩]) rfl rfl rfl (TOp.buildSlice_o (g := ⟨0, none⟩) (za := AV.i64 0) (qs := []) 5 rfl und28 siz2 zer2 rfl zel2 rfl rfl trivial rfl) rfl ?_
        refine ROps.l (r := AV.oref 5 1 0 0) rfl rfl rfl (LOp.assign rfl rfl) ?_
        refine ROps.nil ?_
        refine RunC.seq ?_
        refine RunC.regionW ?_
        refine ROps.d (r := AV.oref 6 1 0 0) (fs := [(6, (([] : List Int).map AV.i64))]) (Γ' := [⟨1, some [AV.i64 0, AV.i64 0, AV.nilsl]⟩, ⟨1, some (r6.map AV.f32)⟩, ⟨1, some [AV.i64 r4, AV.i64 r5, AV.oref 1 1 0 r6.length]⟩, ⟨1, some (r9.map AV.f32)⟩, ⟨1, some [AV.i64 r7, AV.i64 r8, AV.oref 3 1 0 r9.length]⟩, ⟨1, some (([] : List Int).map AV.i64)⟩, ⟨1, some (([] : List Int).map AV.i64)⟩, ⟨0, none⟩, ⟨0, none⟩, ⟨0, none⟩]) rfl rfl rfl (TOp.buildSlice_o (g := ⟨0, none⟩) (za := AV.i64 0) (qs := []) 6 rfl und28 siz2 zer2 rfl zel2 rfl rfl trivial rfl) rfl ?_
        refine ROps.l (r := AV.oref 6 1 0 0) rfl rfl rfl (LOp.assign rfl rfl) ?_
        refine ROps.nil ?_
        refine RunC.seq ?_
        obtain ⟨z16, hz_16, h⟩ := obind_some h
        refine RunC.cutN (fun τ Γ => ∃ (L80 : List F) (L82 : List Int) (L83 : List Int) (u76 : Nat) (u77 : Nat) (u78 : Nat) (u79 : Nat), L80.length = r9.length ∧ WeakLe τ [(6, AV.optr 0 1 0), (11, AV.optr 4 1 0), (12, AV.oref 5 u76 0 L82.length), (13, AV.oref 6 u77 0 L83.length)] ∧ DeadLe Γ [⟨1, some [AV.i64 0, AV.i64 0, AV.nilsl]⟩, ⟨1, none⟩, ⟨1, none⟩, ⟨1, some (L80.map AV.f32)⟩, ⟨1, some [AV.i64 r7, AV.i64 r8, AV.oref 3 1 0 r9.length]⟩, ⟨u76, some (L82.map AV.i64)⟩, ⟨u77, some (L83.map AV.i64)⟩, ⟨u78, none⟩, ⟨u79, none⟩, ⟨0, none⟩] ∧ z16 = .inl (L80, L82, L83)) ?_ ?_
        · refine RunC.block (RunC.loop (RunL.loopM (x := z16) (s_CrossOf_s15 a0 a1 a3 r4 r5 r6 r7 r8) (fun (s : (List F) × (List F) × (List Int) × (List Int) × Int) τ Γ => ∃ (u10 : Nat) (u11 : Nat) (u12 : Nat) (u13 : Nat), s.1.length = r6.length ∧ s.2.1.length = r9.length ∧ WeakLe τ [(1, AV.f32 a3), (2, AV.i64 s.2.2.2.2), (3, AV.ptr [AV.i64 a0, AV.i64 a1, AV.sl a2.length (a2.map AV.f32)]), (6, AV.optr 0 1 0), (10, AV.optr 2 1 0), (11, AV.optr 4 1 0), (12, AV.oref 5 u10 0 s.2.2.1.length), (13, AV.oref 6 u11 0 s.2.2.2.1.length)] ∧ DeadLe Γ [⟨1, some [AV.i64 0, AV.i64 0, AV.nilsl]⟩, ⟨1, some (s.1.map AV.f32)⟩, ⟨1, some [AV.i64 r4, AV.i64 r5, AV.oref 1 1 0 r6.length]⟩, ⟨1, some (s.2.1.map AV.f32)⟩, ⟨1, some [AV.i64 r7, AV.i64 r8, AV.oref 3 1 0 r9.length]⟩, ⟨u10, some (s.2.2.1.map AV.i64)⟩, ⟨u11, some (s.2.2.2.1.map AV.i64)⟩, ⟨u12, none⟩, ⟨u13, none⟩, ⟨0, none⟩]) ?_ _ _ _ hz_16 ⟨1, 1, 0, 0, rfl, rfl, ⟨(ALe.refl _), (ALe.refl _), (ALe.refl _), (ALe.refl _), (ALe.refl _), (ALe.refl _), (ALe.refl _), (ALe.refl _), trivial⟩, ⟨⟨rfl, .inr rfl⟩, ⟨rfl, .inr rfl⟩, ⟨rfl, .inr rfl⟩, ⟨rfl, .inr rfl⟩, ⟨rfl, .inr rfl⟩, ⟨rfl, .inr rfl⟩, ⟨rfl, .inr rfl⟩, ⟨rfl, .inl rfl⟩, ⟨rfl, .inl rfl⟩, ⟨rfl, .inr rfl⟩, trivial⟩⟩))
          rintro ⟨L14, L16, L18, L19, v20⟩ τ16 Γ16 y16_ ⟨u10, u11, u12, u13, hl15, hl17, hw16, hd16⟩ h16_ ho16 hr16
          refine RunC.wl (τ' := [(1, AV.f32 a3), (2, AV.i64 v20), (3, AV.ptr [AV.i64 a0, AV.i64 a1, AV.sl a2.length (a2.map AV.f32)]), (6, AV.optr 0 1 0), (10, AV.optr 2 1 0), (11, AV.optr 4 1 0), (12, AV.oref 5 u10 0 L18.length), (13, AV.oref 6 u11 0 L19.length)]) (Γ' := [⟨1, some [AV.i64 0, AV.i64 0, AV.nilsl]⟩, ⟨1, some (L14.map AV.f32)⟩, ⟨1, some [AV.i64 r4, AV.i64 r5, AV.oref 1 1 0 r6.length]⟩, ⟨1, some (L16.map AV.f32)⟩, ⟨1, some [AV.i64 r7, AV.i64 r8, AV.oref 3 1 0 r9.length]⟩, ⟨u10, some (L18.map AV.i64)⟩, ⟨u11, some (L19.map AV.i64)⟩, ⟨u12, none⟩, ⟨u13, none⟩, ⟨0, none⟩]) hw16 hd16 ?_
          replace hl15 : L14.length = r6.length := hl15
          replace hl17 : L16.length = r9.length := hl17
          replace h16_ : s_CrossOf_b15 a0 a1 a3 r4 r5 r6 r7 r8 L14 L16 L18 L19 v20 = some y16_ := h16_
          unfold s_CrossOf_b15 at h16_
          refine RunC.seq ?_
          refine RunC.seq ?_
          rcases bsel_some h16_ with ⟨hc9, h16_⟩ | ⟨hc9, h16_⟩
          · refine RunC.regionW ?_
            refine ROps.l (r := AV.i64 v20) rfl rfl rfl (LOp.move rfl rfl) ?_
            refine ROps.l (r := AV.b true) rfl rfl rfl (LOp.eqb (LOp.gtr rfl rfl rfl) hc9) ?_
            refine ROps.nil ?_
            refine RunC.cond_true rfl rfl ?_
            refine RunC.skip ?_
            refine RunC.seq ?_
            refine RunC.block ?_
            refine RunC.seq ?_
            refine RunC.regionW ?_
            refine ROps.l (r := AV.i64 0) rfl rfl rfl (LOp.assign rfl rfl) ?_
            refine ROps.nil ?_
            refine RunC.seq ?_
            refine RunC.seq ?_
            refine RunC.regionW ?_
            refine ROps.l (r := AV.optr 2 1 2) rfl rfl rfl (LOp.fao und27 rfl siz22 rfl rfl rfl) ?_
            refine ROps.d (r := AV.oref 1 1 0 r6.length) (fs := []) (Γ' := [⟨1, some [AV.i64 0, AV.i64 0, AV.nilsl]⟩, ⟨1, some (L14.map AV.f32)⟩, ⟨1, some [AV.i64 r4, AV.i64 r5, AV.oref 1 1 0 r6.length]⟩, ⟨1, some (L16.map AV.f32)⟩, ⟨1, some [AV.i64 r7, AV.i64 r8, AV.oref 3 1 0 r9.length]⟩, ⟨u10, some (L18.map AV.i64)⟩, ⟨u11, some (L19.map AV.i64)⟩, ⟨u12, none⟩, ⟨u13, none⟩, ⟨0, none⟩]) rfl rfl rfl (TOp.load1_o rfl rfl agg22 rfl rfl) rfl ?_
            refine ROps.l (r := AV.i64 ((r6.length : Nat) : Int)) rfl rfl rfl (LOp.len_oref und22 rfl rfl) ?_
            refine ROps.l (r := AV.i64 0) rfl rfl rfl (LOp.move rfl rfl) ?_
            refine ROps.nil ?_
            obtain ⟨z17, hz_17, h16_⟩ := obind_some h16_
            refine RunC.cutN (fun τ Γ => ∃ (v33 : Int), L14.length = r6.length ∧ L16.length = r9.length ∧ WeakLe τ [(1, AV.f32 a3), (2, AV.i64 v20), (3, AV.ptr [AV.i64 a0, AV.i64 a1, AV.sl a2.length (a2.map AV.f32)]), (6, AV.optr 0 1 0), (10, AV.optr 2 1 0), (11, AV.optr 4 1 0), (12, AV.oref 5 u10 0 L18.length), (13, AV.oref 6 u11 0 L19.length), (14, AV.i64 v33)] ∧ DeadLe Γ [⟨1, some [AV.i64 0, AV.i64 0, AV.nilsl]⟩, ⟨1, some (L14.map AV.f32)⟩, ⟨1, some [AV.i64 r4, AV.i64 r5, AV.oref 1 1 0 r6.length]⟩, ⟨1, some (L16.map AV.f32)⟩, ⟨1, some [AV.i64 r7, AV.i64 r8, AV.oref 3 1 0 r9.length]⟩, ⟨u10, some (L18.map AV.i64)⟩, ⟨u11, some (L19.map AV.i64)⟩, ⟨u12, none⟩, ⟨u13, none⟩, ⟨0, none⟩] ∧ z17 = .inl v33) ?_ ?_
            · refine RunC.block (RunC.loop (RunL.loopM (x := z17) (s_CrossOf_s11 r6 L14) (fun (s : Int × Int) τ Γ => WeakLe τ [(1, AV.f32 a3), (2, AV.i64 v20), (3, AV.ptr [AV.i64 a0, AV.i64 a1, AV.sl a2.length (a2.map AV.f32)]), (6, AV.optr 0 1 0), (10, AV.optr 2 1 0), (11, AV.optr 4 1 0), (12, AV.oref 5 u10 0 L18.length), (13, AV.oref 6 u11 0 L19.length), (14, AV.i64 s.1), (52, AV.i64 ((r6.length : Nat) : Int)), (53, AV.i64 s.2)] ∧ DeadLe Γ [⟨1, some [AV.i64 0, AV.i64 0, AV.nilsl]⟩, ⟨1, some (L14.map AV.f32)⟩, ⟨1, some [AV.i64 r4, AV.i64 r5, AV.oref 1 1 0 r6.length]⟩, ⟨1, some (L16.map AV.f32)⟩, ⟨1, some [AV.i64 r7, AV.i64 r8, AV.oref 3 1 0 r9.length]⟩, ⟨u10, some (L18.map AV.i64)⟩, ⟨u11, some (L19.map AV.i64)⟩, ⟨u12, none⟩, ⟨u13, none⟩, ⟨0, none⟩]) ?_ _ _ _ hz_17 ⟨⟨(ALe.refl _), (ALe.refl _), (ALe.refl _), (ALe.refl _), (ALe.refl _), (ALe.refl _), (ALe.refl _), (ALe.refl _), (ALe.refl _), (ALe.refl _), (ALe.refl _), trivial⟩, ⟨⟨rfl, .inr rfl⟩, ⟨rfl, .inr rfl⟩, ⟨rfl, .inr rfl⟩, ⟨rfl, .inr rfl⟩, ⟨rfl, .inr rfl⟩, ⟨rfl, .inr rfl⟩, ⟨rfl, .inr rfl⟩, ⟨rfl, .inl rfl⟩, ⟨rfl, .inl rfl⟩, ⟨rfl, .inr rfl⟩, trivial⟩⟩))
              rintro ⟨v21, v22⟩ τ17 Γ17 y17_ ⟨hw17, hd17⟩ h17_ ho17 hr17
              refine RunC.wl (τ' := [(1, AV.f32 a3), (2, AV.i64 v20), (3, AV.ptr [AV.i64 a0, AV.i64 a1, AV.sl a2.length (a2.map AV.f32)]), (6, AV.optr 0 1 0), (10, AV.optr 2 1 0), (11, AV.optr 4 1 0), (12, AV.oref 5 u10 0 L18.length), (13, AV.oref 6 u11 0 L19.length), (14, AV.i64 v21), (52, AV.i64 ((r6.length : Nat) : Int)), (53, AV.i64 v22)]) (Γ' := [⟨1, some [AV.i64 0, AV.i64 0, AV.nilsl]⟩, ⟨1, some (L14.map AV.f32)⟩, ⟨1, some [AV.i64 r4, AV.i64 r5, AV.oref 1 1 0 r6.length]⟩, ⟨1, some (L16.map AV.f32)⟩, ⟨1, some [AV.i64 r7, AV.i64 r8, AV.oref 3 1 0 r9.length]⟩, ⟨u10, some (L18.map AV.i64)⟩, ⟨u11, some (L19.map AV.i64)⟩, ⟨u12, none⟩, ⟨u13, none⟩, ⟨0, none⟩]) hw17 hd17 ?_
              replace h17_ : s_CrossOf_b11 r6 L14 v21 v22 = some y17_ := h17_
              unfold s_CrossOf_b11 at h17_
              refine RunC.seq ?_
              rcases bsel_some h17_ with ⟨hc10, h17_⟩ | ⟨hc10, h17_⟩
              · refine RunC.regionW ?_
                refine ROps.l (r := AV.b true) rfl rfl rfl (LOp.eqb (LOp.lss rfl rfl rfl) hc10) ?_
                refine ROps.nil ?_
                refine RunC.seq ?_
                refine RunC.cond_true rfl rfl ?_
                refine RunC.skip ?_
                refine RunC.seq ?_
                refine RunC.cutN (fun τ Γ => ∃ (v27 : Int), L14.length = r6.length ∧ L16.length = r9.length ∧ WeakLe τ [(1, AV.f32 a3), (2, AV.i64 v20), (3, AV.ptr [AV.i64 a0, AV.i64 a1, AV.sl a2.length (a2.map AV.f32)]), (6, AV.optr 0 1 0), (10, AV.optr 2 1 0), (11, AV.optr 4 1 0), (12, AV.oref 5 u10 0 L18.length), (13, AV.oref 6 u11 0 L19.length), (14, AV.i64 v27), (52, AV.i64 ((r6.length : Nat) : Int)), (53, AV.i64 v22)] ∧ DeadLe Γ [⟨1, some [AV.i64 0, AV.i64 0, AV.nilsl]⟩, ⟨1, some (L14.map AV.f32)⟩, ⟨1, some [AV.i64 r4, AV.i64 r5, AV.oref 1 1 0 r6.length]⟩, ⟨1, some (L16.map AV.f32)⟩, ⟨1, some [AV.i64 r7, AV.i64 r8, AV.oref 3 1 0 r9.length]⟩, ⟨u10, some (L18.map AV.i64)⟩, ⟨u11, some (L19.map AV.i64)⟩, ⟨u12, none⟩, ⟨u13, none⟩, ⟨0, none⟩] ∧ s_CrossOf_k10 v22 v27 = some y17_) ?_ ?_
                · refine RunC.block ?_
                  refine RunC.seq ?_
                  refine RunC.regionW ?_
                  refine ROps.l (r := AV.i64 v22) rfl rfl rfl (LOp.move rfl rfl) ?_
                  refine ROps.l (r := AV.i64 v22) rfl rfl rfl (LOp.assign rfl rfl) ?_
                  refine ROps.nil ?_
                  refine RunC.seq ?_
                  obtain ⟨e23, he11, h17_⟩ := obind_some h17_
                  obtain ⟨r24, hf12, h17_⟩ := obind_some h17_
                  obtain ⟨e25, he13, h17_⟩ := obind_some h17_
                  obtain ⟨r26, hf14, h17_⟩ := obind_some h17_
                  rcases bsel_some h17_ with ⟨hc15, h17_⟩ | ⟨hc15, h17_⟩
                  · refine RunC.region_draw (Γ' := [⟨1, some [AV.i64 0, AV.i64 0, AV.nilsl]⟩, ⟨1, some (L14.map AV.f32)⟩, ⟨1, some [AV.i64 r4, AV.i64 r5, AV.oref 1 1 0 r6.length]⟩, ⟨1, some (L16.map AV.f32)⟩, ⟨1, some [AV.i64 r7, AV.i64 r8, AV.oref 3 1 0 r9.length]⟩, ⟨u10, some (L18.map AV.i64)⟩, ⟨u11, some (L19.map AV.i64)⟩, ⟨u12, none⟩, ⟨u13, none⟩, ⟨0, none⟩]) 13 mixed 
                      (TR.l (r := AV.optr 2 1 2) rfl rfl (LOp.fao und27 rfl siz22 rfl rfl rfl) <|
                      (TR.d (r := AV.oref 1 1 0 r6.length) (fs := []) rfl rfl (TOp.load1_o rfl rfl agg22 rfl rfl) <|
                      (TR.l (r := AV.i64 v22) rfl rfl (LOp.move rfl rfl) <|
                      (TR.d (r := AV.optr 1 1 v22.toNat) (fs := []) rfl rfl (TOp.ixo und22 siz25 rfl rfl rfl (at_in he11 hl15) rfl) <|
                      (TR.d (r := AV.f32 e23) (fs := []) rfl rfl (TOp.load1_o rfl (at_cell he11) agg25 rfl rfl) <|
                      (TR.d (r := AV.f32 r24) (fs := []) rfl rfl (TOp.callB (CallAs.func ent42 rfl rfl) (Bors.cons (Bor.pure rfl) Bors.nil) rfl rfl (s_l02Size_ok e23 r24 hf12)) <|
                      (TR.l (r := AV.optr 2 1 2) rfl rfl (LOp.fao und27 rfl siz22 rfl rfl rfl) <|
                      (TR.d (r := AV.oref 1 1 0 r6.length) (fs := []) rfl rfl (TOp.load1_o rfl rfl agg22 rfl rfl) <|
                      (TR.l (r := AV.i64 v21) rfl rfl (LOp.move rfl rfl) <|
                      (TR.d (r := AV.optr 1 1 v21.toNat) (fs := []) rfl rfl (TOp.ixo und22 siz25 rfl rfl rfl (at_in he13 hl15) rfl) <|
                      (TR.d (r := AV.f32 e25) (fs := []) rfl rfl (TOp.load1_o rfl (at_cell he13) agg25 rfl rfl) <|
                      (TR.d (r := AV.f32 r26) (fs := []) rfl rfl (TOp.callB (CallAs.func ent42 rfl rfl) (Bors.cons (Bor.pure rfl) Bors.nil) rfl rfl (s_l02Size_ok e25 r26 hf14)) <|
                      (TR.l (r := AV.b true) rfl rfl (LOp.eqb (LOp.fgt rfl (OpF.tmp rfl) (OpF.tmp rfl)) hc15) <|
                      TR.nil))))))))))))) rfl (by kernel_rfl) rfl fills_nil rfl ?_
                    iterate 13 refine ROps.dropS ?_
                    refine ROps.drop0 ?_
                    refine ROps.nil ?_
                    refine RunC.cond_true rfl rfl ?_
                    refine RunC.regionW ?_
                    refine ROps.l (r := AV.i64 v22) rfl rfl rfl (LOp.move rfl rfl) ?_
                    refine ROps.l (r := AV.i64 v22) rfl rfl rfl (LOp.assign rfl rfl) ?_
                    refine ROps.nil ?_
                    exact ⟨v22, hl15, hl17, ⟨(ALe.refl _), (ALe.refl _), (ALe.refl _), (ALe.refl _), (ALe.refl _), (ALe.refl _), (ALe.refl _), (ALe.refl _), (ALe.refl _), (ALe.refl _), (ALe.refl _), trivial⟩, ⟨⟨rfl, .inr rfl⟩, ⟨rfl, .inr rfl⟩, ⟨rfl, .inr rfl⟩, ⟨rfl, .inr rfl⟩, ⟨rfl, .inr rfl⟩, ⟨rfl, .inr rfl⟩, ⟨rfl, .inr rfl⟩, ⟨rfl, .inl rfl⟩, ⟨rfl, .inl rfl⟩, ⟨rfl, .inr rfl⟩, trivial⟩, h17_⟩
                  · refine RunC.region_draw (Γ' := [⟨1, some [AV.i64 0, AV.i64 0, AV.nilsl]⟩, ⟨1, some (L14.map AV.f32)⟩, ⟨1, some [AV.i64 r4, AV.i64 r5, AV.oref 1 1 0 r6.length]⟩, ⟨1, some (L16.map AV.f32)⟩, ⟨1, some [AV.i64 r7, AV.i64 r8, AV.oref 3 1 0 r9.length]⟩, ⟨u10, some (L18.map AV.i64)⟩, ⟨u11, some (L19.map AV.i64)⟩, ⟨u12, none⟩, ⟨u13, none⟩, ⟨0, none⟩]) 13 mixed 
                      (TR.l (r := AV.optr 2 1 2) rfl rfl (LOp.fao und27 rfl siz22 rfl rfl rfl) <|
                      (TR.d (r := AV.oref 1 1 0 r6.length) (fs := []) rfl rfl (TOp.load1_o rfl rfl agg22 rfl rfl) <|
                      (TR.l (r := AV.i64 v22) rfl rfl (LOp.move rfl rfl) <|
                      (TR.d (r := AV.optr 1 1 v22.toNat) (fs := []) rfl rfl (TOp.ixo und22 siz25 rfl rfl rfl (at_in he11 hl15) rfl) <|
                      (TR.d (r := AV.f32 e23) (fs := []) rfl rfl (TOp.load1_o rfl (at_cell he11) agg25 rfl rfl) <|
                      (TR.d (r := AV.f32 r24) (fs := []) rfl rfl (TOp.callB (CallAs.func ent42 rfl rfl) (Bors.cons (Bor.pure rfl) Bors.nil) rfl rfl (s_l02Size_ok e23 r24 hf12)) <|
                      (TR.l (r := AV.optr 2 1 2) rfl rfl (LOp.fao und27 rfl siz22 rfl rfl rfl) <|
                      (TR.d (r := AV.oref 1 1 0 r6.length) (fs := []) rfl rfl (TOp.load1_o rfl rfl agg22 rfl rfl) <|
                      (TR.l (r := AV.i64 v21) rfl rfl (LOp.move rfl rfl) <|
                      (TR.d (r := AV.optr 1 1 v21.toNat) (fs := []) rfl rfl (TOp.ixo und22 siz25 rfl rfl rfl (at_in he13 hl15) rfl) <|
                      (TR.d (r := AV.f32 e25) (fs := []) rfl rfl (TOp.load1_o rfl (at_cell he13) agg25 rfl rfl) <|
                      (TR.d (r := AV.f32 r26) (fs := []) rfl rfl (TOp.callB (CallAs.func ent42 rfl rfl) (Bors.cons (Bor.pure rfl) Bors.nil) rfl rfl (s_l02Size_ok e25 r26 hf14)) <|
                      (TR.l (r := AV.b false) rfl rfl (LOp.eqb (LOp.fgt rfl (OpF.tmp rfl) (OpF.tmp rfl)) hc15) <|
                      TR.nil))))))))))))) rfl (by kernel_rfl) rfl fills_nil rfl ?_
                    iterate 13 refine ROps.dropS ?_
                    refine ROps.drop0 ?_
                    refine ROps.nil ?_
                    refine RunC.cond_false rfl rfl ?_
                    refine RunC.skip ?_
                    exact ⟨v21, hl15, hl17, ⟨(ALe.refl _), (ALe.refl _), (ALe.refl _), (ALe.refl _), (ALe.refl _), (ALe.refl _), (ALe.refl _), (ALe.refl _), (ALe.refl _), (ALe.refl _), (ALe.refl _), trivial⟩, ⟨⟨rfl, .inr rfl⟩, ⟨rfl, .inr rfl⟩, ⟨rfl, .inr rfl⟩, ⟨rfl, .inr rfl⟩, ⟨rfl, .inr rfl⟩, ⟨rfl, .inr rfl⟩, ⟨rfl, .inr rfl⟩, ⟨rfl, .inl rfl⟩, ⟨rfl, .inl rfl⟩, ⟨rfl, .inr rfl⟩, trivial⟩, h17_⟩
                · rintro τ18 Γ18 ⟨v27, hl28, hl29, hw18, hd18, h17_⟩
                  refine RunC.wl (τ' := [(1, AV.f32 a3), (2, AV.i64 v20), (3, AV.ptr [AV.i64 a0, AV.i64 a1, AV.sl a2.length (a2.map AV.f32)]), (6, AV.optr 0 1 0), (10, AV.optr 2 1 0), (11, AV.optr 4 1 0), (12, AV.oref 5 u10 0 L18.length), (13, AV.oref 6 u11 0 L19.length), (14, AV.i64 v27), (52, AV.i64 ((r6.length : Nat) : Int)), (53, AV.i64 v22)]) (Γ' := [⟨1, some [AV.i64 0, AV.i64 0, AV.nilsl]⟩, ⟨1, some (L14.map AV.f32)⟩, ⟨1, some [AV.i64 r4, AV.i64 r5, AV.oref 1 1 0 r6.length]⟩, ⟨1, some (L16.map AV.f32)⟩, ⟨1, some [AV.i64 r7, AV.i64 r8, AV.oref 3 1 0 r9.length]⟩, ⟨u10, some (L18.map AV.i64)⟩, ⟨u11, some (L19.map AV.i64)⟩, ⟨u12, none⟩, ⟨u13, none⟩, ⟨0, none⟩]) hw18 hd18 ?_
                  unfold s_CrossOf_k10 at h17_
                  obtain ⟨x30, hx16, h17_⟩ := olet_some h17_
                  refine RunC.regionW ?_
                  refine ROps.l (r := AV.i64 x30) rfl rfl rfl (LOp.eqr (LOp.add rfl rfl rfl) (congrArg (AV.ik .i64) hx16)) ?_
                  refine ROps.l (r := AV.i64 x30) rfl rfl rfl (LOp.move rfl rfl) ?_
                  refine ROps.nil ?_
                  cases Option.some.inj h17_
                  exact ⟨_, rfl, ⟨(ALe.refl _), (ALe.refl _), (ALe.refl _), (ALe.refl _), (ALe.refl _), (ALe.refl _), (ALe.refl _), (ALe.refl _), (ALe.refl _), (ALe.refl _), (ALe.refl _), trivial⟩, ⟨⟨rfl, .inr rfl⟩, ⟨rfl, .inr rfl⟩, ⟨rfl, .inr rfl⟩, ⟨rfl, .inr rfl⟩, ⟨rfl, .inr rfl⟩, ⟨rfl, .inr rfl⟩, ⟨rfl, .inr rfl⟩, ⟨rfl, .inl rfl⟩, ⟨rfl, .inl rfl⟩, ⟨rfl, .inr rfl⟩, trivial⟩⟩
              · refine RunC.regionW ?_
                refine ROps.l (r := AV.b false) rfl rfl rfl (LOp.eqb (LOp.lss rfl rfl rfl) hc10) ?_
                refine ROps.nil ?_
                refine RunC.seq ?_
                refine RunC.cond_false rfl rfl ?_
                refine RunC.exit ?_
                cases Option.some.inj h17_
                have hx := ho17 _ rfl
                exact ⟨v21, hl15, hl17, ⟨(ALe.refl _), (ALe.refl _), (ALe.refl _), (ALe.refl _), (ALe.refl _), (ALe.refl _), (ALe.refl _), (ALe.refl _), (ALe.refl _), trivial⟩, ⟨⟨rfl, .inr rfl⟩, ⟨rfl, .inr rfl⟩, ⟨rfl, .inr rfl⟩, ⟨rfl, .inr rfl⟩, ⟨rfl, .inr rfl⟩, ⟨rfl, .inr rfl⟩, ⟨rfl, .inr rfl⟩, ⟨rfl, .inl rfl⟩, ⟨rfl, .inl rfl⟩, ⟨rfl, .inr rfl⟩, trivial⟩, hx⟩
            · rintro τ19 Γ19 ⟨v33, hl31, hl32, hw19, hd19, rfl⟩
              refine RunC.wl (τ' := [(1, AV.f32 a3), (2, AV.i64 v20), (3, AV.ptr [AV.i64 a0, AV.i64 a1, AV.sl a2.length (a2.map AV.f32)]), (6, AV.optr 0 1 0), (10, AV.optr 2 1 0), (11, AV.optr 4 1 0), (12, AV.oref 5 u10 0 L18.length), (13, AV.oref 6 u11 0 L19.length), (14, AV.i64 v33)]) (Γ' := [⟨1, some [AV.i64 0, AV.i64 0, AV.nilsl]⟩, ⟨1, some (L14.map AV.f32)⟩, ⟨1, some [AV.i64 r4, AV.i64 r5, AV.oref 1 1 0 r6.length]⟩, ⟨1, some (L16.map AV.f32)⟩, ⟨1, some [AV.i64 r7, AV.i64 r8, AV.oref 3 1 0 r9.length]⟩, ⟨u10, some (L18.map AV.i64)⟩, ⟨u11, some (L19.map AV.i64)⟩, ⟨u12, none⟩, ⟨u13, none⟩, ⟨0, none⟩]) hw19 hd19 ?_
              replace h16_ : s_CrossOf_k11 a0 a1 a3 r4 r5 r7 r8 L14 L16 L18 L19 v20 v33 = some y16_ := h16_
              unfold s_CrossOf_k11 at h16_
              refine RunC.seq ?_
              obtain ⟨e34, he17, h16_⟩ := obind_some h16_
              refine RunC.regionW ?_
              refine ROps.l (r := AV.optr 2 1 2) rfl rfl rfl (LOp.fao und27 rfl siz22 rfl rfl rfl) ?_
              refine ROps.d (r := AV.oref 1 1 0 r6.length) (fs := []) (Γ' := [⟨1, some [AV.i64 0, AV.i64 0, AV.nilsl]⟩, ⟨1, some (L14.map AV.f32)⟩, ⟨1, some [AV.i64 r4, AV.i64 r5, AV.oref 1 1 0 r6.length]⟩, ⟨1, some (L16.map AV.f32)⟩, ⟨1, some [AV.i64 r7, AV.i64 r8, AV.oref 3 1 0 r9.length]⟩, ⟨u10, some (L18.map AV.i64)⟩, ⟨u11, some (L19.map AV.i64)⟩, ⟨u12, none⟩, ⟨u13, none⟩, ⟨0, none⟩]) rfl rfl rfl (TOp.load1_o rfl rfl agg22 rfl rfl) rfl ?_
              refine ROps.l (r := AV.i64 v33) rfl rfl rfl (LOp.move rfl rfl) ?_
              refine ROps.d (r := AV.optr 1 1 v33.toNat) (fs := []) (Γ' := [⟨1, some [AV.i64 0, AV.i64 0, AV.nilsl]⟩, ⟨1, some (L14.map AV.f32)⟩, ⟨1, some [AV.i64 r4, AV.i64 r5, AV.oref 1 1 0 r6.length]⟩, ⟨1, some (L16.map AV.f32)⟩, ⟨1, some [AV.i64 r7, AV.i64 r8, AV.oref 3 1 0 r9.length]⟩, ⟨u10, some (L18.map AV.i64)⟩, ⟨u11, some (L19.map AV.i64)⟩, ⟨u12, none⟩, ⟨u13, none⟩, ⟨0, none⟩]) rfl rfl rfl (TOp.ixo und22 siz25 rfl rfl rfl (at_in he17 hl31) rfl) rfl ?_
              refine ROps.d (r := AV.f32 e34) (fs := []) (Γ' := [⟨1, some [AV.i64 0, AV.i64 0, AV.nilsl]⟩, ⟨1, some (L14.map AV.f32)⟩, ⟨1, some [AV.i64 r4, AV.i64 r5, AV.oref 1 1 0 r6.length]⟩, ⟨1, some (L16.map AV.f32)⟩, ⟨1, some [AV.i64 r7, AV.i64 r8, AV.oref 3 1 0 r9.length]⟩, ⟨u10, some (L18.map AV.i64)⟩, ⟨u11, some (L19.map AV.i64)⟩, ⟨u12, none⟩, ⟨u13, none⟩, ⟨0, none⟩]) rfl rfl rfl (TOp.load1_o rfl (at_cell he17) agg25 rfl rfl) rfl ?_
              refine ROps.l (r := AV.f32 e34) rfl rfl rfl (LOp.assign rfl rfl) ?_
              refine ROps.nil ?_
              refine RunC.seq ?_
              refine RunC.seq ?_
              obtain ⟨r35, hf18, h16_⟩ := obind_some h16_
              rcases bsel_some h16_ with ⟨hc19, h16_⟩ | ⟨hc19, h16_⟩
              · refine RunC.regionW ?_
                refine ROps.l (r := AV.f32 e34) rfl rfl rfl (LOp.move rfl rfl) ?_
                refine ROps.d (r := AV.f32 r35) (fs := []) (Γ' := [⟨1, some [AV.i64 0, AV.i64 0, AV.nilsl]⟩, ⟨1, some (L14.map AV.f32)⟩, ⟨1, some [AV.i64 r4, AV.i64 r5, AV.oref 1 1 0 r6.length]⟩, ⟨1, some (L16.map AV.f32)⟩, ⟨1, some [AV.i64 r7, AV.i64 r8, AV.oref 3 1 0 r9.length]⟩, ⟨u10, some (L18.map AV.i64)⟩, ⟨u11, some (L19.map AV.i64)⟩, ⟨u12, none⟩, ⟨u13, none⟩, ⟨0, none⟩]) rfl rfl rfl (TOp.callB (CallAs.func ent42 rfl rfl) (Bors.cons (Bor.pure rfl) Bors.nil) rfl rfl (s_l02Size_ok e34 r35 hf18)) rfl ?_
                refine ROps.l (r := AV.f32 a3) rfl rfl rfl (LOp.move rfl rfl) ?_
                refine ROps.l (r := AV.b true) rfl rfl rfl (LOp.eqb (LOp.fle rfl (OpF.tmp rfl) (OpF.tmp rfl)) hc19) ?_
                refine ROps.nil ?_
                refine RunC.cond_true rfl rfl ?_
                refine RunC.exit ?_
                cases Option.some.inj h16_
                have hx := ho16 _ rfl
                exact ⟨L16, L18, L19, u10, u11, u12, u13, hl32, ⟨(ALe.refl _), (ALe.refl _), (ALe.refl _), (ALe.refl _), trivial⟩, ⟨⟨rfl, .inr rfl⟩, ⟨rfl, .inl rfl⟩, ⟨rfl, .inl rfl⟩, ⟨rfl, .inr rfl⟩, ⟨rfl, .inr rfl⟩, ⟨rfl, .inr rfl⟩, ⟨rfl, .inr rfl⟩, ⟨rfl, .inl rfl⟩, ⟨rfl, .inl rfl⟩, ⟨rfl, .inr rfl⟩, trivial⟩, hx⟩
              · refine RunC.regionW ?_
                refine ROps.l (r := AV.f32 e34) rfl rfl rfl (LOp.move rfl rfl) ?_
                refine ROps.d (r := AV.f32 r35) (fs := []) (Γ' := [⟨1, some [AV.i64 0, AV.i64 0, AV.nilsl]⟩, ⟨1, some (L14.map AV.f32)⟩, ⟨1, some [AV.i64 r4, AV.i64 r5, AV.oref 1 1 0 r6.length]⟩, ⟨1, some (L16.map AV.f32)⟩, ⟨1, some [AV.i64 r7, AV.i64 r8, AV.oref 3 1 0 r9.length]⟩, ⟨u10, some (L18.map AV.i64)⟩, ⟨u11, some (L19.map AV.i64)⟩, ⟨u12, none⟩, ⟨u13, none⟩, ⟨0, none⟩]) rfl rfl rfl (TOp.callB (CallAs.func ent42 rfl rfl) (Bors.cons (Bor.pure rfl) Bors.nil) rfl rfl (s_l02Size_ok e34 r35 hf18)) rfl ?_
                refine ROps.l (r := AV.f32 a3) rfl rfl rfl (LOp.move rfl rfl) ?_
                refine ROps.l (r := AV.b false) rfl rfl rfl (LOp.eqb (LOp.fle rfl (OpF.tmp rfl) (OpF.tmp rfl)) hc19) ?_
                refine ROps.nil ?_
                refine RunC.cond_false rfl rfl ?_
                refine RunC.skip ?_
                refine RunC.seq ?_
                obtain ⟨hz20, h16_⟩ := need_some h16_
                obtain ⟨x36, hx21, h16_⟩ := olet_some h16_
                refine RunC.regionW ?_
                refine ROps.l (r := AV.i64 v33) rfl rfl rfl (LOp.move rfl rfl) ?_
                refine ROps.l (r := AV.ptr [AV.i64 a1, AV.sl a2.length (a2.map AV.f32)]) rfl rfl rfl (LOp.fap und27 rfl siz2 rfl rfl rfl) ?_
                refine ROps.l (r := AV.i64 a1) rfl rfl rfl (LOp.load1 agg2 rfl rfl) ?_
                refine ROps.l (r := AV.i64 x36) rfl rfl rfl (LOp.eqr (LOp.quo rfl rfl rfl (nz hz20)) (congrArg (AV.ik .i64) hx21)) ?_
                refine ROps.l (r := AV.i64 x36) rfl rfl rfl (LOp.assign rfl rfl) ?_
                refine ROps.nil ?_
                refine RunC.seq ?_
                obtain ⟨hz22, h16_⟩ := need_some h16_
                obtain ⟨x37, hx23, h16_⟩ := olet_some h16_
                refine RunC.regionW ?_
                refine ROps.l (r := AV.i64 v33) rfl rfl rfl (LOp.move rfl rfl) ?_
                refine ROps.l (r := AV.ptr [AV.i64 a1, AV.sl a2.length (a2.map AV.f32)]) rfl rfl rfl (LOp.fap und27 rfl siz2 rfl rfl rfl) ?_
                refine ROps.l (r := AV.i64 a1) rfl rfl rfl (LOp.load1 agg2 rfl rfl) ?_
                refine ROps.l (r := AV.i64 x37) rfl rfl rfl (LOp.eqr (LOp.rem rfl rfl rfl (nz hz22)) (congrArg (AV.ik .i64) hx23)) ?_
                refine ROps.l (r := AV.i64 x37) rfl rfl rfl (LOp.assign rfl rfl) ?_
                refine ROps.nil ?_
                refine RunC.wl (τ' := [(1, AV.f32 a3), (2, AV.i64 v20), (3, AV.ptr [AV.i64 a0, AV.i64 a1, AV.sl a2.length (a2.map AV.f32)]), (6, AV.optr 0 1 0), (10, AV.optr 2 1 0), (11, AV.optr 4 1 0), (12, AV.oref 5 u10 0 L18.length), (13, AV.oref 6 u11 0 L19.length), (16, AV.f32 e34), (17, AV.i64 x36), (18, AV.i64 x37)]) (Γ' := [⟨1, some [AV.i64 0, AV.i64 0, AV.nilsl]⟩, ⟨1, some (L14.map AV.f32)⟩, ⟨1, some [AV.i64 r4, AV.i64 r5, AV.oref 1 1 0 r6.length]⟩, ⟨1, some (L16.map AV.f32)⟩, ⟨1, some [AV.i64 r7, AV.i64 r8, AV.oref 3 1 0 r9.length]⟩, ⟨u10, some (L18.map AV.i64)⟩, ⟨u11, some (L19.map AV.i64)⟩, ⟨u12, none⟩, ⟨u13, none⟩, ⟨0, none⟩]) ⟨(ALe.refl _), (ALe.refl _), (ALe.refl _), (ALe.refl _), (ALe.refl _), (ALe.refl _), (ALe.refl _), (ALe.refl _), (ALe.refl _), (ALe.refl _), (ALe.refl _), trivial⟩ ⟨⟨rfl, .inr rfl⟩, ⟨rfl, .inr rfl⟩, ⟨rfl, .inr rfl⟩, ⟨rfl, .inr rfl⟩, ⟨rfl, .inr rfl⟩, ⟨rfl, .inr rfl⟩, ⟨rfl, .inr rfl⟩, ⟨rfl, .inl rfl⟩, ⟨rfl, .inl rfl⟩, ⟨rfl, .inr rfl⟩, trivial⟩ ?_
                refine RunC.seq ?_
                obtain ⟨r38, r39, r40, hf24, h16_⟩ := obind3_some h16_
                refine RunC.regionW ?_
                refine ROps.d (r := AV.agg [AV.i64 r38, AV.i64 r39, AV.oref 7 (u12 + 1) 0 r40.length]) (fs := [(7, (r40.map AV.f32))]) (Γ' := [⟨1, some [AV.i64 0, AV.i64 0, AV.nilsl]⟩, ⟨1, some (L14.map AV.f32)⟩, ⟨1, some [AV.i64 r4, AV.i64 r5, AV.oref 1 1 0 r6.length]⟩, ⟨1, some (L16.map AV.f32)⟩, ⟨1, some [AV.i64 r7, AV.i64 r8, AV.oref 3 1 0 r9.length]⟩, ⟨u10, some (L18.map AV.i64)⟩, ⟨u11, some (L19.map AV.i64)⟩, ⟨(u12 + 1), some (r40.map AV.f32)⟩, ⟨u13, none⟩, ⟨0, none⟩]) rfl rfl rfl (TOp.eqr (TOp.callBN (ls := [(r40.map AV.f32)]) [7] (CallAs.func ent40 rfl rfl) (Bors.cons (Bor.optr rfl (Bors.p (Bors.cons (Bor.pure rfl) (Bors.cons (Bor.pure rfl) (Bors.cons (Bor.own (f := AV.f32) (fun _ => rfl) rfl hl31) Bors.nil)))) rfl) Bors.nil) rfl (s_l02Own_ok r4 r5 L14 r38 r39 r40 hf24) (and_all (lts0_map (f := AV.f32) (fun _ => rfl) _) rfl) (and_all (noss_map (f := AV.f32) (fun _ => rfl) _) rfl) rfl (by decide) (ns_of ⟨⟨_, rfl⟩, trivial⟩)) (by simp [AV.ren, AV.rens, sigma, newNames])) rfl ?_
                refine ROps.d (r := AV.optr 8 (u13 + 1) 0) (fs := [(8, [AV.i64 0, AV.i64 0, AV.nilsl])]) (Γ' := [⟨1, some [AV.i64 0, AV.i64 0, AV.nilsl]⟩, ⟨1, some (L14.map AV.f32)⟩, ⟨1, some [AV.i64 r4, AV.i64 r5, AV.oref 1 1 0 r6.length]⟩, ⟨1, some (L16.map AV.f32)⟩, ⟨1, some [AV.i64 r7, AV.i64 r8, AV.oref 3 1 0 r9.length]⟩, ⟨u10, some (L18.map AV.i64)⟩, ⟨u11, some (L19.map AV.i64)⟩, ⟨(u12 + 1), some (r40.map AV.f32)⟩, ⟨(u13 + 1), some [AV.i64 0, AV.i64 0, AV.nilsl]⟩, ⟨0, none⟩]) rfl rfl rfl (TOp.alloc_o (g := ⟨u13, none⟩) 8 rfl zer27 zok27 rfl) rfl ?_
                refine ROps.store_le (r := AV.agg [AV.i64 r38, AV.i64 r39, AV.oref 7 (u12 + 1) 0 r40.length]) (l' := [AV.i64 r38, AV.i64 r39, AV.oref 7 (u12 + 1) 0 r40.length]) (Γ' := [⟨1, some [AV.i64 0, AV.i64 0, AV.nilsl]⟩, ⟨1, some (L14.map AV.f32)⟩, ⟨1, some [AV.i64 r4, AV.i64 r5, AV.oref 1 1 0 r6.length]⟩, ⟨1, some (L16.map AV.f32)⟩, ⟨1, some [AV.i64 r7, AV.i64 r8, AV.oref 3 1 0 r9.length]⟩, ⟨u10, some (L18.map AV.i64)⟩, ⟨u11, some (L19.map AV.i64)⟩, ⟨(u12 + 1), some (r40.map AV.f32)⟩, ⟨(u13 + 1), some [AV.i64 r38, AV.i64 r39, AV.oref 7 (u12 + 1) 0 r40.length]⟩, ⟨0, none⟩]) rfl siz27 rfl rfl rfl (ALe.refl _) rfl rfl rfl rfl (Nat.le_of_ble_eq_true rfl) rfl rfl ?_
                refine ROps.nil ?_
                refine RunC.seq ?_
                refine RunC.seq ?_
                refine RunC.regionW ?_
                refine ROps.l (r := AV.i64 0) rfl rfl rfl (LOp.assign rfl rfl) ?_
                refine ROps.nil ?_
                obtain ⟨z20, hz_20, h16_⟩ := obind_some h16_
                refine RunC.cutN (fun τ Γ => ∃ (L69 : List F) (L71 : List F), L69.length = r6.length ∧ L71.length = r9.length ∧ WeakLe τ [(1, AV.f32 a3), (2, AV.i64 v20), (3, AV.ptr [AV.i64 a0, AV.i64 a1, AV.sl a2.length (a2.map AV.f32)]), (6, AV.optr 0 1 0), (10, AV.optr 2 1 0), (11, AV.optr 4 1 0), (12, AV.oref 5 u10 0 L18.length), (13, AV.oref 6 u11 0 L19.length), (17, AV.i64 x36), (18, AV.i64 x37)] ∧ DeadLe Γ [⟨1, some [AV.i64 0, AV.i64 0, AV.nilsl]⟩, ⟨1, some (L69.map AV.f32)⟩, ⟨1, some [AV.i64 r4, AV.i64 r5, AV.oref 1 1 0 r6.length]⟩, ⟨1, some (L71.map AV.f32)⟩, ⟨1, some [AV.i64 r7, AV.i64 r8, AV.oref 3 1 0 r9.length]⟩, ⟨u10, some (L18.map AV.i64)⟩, ⟨u11, some (L19.map AV.i64)⟩, ⟨(u12 + 1), none⟩, ⟨(u13 + 1), none⟩, ⟨0, none⟩] ∧ z20 = .inl (L69, L71)) ?_ ?_
                · refine RunC.block (RunC.loop (RunL.loopM (x := z20) (s_CrossOf_s14 a0 a1 e34 x36 x37 r38 r39 r40) (fun (s : (List F) × (List F) × Int) τ Γ => s.1.length = r6.length ∧ s.2.1.length = r9.length ∧ WeakLe τ [(1, AV.f32 a3), (2, AV.i64 v20), (3, AV.ptr [AV.i64 a0, AV.i64 a1, AV.sl a2.length (a2.map AV.f32)]), (6, AV.optr 0 1 0), (10, AV.optr 2 1 0), (11, AV.optr 4 1 0), (12, AV.oref 5 u10 0 L18.length), (13, AV.oref 6 u11 0 L19.length), (16, AV.f32 e34), (17, AV.i64 x36), (18, AV.i64 x37), (19, AV.optr 8 (u13 + 1) 0), (20, AV.i64 s.2.2)] ∧ DeadLe Γ [⟨1, some [AV.i64 0, AV.i64 0, AV.nilsl]⟩, ⟨1, some (s.1.map AV.f32)⟩, ⟨1, some [AV.i64 r4, AV.i64 r5, AV.oref 1 1 0 r6.length]⟩, ⟨1, some (s.2.1.map AV.f32)⟩, ⟨1, some [AV.i64 r7, AV.i64 r8, AV.oref 3 1 0 r9.length]⟩, ⟨u10, some (L18.map AV.i64)⟩, ⟨u11, some (L19.map AV.i64)⟩, ⟨(u12 + 1), some (r40.map AV.f32)⟩, ⟨(u13 + 1), some [AV.i64 r38, AV.i64 r39, AV.oref 7 (u12 + 1) 0 r40.length]⟩, ⟨0, none⟩]) ?_ _ _ _ hz_20 ⟨hl31, hl32, ⟨(ALe.refl _), (ALe.refl _), (ALe.refl _), (ALe.refl _), (ALe.refl _), (ALe.refl _), (ALe.refl _), (ALe.refl _), (ALe.refl _), (ALe.refl _), (ALe.refl _), (ALe.refl _), (ALe.refl _), trivial⟩, ⟨⟨rfl, .inr rfl⟩, ⟨rfl, .inr rfl⟩, ⟨rfl, .inr rfl⟩, ⟨rfl, .inr rfl⟩, ⟨rfl, .inr rfl⟩, ⟨rfl, .inr rfl⟩, ⟨rfl, .inr rfl⟩, ⟨rfl, .inr rfl⟩, ⟨rfl, .inr rfl⟩, ⟨rfl, .inr rfl⟩, trivial⟩⟩))
                  rintro ⟨L41, L43, v45⟩ τ20 Γ20 y20_ ⟨hl42, hl44, hw20, hd20⟩ h20_ ho20 hr20
                  refine RunC.wl (τ' := [(1, AV.f32 a3), (2, AV.i64 v20), (3, AV.ptr [AV.i64 a0, AV.i64 a1, AV.sl a2.length (a2.map AV.f32)]), (6, AV.optr 0 1 0), (10, AV.optr 2 1 0), (11, AV.optr 4 1 0), (12, AV.oref 5 u10 0 L18.length), (13, AV.oref 6 u11 0 L19.length), (16, AV.f32 e34), (17, AV.i64 x36), (18, AV.i64 x37), (19, AV.optr 8 (u13 + 1) 0), (20, AV.i64 v45)]) (Γ' := [⟨1, some [AV.i64 0, AV.i64 0, AV.nilsl]⟩, ⟨1, some (L41.map AV.f32)⟩, ⟨1, some [AV.i64 r4, AV.i64 r5, AV.oref 1 1 0 r6.length]⟩, ⟨1, some (L43.map AV.f32)⟩, ⟨1, some [AV.i64 r7, AV.i64 r8, AV.oref 3 1 0 r9.length]⟩, ⟨u10, some (L18.map AV.i64)⟩, ⟨u11, some (L19.map AV.i64)⟩, ⟨(u12 + 1), some (r40.map AV.f32)⟩, ⟨(u13 + 1), some [AV.i64 r38, AV.i64 r39, AV.oref 7 (u12 + 1) 0 r40.length]⟩, ⟨0, none⟩]) hw20 hd20 ?_
                  replace hl42 : L41.length = r6.length := hl42
                  replace hl44 : L43.length = r9.length := hl44
                  replace h20_ : s_CrossOf_b14 a0 a1 e34 x36 x37 r38 r39 r40 L41 L43 v45 = some y20_ := h20_
                  unfold s_CrossOf_b14 at h20_
                  refine RunC.seq ?_
                  refine RunC.seq ?_
                  rcases bsel_some h20_ with ⟨hc25, h20_⟩ | ⟨hc25, h20_⟩
                  · refine RunC.regionW ?_
                    refine ROps.l (r := AV.i64 v45) rfl rfl rfl (LOp.move rfl rfl) ?_
                    refine ROps.l (r := AV.ptr [AV.i64 a0, AV.i64 a1, AV.sl a2.length (a2.map AV.f32)]) rfl rfl rfl (LOp.fap und27 rfl siz2 rfl rfl rfl) ?_
                    refine ROps.l (r := AV.i64 a0) rfl rfl rfl (LOp.load1 agg2 rfl rfl) ?_
                    refine ROps.l (r := AV.b true) rfl rfl rfl (LOp.eqb (LOp.lss rfl rfl rfl) hc25) ?_
                    refine ROps.nil ?_
                    refine RunC.cond_true rfl rfl ?_
                    refine RunC.skip ?_
                    refine RunC.seq ?_
                    refine RunC.block ?_
                    refine RunC.seq ?_
                    obtain ⟨r46, hf26, h20_⟩ := obind_some h20_
                    obtain ⟨x47, hx27, h20_⟩ := olet_some h20_
                    refine RunC.regionW ?_
                    refine ROps.l (r := AV.i64 v45) rfl rfl rfl (LOp.move rfl rfl) ?_
                    refine ROps.l (r := AV.i64 x37) rfl rfl rfl (LOp.move rfl rfl) ?_
                    refine ROps.d (r := AV.f32 r46) (fs := []) (Γ' := [⟨1, some [AV.i64 0, AV.i64 0, AV.nilsl]⟩, ⟨1, some (L41.map AV.f32)⟩, ⟨1, some [AV.i64 r4, AV.i64 r5, AV.oref 1 1 0 r6.length]⟩, ⟨1, some (L43.map AV.f32)⟩, ⟨1, some [AV.i64 r7, AV.i64 r8, AV.oref 3 1 0 r9.length]⟩, ⟨u10, some (L18.map AV.i64)⟩, ⟨u11, some (L19.map AV.i64)⟩, ⟨(u12 + 1), some (r40.map AV.f32)⟩, ⟨(u13 + 1), some [AV.i64 r38, AV.i64 r39, AV.oref 7 (u12 + 1) 0 r40.length]⟩, ⟨0, none⟩]) rfl rfl rfl (TOp.callB (CallAs.func ent43 rfl rfl) (Bors.cons (Bor.optr rfl (Bors.p (Bors.cons (Bor.pure rfl) (Bors.cons (Bor.pure rfl) (Bors.cons (Bor.own (f := AV.f32) (fun _ => rfl) rfl rfl) Bors.nil)))) rfl) (Bors.cons (Bor.pure rfl) (Bors.cons (Bor.pure rfl) Bors.nil))) rfl rfl (s_l02At_ok r38 r39 r40 v45 x37 r46 hf26)) rfl ?_
                    refine ROps.l (r := AV.f32 e34) rfl rfl rfl (LOp.move rfl rfl) ?_
                    refine ROps.d (r := AV.f32 x47) (fs := []) (Γ' := [⟨1, some [AV.i64 0, AV.i64 0, AV.nilsl]⟩, ⟨1, some (L41.map AV.f32)⟩, ⟨1, some [AV.i64 r4, AV.i64 r5, AV.oref 1 1 0 r6.length]⟩, ⟨1, some (L43.map AV.f32)⟩, ⟨1, some [AV.i64 r7, AV.i64 r8, AV.oref 3 1 0 r9.length]⟩, ⟨u10, some (L18.map AV.i64)⟩, ⟨u11, some (L19.map AV.i64)⟩, ⟨(u12 + 1), some (r40.map AV.f32)⟩, ⟨(u13 + 1), some [AV.i64 r38, AV.i64 r39, AV.oref 7 (u12 + 1) 0 r40.length]⟩, ⟨0, none⟩]) rfl rfl rfl (TOp.eqr (TOp.fop (.inr (.inr (.inr rfl))) rfl (OpF.tmp rfl) (OpF.tmp rfl)) (congrArg (AV.f .f32) hx27)) rfl ?_
                    refine ROps.l (r := AV.f32 x47) rfl rfl rfl (LOp.assign rfl rfl) ?_
                    refine ROps.nil ?_
                    refine RunC.seq ?_
                    refine RunC.regionW ?_
                    refine ROps.l (r := AV.i64 0) rfl rfl rfl (LOp.assign rfl rfl) ?_
                    refine ROps.nil ?_
                    obtain ⟨z21, hz_21, h20_⟩ := obind_some h20_
                    refine RunC.cutN (fun τ Γ => ∃ (L64 : List F) (L66 : List F), L64.length = r6.length ∧ L66.length = r9.length ∧ WeakLe τ [(1, AV.f32 a3), (2, AV.i64 v20), (3, AV.ptr [AV.i64 a0, AV.i64 a1, AV.sl a2.length (a2.map AV.f32)]), (6, AV.optr 0 1 0), (10, AV.optr 2 1 0), (11, AV.optr 4 1 0), (12, AV.oref 5 u10 0 L18.length), (13, AV.oref 6 u11 0 L19.length), (16, AV.f32 e34), (17, AV.i64 x36), (18, AV.i64 x37), (19, AV.optr 8 (u13 + 1) 0), (20, AV.i64 v45)] ∧ DeadLe Γ [⟨1, some [AV.i64 0, AV.i64 0, AV.nilsl]⟩, ⟨1, some (L64.map AV.f32)⟩, ⟨1, some [AV.i64 r4, AV.i64 r5, AV.oref 1 1 0 r6.length]⟩, ⟨1, some (L66.map AV.f32)⟩, ⟨1, some [AV.i64 r7, AV.i64 r8, AV.oref 3 1 0 r9.length]⟩, ⟨u10, some (L18.map AV.i64)⟩, ⟨u11, some (L19.map AV.i64)⟩, ⟨(u12 + 1), some (r40.map AV.f32)⟩, ⟨(u13 + 1), some [AV.i64 r38, AV.i64 r39, AV.oref 7 (u12 + 1) 0 r40.length]⟩, ⟨0, none⟩] ∧ z21 = .inl (L64, L66)) ?_ ?_
                    · refine RunC.block (RunC.loop (RunL.loopM (x := z21) (s_CrossOf_s13 a1 x36 r38 r39 r40 v45 x47) (fun (s : (List F) × (List F) × Int) τ Γ => s.1.length = r6.length ∧ s.2.1.length = r9.length ∧ WeakLe τ [(1, AV.f32 a3), (2, AV.i64 v20), (3, AV.ptr [AV.i64 a0, AV.i64 a1, AV.sl a2.length (a2.map AV.f32)]), (6, AV.optr 0 1 0), (10, AV.optr 2 1 0), (11, AV.optr 4 1 0), (12, AV.oref 5 u10 0 L18.length), (13, AV.oref 6 u11 0 L19.length), (16, AV.f32 e34), (17, AV.i64 x36), (18, AV.i64 x37), (19, AV.optr 8 (u13 + 1) 0), (20, AV.i64 v45), (21, AV.f32 x47), (22, AV.i64 s.2.2)] ∧ DeadLe Γ [⟨1, some [AV.i64 0, AV.i64 0, AV.nilsl]⟩, ⟨1, some (s.1.map AV.f32)⟩, ⟨1, some [AV.i64 r4, AV.i64 r5, AV.oref 1 1 0 r6.length]⟩, ⟨1, some (s.2.1.map AV.f32)⟩, ⟨1, some [AV.i64 r7, AV.i64 r8, AV.oref 3 1 0 r9.length]⟩, ⟨u10, some (L18.map AV.i64)⟩, ⟨u11, some (L19.map AV.i64)⟩, ⟨(u12 + 1), some (r40.map AV.f32)⟩, ⟨(u13 + 1), some [AV.i64 r38, AV.i64 r39, AV.oref 7 (u12 + 1) 0 r40.length]⟩, ⟨0, none⟩]) ?_ _ _ _ hz_21 ⟨hl42, hl44, ⟨(ALe.refl _), (ALe.refl _), (ALe.refl _), (ALe.refl _), (ALe.refl _), (ALe.refl _), (ALe.refl _), (ALe.refl _), (ALe.refl _), (ALe.refl _), (ALe.refl _), (ALe.refl _), (ALe.refl _), (ALe.refl _), (ALe.refl _), trivial⟩, ⟨⟨rfl, .inr rfl⟩, ⟨rfl, .inr rfl⟩, ⟨rfl, .inr rfl⟩, ⟨rfl, .inr rfl⟩, ⟨rfl, .inr rfl⟩, ⟨rfl, .inr rfl⟩, ⟨rfl, .inr rfl⟩, ⟨rfl, .inr rfl⟩, ⟨rfl, .inr rfl⟩, ⟨rfl, .inr rfl⟩, trivial⟩⟩))
                      rintro ⟨L48, L50, v52⟩ τ21 Γ21 y21_ ⟨hl49, hl51, hw21, hd21⟩ h21_ ho21 hr21
                      refine RunC.wl (τ' := [(1, AV.f32 a3), (2, AV.i64 v20), (3, AV.ptr [AV.i64 a0, AV.i64 a1, AV.sl a2.length (a2.map AV.f32)]), (6, AV.optr 0 1 0), (10, AV.optr 2 1 0), (11, AV.optr 4 1 0), (12, AV.oref 5 u10 0 L18.length), (13, AV.oref 6 u11 0 L19.length), (16, AV.f32 e34), (17, AV.i64 x36), (18, AV.i64 x37), (19, AV.optr 8 (u13 + 1) 0), (20, AV.i64 v45), (21, AV.f32 x47), (22, AV.i64 v52)]) (Γ' := [⟨1, some [AV.i64 0, AV.i64 0, AV.nilsl]⟩, ⟨1, some (L48.map AV.f32)⟩, ⟨1, some [AV.i64 r4, AV.i64 r5, AV.oref 1 1 0 r6.length]⟩, ⟨1, some (L50.map AV.f32)⟩, ⟨1, some [AV.i64 r7, AV.i64 r8, AV.oref 3 1 0 r9.length]⟩, ⟨u10, some (L18.map AV.i64)⟩, ⟨u11, some (L19.map AV.i64)⟩, ⟨(u12 + 1), some (r40.map AV.f32)⟩, ⟨(u13 + 1), some [AV.i64 r38, AV.i64 r39, AV.oref 7 (u12 + 1) 0 r40.length]⟩, ⟨0, none⟩]) hw21 hd21 ?_
                      replace hl49 : L48.length = r6.length := hl49
                      replace hl51 : L50.length = r9.length := hl51
                      replace h21_ : s_CrossOf_b13 a1 x36 r38 r39 r40 v45 x47 L48 L50 v52 = some y21_ := h21_
                      unfold s_CrossOf_b13 at h21_
                      refine RunC.seq ?_
                      refine RunC.seq ?_
                      rcases bsel_some h21_ with ⟨hc28, h21_⟩ | ⟨hc28, h21_⟩
                      · refine RunC.regionW ?_
                        refine ROps.l (r := AV.i64 v52) rfl rfl rfl (LOp.move rfl rfl) ?_
                        refine ROps.l (r := AV.ptr [AV.i64 a1, AV.sl a2.length (a2.map AV.f32)]) rfl rfl rfl (LOp.fap und27 rfl siz2 rfl rfl rfl) ?_
                        refine ROps.l (r := AV.i64 a1) rfl rfl rfl (LOp.load1 agg2 rfl rfl) ?_
                        refine ROps.l (r := AV.b true) rfl rfl rfl (LOp.eqb (LOp.lss rfl rfl rfl) hc28) ?_
                        refine ROps.nil ?_
                        refine RunC.cond_true rfl rfl ?_
                        refine RunC.skip ?_
                        refine RunC.seq ?_
                        refine RunC.block ?_
                        refine RunC.seq ?_
                        obtain ⟨x53, hx29, h21_⟩ := olet_some h21_
                        obtain ⟨x54, hx30, h21_⟩ := olet_some h21_
                        refine RunC.regionW ?_
                        refine ROps.l (r := AV.i64 v45) rfl rfl rfl (LOp.move rfl rfl) ?_
                        refine ROps.l (r := AV.ptr [AV.i64 a1, AV.sl a2.length (a2.map AV.f32)]) rfl rfl rfl (LOp.fap und27 rfl siz2 rfl rfl rfl) ?_
                        refine ROps.l (r := AV.i64 a1) rfl rfl rfl (LOp.load1 agg2 rfl rfl) ?_
                        refine ROps.l (r := AV.i64 x53) rfl rfl rfl (LOp.eqr (LOp.mul rfl rfl rfl) (congrArg (AV.ik .i64) hx29)) ?_
                        refine ROps.l (r := AV.i64 v52) rfl rfl rfl (LOp.move rfl rfl) ?_
                        refine ROps.l (r := AV.i64 x54) rfl rfl rfl (LOp.eqr (LOp.add rfl rfl rfl) (congrArg (AV.ik .i64) hx30)) ?_
                        refine ROps.l (r := AV.i64 x54) rfl rfl rfl (LOp.assign rfl rfl) ?_
                        refine ROps.nil ?_
                        refine RunC.seq ?_
                        obtain ⟨r55, hf31, h21_⟩ := obind_some h21_
                        obtain ⟨x56, hx32, h21_⟩ := olet_some h21_
                        refine RunC.regionW ?_
                        refine ROps.l (r := AV.f32 x47) rfl rfl rfl (LOp.move rfl rfl) ?_
                        refine ROps.l (r := AV.i64 x36) rfl rfl rfl (LOp.move rfl rfl) ?_
                        refine ROps.l (r := AV.i64 v52) rfl rfl rfl (LOp.move rfl rfl) ?_
                        refine ROps.d (r := AV.f32 r55) (fs := []) (Γ' := [⟨1, some [AV.i64 0, AV.i64 0, AV.nilsl]⟩, ⟨1, some (L48.map AV.f32)⟩, ⟨1, some [AV.i64 r4, AV.i64 r5, AV.oref 1 1 0 r6.length]⟩, ⟨1, some (L50.map AV.f32)⟩, ⟨1, some [AV.i64 r7, AV.i64 r8, AV.oref 3 1 0 r9.length]⟩, ⟨u10, some (L18.map AV.i64)⟩, ⟨u11, some (L19.map AV.i64)⟩, ⟨(u12 + 1), some (r40.map AV.f32)⟩, ⟨(u13 + 1), some [AV.i64 r38, AV.i64 r39, AV.oref 7 (u12 + 1) 0 r40.length]⟩, ⟨0, none⟩]) rfl rfl rfl (TOp.callB (CallAs.func ent43 rfl rfl) (Bors.cons (Bor.optr rfl (Bors.p (Bors.cons (Bor.pure rfl) (Bors.cons (Bor.pure rfl) (Bors.cons (Bor.own (f := AV.f32) (fun _ => rfl) rfl rfl) Bors.nil)))) rfl) (Bors.cons (Bor.pure rfl) (Bors.cons (Bor.pure rfl) Bors.nil))) rfl rfl (s_l02At_ok r38 r39 r40 x36 v52 r55 hf31)) rfl ?_
                        refine ROps.d (r := AV.f32 x56) (fs := []) (Γ' := [⟨1, some [AV.i64 0, AV.i64 0, AV.nilsl]⟩, ⟨1, some (L48.map AV.f32)⟩, ⟨1, some [AV.i64 r4, AV.i64 r5, AV.oref 1 1 0 r6.length]⟩, ⟨1, some (L50.map AV.f32)⟩, ⟨1, some [AV.i64 r7, AV.i64 r8, AV.oref 3 1 0 r9.length]⟩, ⟨u10, some (L18.map AV.i64)⟩, ⟨u11, some (L19.map AV.i64)⟩, ⟨(u12 + 1), some (r40.map AV.f32)⟩, ⟨(u13 + 1), some [AV.i64 r38, AV.i64 r39, AV.oref 7 (u12 + 1) 0 r40.length]⟩, ⟨0, none⟩]) rfl rfl rfl (TOp.eqr (TOp.fop (.inr (.inr (.inl rfl))) rfl (OpF.tmp rfl) (OpF.tmp rfl)) (congrArg (AV.f .f32) hx32)) rfl ?_
                        refine ROps.l (r := AV.f32 x56) rfl rfl rfl (LOp.assign rfl rfl) ?_
                        refine ROps.nil ?_
                        refine RunC.wl (τ' := [(1, AV.f32 a3), (2, AV.i64 v20), (3, AV.ptr [AV.i64 a0, AV.i64 a1, AV.sl a2.length (a2.map AV.f32)]), (6, AV.optr 0 1 0), (10, AV.optr 2 1 0), (11, AV.optr 4 1 0), (12, AV.oref 5 u10 0 L18.length), (13, AV.oref 6 u11 0 L19.length), (16, AV.f32 e34), (17, AV.i64 x36), (18, AV.i64 x37), (19, AV.optr 8 (u13 + 1) 0), (20, AV.i64 v45), (21, AV.f32 x47), (22, AV.i64 v52), (23, AV.i64 x54), (24, AV.f32 x56)]) (Γ' := [⟨1, some [AV.i64 0, AV.i64 0, AV.nilsl]⟩, ⟨1, some (L48.map AV.f32)⟩, ⟨1, some [AV.i64 r4, AV.i64 r5, AV.oref 1 1 0 r6.length]⟩, ⟨1, some (L50.map AV.f32)⟩, ⟨1, some [AV.i64 r7, AV.i64 r8, AV.oref 3 1 0 r9.length]⟩, ⟨u10, some (L18.map AV.i64)⟩, ⟨u11, some (L19.map AV.i64)⟩, ⟨(u12 + 1), some (r40.map AV.f32)⟩, ⟨(u13 + 1), some [AV.i64 r38, AV.i64 r39, AV.oref 7 (u12 + 1) 0 r40.length]⟩, ⟨0, none⟩]) ⟨(ALe.refl _), (ALe.refl _), (ALe.refl _), (ALe.refl _), (ALe.refl _), (ALe.refl _), (ALe.refl _), (ALe.refl _), (ALe.refl _), (ALe.refl _), (ALe.refl _), (ALe.refl _), (ALe.refl _), (ALe.refl _), (ALe.refl _), (ALe.refl _), (ALe.refl _), trivial⟩ ⟨⟨rfl, .inr rfl⟩, ⟨rfl, .inr rfl⟩, ⟨rfl, .inr rfl⟩, ⟨rfl, .inr rfl⟩, ⟨rfl, .inr rfl⟩, ⟨rfl, .inr rfl⟩, ⟨rfl, .inr rfl⟩, ⟨rfl, .inr rfl⟩, ⟨rfl, .inr rfl⟩, ⟨rfl, .inr rfl⟩, trivial⟩ ?_
                        refine RunC.seq ?_
                        obtain ⟨e57, he33, h21_⟩ := obind_some h21_
                        obtain ⟨x58, hx34, h21_⟩ := olet_some h21_
                        obtain ⟨L59, he35, h21_⟩ := obind_some h21_
                        refine RunC.region_draw (Γ' := [⟨1, some [AV.i64 0, AV.i64 0, AV.nilsl]⟩, ⟨1, some (L48.map AV.f32)⟩, ⟨1, some [AV.i64 r4, AV.i64 r5, AV.oref 1 1 0 r6.length]⟩, ⟨1, some (L50.map AV.f32)⟩, ⟨1, some [AV.i64 r7, AV.i64 r8, AV.oref 3 1 0 r9.length]⟩, ⟨u10, some (L18.map AV.i64)⟩, ⟨u11, some (L19.map AV.i64)⟩, ⟨(u12 + 1), some (r40.map AV.f32)⟩, ⟨(u13 + 1), some [AV.i64 r38, AV.i64 r39, AV.oref 7 (u12 + 1) 0 r40.length]⟩, ⟨0, none⟩]) 11 mixed 
                          (TR.l (r := AV.optr 4 1 2) rfl rfl (LOp.fao und27 rfl siz22 rfl rfl rfl) <|
                          (TR.d (r := AV.oref 3 1 0 r9.length) (fs := []) rfl rfl (TOp.load1_o rfl rfl agg22 rfl rfl) <|
                          (TR.l (r := AV.i64 x54) rfl rfl (LOp.move rfl rfl) <|
                          (TR.l (r := AV.optr 4 1 2) rfl rfl (LOp.fao und27 rfl siz22 rfl rfl rfl) <|
                          (TR.d (r := AV.oref 3 1 0 r9.length) (fs := []) rfl rfl (TOp.load1_o rfl rfl agg22 rfl rfl) <|
                          (TR.l (r := AV.i64 x54) rfl rfl (LOp.move rfl rfl) <|
                          (TR.d (r := AV.optr 3 1 x54.toNat) (fs := []) rfl rfl (TOp.ixo und22 siz25 rfl rfl rfl (at_in he33 hl51) rfl) <|
                          (TR.d (r := AV.f32 e57) (fs := []) rfl rfl (TOp.load1_o rfl (at_cell he33) agg25 rfl rfl) <|
                          (TR.l (r := AV.f32 x56) rfl rfl (LOp.move rfl rfl) <|
                          (TR.d (r := AV.f32 x58) (fs := []) rfl rfl (TOp.eqr (TOp.fop (.inl rfl) rfl (OpF.tmp rfl) (OpF.tmp rfl)) (congrArg (AV.f .f32) hx34)) <|
                          (TR.d (r := AV.optr 3 1 x54.toNat) (fs := []) rfl rfl (TOp.ixo und22 siz25 rfl rfl rfl (set_in he35 hl51) rfl) <|
                          TR.nil))))))))))) rfl (by kernel_rfl) rfl fills_nil rfl ?_
                        iterate 11 refine ROps.dropS ?_
                        refine ROps.drop0 ?_
                        refine ROps.st (f := AV.f32) (i := x54) (Γ' := [⟨1, some [AV.i64 0, AV.i64 0, AV.nilsl]⟩, ⟨1, some (L48.map AV.f32)⟩, ⟨1, some [AV.i64 r4, AV.i64 r5, AV.oref 1 1 0 r6.length]⟩, ⟨1, some (L59.map AV.f32)⟩, ⟨1, some [AV.i64 r7, AV.i64 r8, AV.oref 3 1 0 r9.length]⟩, ⟨u10, some (L18.map AV.i64)⟩, ⟨u11, some (L19.map AV.i64)⟩, ⟨(u12 + 1), some (r40.map AV.f32)⟩, ⟨(u13 + 1), some [AV.i64 r38, AV.i64 r39, AV.oref 7 (u12 + 1) 0 r40.length]⟩, ⟨0, none⟩]) rfl siz25 rfl rfl rfl (ALe.refl _) rfl rfl rfl he35 rfl ?_
                        refine ROps.nil ?_
                        obtain ⟨e60, he36, h21_⟩ := obind_some h21_
                        obtain ⟨x61, hx37, h21_⟩ := olet_some h21_
                        obtain ⟨L62, he38, h21_⟩ := obind_some h21_
                        refine RunC.region_draw (Γ' := [⟨1, some [AV.i64 0, AV.i64 0, AV.nilsl]⟩, ⟨1, some (L48.map AV.f32)⟩, ⟨1, some [AV.i64 r4, AV.i64 r5, AV.oref 1 1 0 r6.length]⟩, ⟨1, some (L59.map AV.f32)⟩, ⟨1, some [AV.i64 r7, AV.i64 r8, AV.oref 3 1 0 r9.length]⟩, ⟨u10, some (L18.map AV.i64)⟩, ⟨u11, some (L19.map AV.i64)⟩, ⟨(u12 + 1), some (r40.map AV.f32)⟩, ⟨(u13 + 1), some [AV.i64 r38, AV.i64 r39, AV.oref 7 (u12 + 1) 0 r40.length]⟩, ⟨0, none⟩]) 11 mixed 
                          (TR.l (r := AV.optr 2 1 2) rfl rfl (LOp.fao und27 rfl siz22 rfl rfl rfl) <|
                          (TR.d (r := AV.oref 1 1 0 r6.length) (fs := []) rfl rfl (TOp.load1_o rfl rfl agg22 rfl rfl) <|
                          (TR.l (r := AV.i64 x54) rfl rfl (LOp.move rfl rfl) <|
                          (TR.l (r := AV.optr 2 1 2) rfl rfl (LOp.fao und27 rfl siz22 rfl rfl rfl) <|
                          (TR.d (r := AV.oref 1 1 0 r6.length) (fs := []) rfl rfl (TOp.load1_o rfl rfl agg22 rfl rfl) <|
                          (TR.l (r := AV.i64 x54) rfl rfl (LOp.move rfl rfl) <|
                          (TR.d (r := AV.optr 1 1 x54.toNat) (fs := []) rfl rfl (TOp.ixo und22 siz25 rfl rfl rfl (at_in he36 hl49) rfl) <|
                          (TR.d (r := AV.f32 e60) (fs := []) rfl rfl (TOp.load1_o rfl (at_cell he36) agg25 rfl rfl) <|
                          (TR.l (r := AV.f32 x56) rfl rfl (LOp.move rfl rfl) <|
                          (TR.d (r := AV.f32 x61) (fs := []) rfl rfl (TOp.eqr (TOp.fop (.inr (.inl rfl)) rfl (OpF.tmp rfl) (OpF.tmp rfl)) (congrArg (AV.f .f32) hx37)) <|
                          (TR.d (r := AV.optr 1 1 x54.toNat) (fs := []) rfl rfl (TOp.ixo und22 siz25 rfl rfl rfl (set_in he38 hl49) rfl) <|
                          TR.nil))))))))))) rfl (by kernel_rfl) rfl fills_nil rfl ?_
                        iterate 11 refine ROps.dropS ?_
                        refine ROps.drop0 ?_
                        refine ROps.st (f := AV.f32) (i := x54) (Γ' := [⟨1, some [AV.i64 0, AV.i64 0, AV.nilsl]⟩, ⟨1, some (L62.map AV.f32)⟩, ⟨1, some [AV.i64 r4, AV.i64 r5, AV.oref 1 1 0 r6.length]⟩, ⟨1, some (L59.map AV.f32)⟩, ⟨1, some [AV.i64 r7, AV.i64 r8, AV.oref 3 1 0 r9.length]⟩, ⟨u10, some (L18.map AV.i64)⟩, ⟨u11, some (L19.map AV.i64)⟩, ⟨(u12 + 1), some (r40.map AV.f32)⟩, ⟨(u13 + 1), some [AV.i64 r38, AV.i64 r39, AV.oref 7 (u12 + 1) 0 r40.length]⟩, ⟨0, none⟩]) rfl siz25 rfl rfl rfl (ALe.refl _) rfl rfl rfl he38 rfl ?_
                        refine ROps.nil ?_
                        refine RunC.wl (τ' := [(1, AV.f32 a3), (2, AV.i64 v20), (3, AV.ptr [AV.i64 a0, AV.i64 a1, AV.sl a2.length (a2.map AV.f32)]), (6, AV.optr 0 1 0), (10, AV.optr 2 1 0), (11, AV.optr 4 1 0), (12, AV.oref 5 u10 0 L18.length), (13, AV.oref 6 u11 0 L19.length), (16, AV.f32 e34), (17, AV.i64 x36), (18, AV.i64 x37), (19, AV.optr 8 (u13 + 1) 0), (20, AV.i64 v45), (21, AV.f32 x47), (22, AV.i64 v52)]) (Γ' := [⟨1, some [AV.i64 0, AV.i64 0, AV.nilsl]⟩, ⟨1, some (L62.map AV.f32)⟩, ⟨1, some [AV.i64 r4, AV.i64 r5, AV.oref 1 1 0 r6.length]⟩, ⟨1, some (L59.map AV.f32)⟩, ⟨1, some [AV.i64 r7, AV.i64 r8, AV.oref 3 1 0 r9.length]⟩, ⟨u10, some (L18.map AV.i64)⟩, ⟨u11, some (L19.map AV.i64)⟩, ⟨(u12 + 1), some (r40.map AV.f32)⟩, ⟨(u13 + 1), some [AV.i64 r38, AV.i64 r39, AV.oref 7 (u12 + 1) 0 r40.length]⟩, ⟨0, none⟩]) ⟨(ALe.refl _), (ALe.refl _), (ALe.refl _), (ALe.refl _), (ALe.refl _), (ALe.refl _), (ALe.refl _), (ALe.refl _), (ALe.refl _), (ALe.refl _), (ALe.refl _), (ALe.refl _), (ALe.refl _), (ALe.refl _), (ALe.refl _), trivial⟩ ⟨⟨rfl, .inr rfl⟩, ⟨rfl, .inr rfl⟩, ⟨rfl, .inr rfl⟩, ⟨rfl, .inr rfl⟩, ⟨rfl, .inr rfl⟩, ⟨rfl, .inr rfl⟩, ⟨rfl, .inr rfl⟩, ⟨rfl, .inr rfl⟩, ⟨rfl, .inr rfl⟩, ⟨rfl, .inr rfl⟩, trivial⟩ ?_
                        obtain ⟨x63, hx39, h21_⟩ := olet_some h21_
                        refine RunC.regionW ?_
                        refine ROps.l (r := AV.i64 v52) rfl rfl rfl (LOp.move rfl rfl) ?_
                        refine ROps.l (r := AV.i64 x63) rfl rfl rfl (LOp.eqr (LOp.add rfl rfl rfl) (congrArg (AV.ik .i64) hx39)) ?_
                        refine ROps.l (r := AV.i64 x63) rfl rfl rfl (LOp.assign rfl rfl) ?_
                        refine ROps.nil ?_
                        cases Option.some.inj h21_
                        exact ⟨_, rfl, ((setAt?_len he38).trans hl49), ((setAt?_len he35).trans hl51), ⟨(ALe.refl _), (ALe.refl _), (ALe.refl _), (ALe.refl _), (ALe.refl _), (ALe.refl _), (ALe.refl _), (ALe.refl _), (ALe.refl _), (ALe.refl _), (ALe.refl _), (ALe.refl _), (ALe.refl _), (ALe.refl _), (ALe.refl _), trivial⟩, ⟨⟨rfl, .inr rfl⟩, ⟨rfl, .inr rfl⟩, ⟨rfl, .inr rfl⟩, ⟨rfl, .inr rfl⟩, ⟨rfl, .inr rfl⟩, ⟨rfl, .inr rfl⟩, ⟨rfl, .inr rfl⟩, ⟨rfl, .inr rfl⟩, ⟨rfl, .inr rfl⟩, ⟨rfl, .inr rfl⟩, trivial⟩⟩
                      · refine RunC.regionW ?_
                        refine ROps.l (r := AV.i64 v52) rfl rfl rfl (LOp.move rfl rfl) ?_
                        refine ROps.l (r := AV.ptr [AV.i64 a1, AV.sl a2.length (a2.map AV.f32)]) rfl rfl rfl (LOp.fap und27 rfl siz2 rfl rfl rfl) ?_
                        refine ROps.l (r := AV.i64 a1) rfl rfl rfl (LOp.load1 agg2 rfl rfl) ?_
                        refine ROps.l (r := AV.b false) rfl rfl rfl (LOp.eqb (LOp.lss rfl rfl rfl) hc28) ?_
                        refine ROps.nil ?_
                        refine RunC.cond_false rfl rfl ?_
                        refine RunC.exit ?_
                        cases Option.some.inj h21_
                        have hx := ho21 _ rfl
                        exact ⟨L48, L50, hl49, hl51, ⟨(ALe.refl _), (ALe.refl _), (ALe.refl _), (ALe.refl _), (ALe.refl _), (ALe.refl _), (ALe.refl _), (ALe.refl _), (ALe.refl _), (ALe.refl _), (ALe.refl _), (ALe.refl _), (ALe.refl _), trivial⟩, ⟨⟨rfl, .inr rfl⟩, ⟨rfl, .inr rfl⟩, ⟨rfl, .inr rfl⟩, ⟨rfl, .inr rfl⟩, ⟨rfl, .inr rfl⟩, ⟨rfl, .inr rfl⟩, ⟨rfl, .inr rfl⟩, ⟨rfl, .inr rfl⟩, ⟨rfl, .inr rfl⟩, ⟨rfl, .inr rfl⟩, trivial⟩, hx⟩
                    · rintro τ22 Γ22 ⟨L64, L66, hl65, hl67, hw22, hd22, rfl⟩
                      refine RunC.wl (τ' := [(1, AV.f32 a3), (2, AV.i64 v20), (3, AV.ptr [AV.i64 a0, AV.i64 a1, AV.sl a2.length (a2.map AV.f32)]), (6, AV.optr 0 1 0), (10, AV.optr 2 1 0), (11, AV.optr 4 1 0), (12, AV.oref 5 u10 0 L18.length), (13, AV.oref 6 u11 0 L19.length), (16, AV.f32 e34), (17, AV.i64 x36), (18, AV.i64 x37), (19, AV.optr 8 (u13 + 1) 0), (20, AV.i64 v45)]) (Γ' := [⟨1, some [AV.i64 0, AV.i64 0, AV.nilsl]⟩, ⟨1, some (L64.map AV.f32)⟩, ⟨1, some [AV.i64 r4, AV.i64 r5, AV.oref 1 1 0 r6.length]⟩, ⟨1, some (L66.map AV.f32)⟩, ⟨1, some [AV.i64 r7, AV.i64 r8, AV.oref 3 1 0 r9.length]⟩, ⟨u10, some (L18.map AV.i64)⟩, ⟨u11, some (L19.map AV.i64)⟩, ⟨(u12 + 1), some (r40.map AV.f32)⟩, ⟨(u13 + 1), some [AV.i64 r38, AV.i64 r39, AV.oref 7 (u12 + 1) 0 r40.length]⟩, ⟨0, none⟩]) hw22 hd22 ?_
                      replace h20_ : s_CrossOf_k13 v45 L64 L66 = some y20_ := h20_
                      unfold s_CrossOf_k13 at h20_
                      obtain ⟨x68, hx40, h20_⟩ := olet_some h20_
                      refine RunC.regionW ?_
                      refine ROps.l (r := AV.i64 v45) rfl rfl rfl (LOp.move rfl rfl) ?_
                      refine ROps.l (r := AV.i64 x68) rfl rfl rfl (LOp.eqr (LOp.add rfl rfl rfl) (congrArg (AV.ik .i64) hx40)) ?_
                      refine ROps.l (r := AV.i64 x68) rfl rfl rfl (LOp.assign rfl rfl) ?_
                      refine ROps.nil ?_
                      cases Option.some.inj h20_
                      exact ⟨_, rfl, hl65, hl67, ⟨(ALe.refl _), (ALe.refl _), (ALe.refl _), (ALe.refl _), (ALe.refl _), (ALe.refl _), (ALe.refl _), (ALe.refl _), (ALe.refl _), (ALe.refl _), (ALe.refl _), (ALe.refl _), (ALe.refl _), trivial⟩, ⟨⟨rfl, .inr rfl⟩, ⟨rfl, .inr rfl⟩, ⟨rfl, .inr rfl⟩, ⟨rfl, .inr rfl⟩, ⟨rfl, .inr rfl⟩, ⟨rfl, .inr rfl⟩, ⟨rfl, .inr rfl⟩, ⟨rfl, .inr rfl⟩, ⟨rfl, .inr rfl⟩, ⟨rfl, .inr rfl⟩, trivial⟩⟩
                  · refine RunC.regionW ?_
                    refine ROps.l (r := AV.i64 v45) rfl rfl rfl (LOp.move rfl rfl) ?_
                    refine ROps.l (r := AV.ptr [AV.i64 a0, AV.i64 a1, AV.sl a2.length (a2.map AV.f32)]) rfl rfl rfl (LOp.fap und27 rfl siz2 rfl rfl rfl) ?_
                    refine ROps.l (r := AV.i64 a0) rfl rfl rfl (LOp.load1 agg2 rfl rfl) ?_
                    refine ROps.l (r := AV.b false) rfl rfl rfl (LOp.eqb (LOp.lss rfl rfl rfl) hc25) ?_
                    refine ROps.nil ?_
                    refine RunC.cond_false rfl rfl ?_
                    refine RunC.exit ?_
                    cases Option.some.inj h20_
                    have hx := ho20 _ rfl
                    exact ⟨L41, L43, hl42, hl44, ⟨(ALe.refl _), (ALe.refl _), (ALe.refl _), (ALe.refl _), (ALe.refl _), (ALe.refl _), (ALe.refl _), (ALe.refl _), (ALe.refl _), (ALe.refl _), trivial⟩, ⟨⟨rfl, .inr rfl⟩, ⟨rfl, .inr rfl⟩, ⟨rfl, .inr rfl⟩, ⟨rfl, .inr rfl⟩, ⟨rfl, .inr rfl⟩, ⟨rfl, .inr rfl⟩, ⟨rfl, .inr rfl⟩, ⟨rfl, .inl rfl⟩, ⟨rfl, .inl rfl⟩, ⟨rfl, .inr rfl⟩, trivial⟩, hx⟩
                · rintro τ23 Γ23 ⟨L69, L71, hl70, hl72, hw23, hd23, rfl⟩
                  refine RunC.wl (τ' := [(1, AV.f32 a3), (2, AV.i64 v20), (3, AV.ptr [AV.i64 a0, AV.i64 a1, AV.sl a2.length (a2.map AV.f32)]), (6, AV.optr 0 1 0), (10, AV.optr 2 1 0), (11, AV.optr 4 1 0), (12, AV.oref 5 u10 0 L18.length), (13, AV.oref 6 u11 0 L19.length), (17, AV.i64 x36), (18, AV.i64 x37)]) (Γ' := [⟨1, some [AV.i64 0, AV.i64 0, AV.nilsl]⟩, ⟨1, some (L69.map AV.f32)⟩, ⟨1, some [AV.i64 r4, AV.i64 r5, AV.oref 1 1 0 r6.length]⟩, ⟨1, some (L71.map AV.f32)⟩, ⟨1, some [AV.i64 r7, AV.i64 r8, AV.oref 3 1 0 r9.length]⟩, ⟨u10, some (L18.map AV.i64)⟩, ⟨u11, some (L19.map AV.i64)⟩, ⟨(u12 + 1), none⟩, ⟨(u13 + 1), none⟩, ⟨0, none⟩]) hw23 hd23 ?_
                  replace h16_ : s_CrossOf_k14 r4 r5 r7 r8 L18 L19 v20 x36 x37 L69 L71 = some y16_ := h16_
                  unfold s_CrossOf_k14 at h16_
                  refine RunC.seq ?_
                  refine RunC.seq ?_
                  obtain ⟨r73, hf41, h16_⟩ := obind_some h16_
                  rcases bsel_some h16_ with ⟨hc42, h16_⟩ | ⟨hc42, h16_⟩
                  · obtain ⟨r74, hf43, h16_⟩ := obind_some h16_
                    rcases bsel_some h16_ with ⟨hc44, h16_⟩ | ⟨hc44, h16_⟩
                    · refine RunC.regionW ?_
                      refine ROps.d (r := AV.b true) (fs := []) (Γ' := [⟨1, some [AV.i64 0, AV.i64 0, AV.nilsl]⟩, ⟨1, some (L69.map AV.f32)⟩, ⟨1, some [AV.i64 r4, AV.i64 r5, AV.oref 1 1 0 r6.length]⟩, ⟨1, some (L71.map AV.f32)⟩, ⟨1, some [AV.i64 r7, AV.i64 r8, AV.oref 3 1 0 r9.length]⟩, ⟨u10, some (L18.map AV.i64)⟩, ⟨u11, some (L19.map AV.i64)⟩, ⟨(u12 + 1), none⟩, ⟨(u13 + 1), none⟩, ⟨0, none⟩]) rfl rfl rfl (TOp.eqb (TOp.callB (CallAs.func ent37 rfl rfl) (Bors.cons (Bor.optr rfl (Bors.p (Bors.cons (Bor.pure rfl) (Bors.cons (Bor.pure rfl) (Bors.cons (Bor.own (f := AV.f32) (fun _ => rfl) rfl hl70) Bors.nil)))) rfl) Bors.nil) rfl rfl (s_l02Is_ok r4 r5 L69 r73 hf41)) hc42) rfl ?_
                      refine ROps.l (r := AV.b false) rfl rfl rfl (LOp.eqb (LOp.not rfl rfl) rfl) ?_
                      refine ROps.l (r := AV.b false) rfl rfl rfl (LOp.move rfl rfl) ?_
                      refine ROps.d (r := AV.b true) (fs := []) (Γ' := [⟨1, some [AV.i64 0, AV.i64 0, AV.nilsl]⟩, ⟨1, some (L69.map AV.f32)⟩, ⟨1, some [AV.i64 r4, AV.i64 r5, AV.oref 1 1 0 r6.length]⟩, ⟨1, some (L71.map AV.f32)⟩, ⟨1, some [AV.i64 r7, AV.i64 r8, AV.oref 3 1 0 r9.length]⟩, ⟨u10, some (L18.map AV.i64)⟩, ⟨u11, some (L19.map AV.i64)⟩, ⟨(u12 + 1), none⟩, ⟨(u13 + 1), none⟩, ⟨0, none⟩]) rfl rfl rfl (TOp.eqb (TOp.callB (CallAs.func ent37 rfl rfl) (Bors.cons (Bor.optr rfl (Bors.p (Bors.cons (Bor.pure rfl) (Bors.cons (Bor.pure rfl) (Bors.cons (Bor.own (f := AV.f32) (fun _ => rfl) rfl hl72) Bors.nil)))) rfl) Bors.nil) rfl rfl (s_l02Is_ok r7 r8 L71 r74 hf43)) hc44) rfl ?_
                      refine ROps.l (r := AV.b false) rfl rfl rfl (LOp.eqb (LOp.not rfl rfl) rfl) ?_
                      refine ROps.l (r := AV.b false) rfl rfl rfl (LOp.pick_false rfl rfl rfl) ?_
                      refine ROps.nil ?_
                      refine RunC.cond_false rfl rfl ?_
                      refine RunC.skip ?_
                      refine RunC.seq ?_
                      obtain ⟨hm45, h16_⟩ := need_some h16_
                      refine RunC.regionW ?_
                      refine ROps.l (r := AV.oref 5 u10 0 L18.length) rfl rfl rfl (LOp.move rfl rfl) ?_
                      refine ROps.l (r := AV.i64 x36) rfl rfl rfl (LOp.move rfl rfl) ?_
                      refine ROps.d (r := AV.oref 7 (u12 + 2) 0 1) (fs := [(7, (([x36] : List Int).map AV.i64))]) (Γ' := [⟨1, some [AV.i64 0, AV.i64 0, AV.nilsl]⟩, ⟨1, some (L69.map AV.f32)⟩, ⟨1, some [AV.i64 r4, AV.i64 r5, AV.oref 1 1 0 r6.length]⟩, ⟨1, some (L71.map AV.f32)⟩, ⟨1, some [AV.i64 r7, AV.i64 r8, AV.oref 3 1 0 r9.length]⟩, ⟨u10, some (L18.map AV.i64)⟩, ⟨u11, some (L19.map AV.i64)⟩, ⟨(u12 + 2), some (([x36] : List Int).map AV.i64)⟩, ⟨(u13 + 1), none⟩, ⟨0, none⟩]) rfl rfl rfl (TOp.buildSlice_o (g := ⟨(u12 + 1), none⟩) (za := AV.i64 0) (qs := [(0, [AV.i64 x36])]) 7 rfl und28 siz2 zer2 rfl zel2 rfl rfl ⟨rfl, ⟨_, ALe.refl _, rfl⟩, trivial⟩ rfl) rfl ?_
                      refine ROps.app (f := AV.i64) (xs := L18) (ys := ([x36] : List Int)) (Γ' := [⟨1, some [AV.i64 0, AV.i64 0, AV.nilsl]⟩, ⟨1, some (L69.map AV.f32)⟩, ⟨1, some [AV.i64 r4, AV.i64 r5, AV.oref 1 1 0 r6.length]⟩, ⟨1, some (L71.map AV.f32)⟩, ⟨1, some [AV.i64 r7, AV.i64 r8, AV.oref 3 1 0 r9.length]⟩, ⟨(u10 + 1), some ((L18 ++ ([x36] : List Int)).map AV.i64)⟩, ⟨u11, some (L19.map AV.i64)⟩, ⟨(u12 + 2), some (([x36] : List Int).map AV.i64)⟩, ⟨(u13 + 1), none⟩, ⟨0, none⟩]) rfl pun28 inf2 rfl rfl rfl rfl rfl rfl rfl rfl rfl (by simp) (ReadAs.own rfl (by simp)) (ones_map (fun _ => rfl)) (ap_by hm45) (ap_mx hm45) rfl ?_
                      refine ROps.l (r := AV.oref 5 (u10 + 1) 0 (L18.length + 1)) rfl rfl rfl (LOp.assign rfl rfl) ?_
                      refine ROps.nil ?_
                      refine RunC.wl (τ' := [(1, AV.f32 a3), (2, AV.i64 v20), (3, AV.ptr [AV.i64 a0, AV.i64 a1, AV.sl a2.length (a2.map AV.f32)]), (6, AV.optr 0 1 0), (10, AV.optr 2 1 0), (11, AV.optr 4 1 0), (12, AV.oref 5 (u10 + 1) 0 (L18.length + 1)), (13, AV.oref 6 u11 0 L19.length), (18, AV.i64 x37), (142, AV.b true), (143, AV.b false)]) (Γ' := [⟨1, some [AV.i64 0, AV.i64 0, AV.nilsl]⟩, ⟨1, some (L69.map AV.f32)⟩, ⟨1, some [AV.i64 r4, AV.i64 r5, AV.oref 1 1 0 r6.length]⟩, ⟨1, some (L71.map AV.f32)⟩, ⟨1, some [AV.i64 r7, AV.i64 r8, AV.oref 3 1 0 r9.length]⟩, ⟨(u10 + 1), some ((L18 ++ ([x36] : List Int)).map AV.i64)⟩, ⟨u11, some (L19.map AV.i64)⟩, ⟨(u12 + 2), none⟩, ⟨(u13 + 1), none⟩, ⟨0, none⟩]) ⟨(ALe.refl _), (ALe.refl _), (ALe.refl _), (ALe.refl _), (ALe.refl _), (ALe.refl _), (ALe.refl _), (ALe.refl _), (ALe.refl _), (ALe.refl _), (ALe.refl _), trivial⟩ ⟨⟨rfl, .inr rfl⟩, ⟨rfl, .inr rfl⟩, ⟨rfl, .inr rfl⟩, ⟨rfl, .inr rfl⟩, ⟨rfl, .inr rfl⟩, ⟨rfl, .inr rfl⟩, ⟨rfl, .inr rfl⟩, ⟨rfl, .inl rfl⟩, ⟨rfl, .inl rfl⟩, ⟨rfl, .inr rfl⟩, trivial⟩ ?_
                      obtain ⟨hm46, h16_⟩ := need_some h16_
                      refine RunC.regionW ?_
                      refine ROps.l (r := AV.oref 6 u11 0 L19.length) rfl rfl rfl (LOp.move rfl rfl) ?_
                      refine ROps.l (r := AV.i64 x37) rfl rfl rfl (LOp.move rfl rfl) ?_
                      refine ROps.d (r := AV.oref 7 (u12 + 3) 0 1) (fs := [(7, (([x37] : List Int).map AV.i64))]) (Γ' := [⟨1, some [AV.i64 0, AV.i64 0, AV.nilsl]⟩, ⟨1, some (L69.map AV.f32)⟩, ⟨1, some [AV.i64 r4, AV.i64 r5, AV.oref 1 1 0 r6.length]⟩, ⟨1, some (L71.map AV.f32)⟩, ⟨1, some [AV.i64 r7, AV.i64 r8, AV.oref 3 1 0 r9.length]⟩, ⟨(u10 + 1), some ((L18 ++ ([x36] : List Int)).map AV.i64)⟩, ⟨u11, some (L19.map AV.i64)⟩, ⟨(u12 + 3), some (([x37] : List Int).map AV.i64)⟩, ⟨(u13 + 1), none⟩, ⟨0, none⟩]) rfl rfl rfl (TOp.buildSlice_o (g := ⟨(u12 + 2), none⟩) (za := AV.i64 0) (qs := [(0, [AV.i64 x37])]) 7 rfl und28 siz2 zer2 rfl zel2 rfl rfl ⟨rfl, ⟨_, ALe.refl _, rfl⟩, trivial⟩ rfl) rfl ?_
                      refine ROps.app (f := AV.i64) (xs := L19) (ys := ([x37] : List Int)) (Γ' := [⟨1, some [AV.i64 0, AV.i64 0, AV.nilsl]⟩, ⟨1, some (L69.map AV.f32)⟩, ⟨1, some [AV.i64 r4, AV.i64 r5, AV.oref 1 1 0 r6.length]⟩, ⟨1, some (L71.map AV.f32)⟩, ⟨1, some [AV.i64 r7, AV.i64 r8, AV.oref 3 1 0 r9.length]⟩, ⟨(u10 + 1), some ((L18 ++ ([x36] : List Int)).map AV.i64)⟩, ⟨(u11 + 1), some ((L19 ++ ([x37] : List Int)).map AV.i64)⟩, ⟨(u12 + 3), some (([x37] : List Int).map AV.i64)⟩, ⟨(u13 + 1), none⟩, ⟨0, none⟩]) rfl pun28 inf2 rfl rfl rfl rfl rfl rfl rfl rfl rfl (by simp) (ReadAs.own rfl (by simp)) (ones_map (fun _ => rfl)) (ap_by hm46) (ap_mx hm46) rfl ?_
                      refine ROps.l (r := AV.oref 6 (u11 + 1) 0 (L19.length + 1)) rfl rfl rfl (LOp.assign rfl rfl) ?_
                      refine ROps.nil ?_
                      refine RunC.wl (τ' := [(1, AV.f32 a3), (2, AV.i64 v20), (3, AV.ptr [AV.i64 a0, AV.i64 a1, AV.sl a2.length (a2.map AV.f32)]), (6, AV.optr 0 1 0), (10, AV.optr 2 1 0), (11, AV.optr 4 1 0), (12, AV.oref 5 (u10 + 1) 0 (L18.length + 1)), (13, AV.oref 6 (u11 + 1) 0 (L19.length + 1)), (142, AV.b true), (143, AV.b false)]) (Γ' := [⟨1, some [AV.i64 0, AV.i64 0, AV.nilsl]⟩, ⟨1, some (L69.map AV.f32)⟩, ⟨1, some [AV.i64 r4, AV.i64 r5, AV.oref 1 1 0 r6.length]⟩, ⟨1, some (L71.map AV.f32)⟩, ⟨1, some [AV.i64 r7, AV.i64 r8, AV.oref 3 1 0 r9.length]⟩, ⟨(u10 + 1), some ((L18 ++ ([x36] : List Int)).map AV.i64)⟩, ⟨(u11 + 1), some ((L19 ++ ([x37] : List Int)).map AV.i64)⟩, ⟨(u12 + 3), none⟩, ⟨(u13 + 1), none⟩, ⟨0, none⟩]) ⟨(ALe.refl _), (ALe.refl _), (ALe.refl _), (ALe.refl _), (ALe.refl _), (ALe.refl _), (ALe.refl _), (ALe.refl _), (ALe.refl _), (ALe.refl _), trivial⟩ ⟨⟨rfl, .inr rfl⟩, ⟨rfl, .inr rfl⟩, ⟨rfl, .inr rfl⟩, ⟨rfl, .inr rfl⟩, ⟨rfl, .inr rfl⟩, ⟨rfl, .inr rfl⟩, ⟨rfl, .inr rfl⟩, ⟨rfl, .inl rfl⟩, ⟨rfl, .inl rfl⟩, ⟨rfl, .inr rfl⟩, trivial⟩ ?_
                      obtain ⟨x75, hx47, h16_⟩ := olet_some h16_
                      refine RunC.regionW ?_
                      refine ROps.l (r := AV.i64 v20) rfl rfl rfl (LOp.move rfl rfl) ?_
                      refine ROps.l (r := AV.i64 x75) rfl rfl rfl (LOp.eqr (LOp.sub rfl rfl rfl) (congrArg (AV.ik .i64) hx47)) ?_
                      refine ROps.l (r := AV.i64 x75) rfl rfl rfl (LOp.assign rfl rfl) ?_
                      refine ROps.nil ?_
                      cases Option.some.inj h16_
                      exact ⟨_, rfl, (u10 + 1), (u11 + 1), (u12 + 3), (u13 + 1), hl70, hl72, ⟨(ALe.refl _), (ALe.refl _), (ALe.refl _), (ALe.refl _), (ALe.refl _), (ALe.refl _), (ALe.eq (by rw [(app_len rfl rfl)] <;> rfl)), (ALe.eq (by rw [(app_len rfl rfl)] <;> rfl)), trivial⟩, ⟨⟨rfl, .inr rfl⟩, ⟨rfl, .inr rfl⟩, ⟨rfl, .inr rfl⟩, ⟨rfl, .inr rfl⟩, ⟨rfl, .inr rfl⟩, ⟨rfl, .inr rfl⟩, ⟨rfl, .inr rfl⟩, ⟨rfl, .inl rfl⟩, ⟨rfl, .inl rfl⟩, ⟨rfl, .inr rfl⟩, trivial⟩⟩
                    · refine RunC.regionW ?_
                      refine ROps.d (r := AV.b true) (fs := []) (Γ' := [⟨1, some [AV.i64 0, AV.i64 0, AV.nilsl]⟩, ⟨1, some (L69.map AV.f32)⟩, ⟨1, some [AV.i64 r4, AV.i64 r5, AV.oref 1 1 0 r6.length]⟩, ⟨1, some (L71.map AV.f32)⟩, ⟨1, some [AV.i64 r7, AV.i64 r8, AV.oref 3 1 0 r9.length]⟩, ⟨u10, some (L18.map AV.i64)⟩, ⟨u11, some (L19.map AV.i64)⟩, ⟨(u12 + 1), none⟩, ⟨(u13 + 1), none⟩, ⟨0, none⟩]) rfl rfl rfl (TOp.eqb (TOp.callB (CallAs.func ent37 rfl rfl) (Bors.cons (Bor.optr rfl (Bors.p (Bors.cons (Bor.pure rfl) (Bors.cons (Bor.pure rfl) (Bors.cons (Bor.own (f := AV.f32) (fun _ => rfl) rfl hl70) Bors.nil)))) rfl) Bors.nil) rfl rfl (s_l02Is_ok r4 r5 L69 r73 hf41)) hc42) rfl ?_
                      refine ROps.l (r := AV.b false) rfl rfl rfl (LOp.eqb (LOp.not rfl rfl) rfl) ?_
                      refine ROps.l (r := AV.b false) rfl rfl rfl (LOp.move rfl rfl) ?_
                      refine ROps.d (r := AV.b false) (fs := []) (Γ' := [⟨1, some [AV.i64 0, AV.i64 0, AV.nilsl]⟩, ⟨1, some (L69.map AV.f32)⟩, ⟨1, some [AV.i64 r4, AV.i64 r5, AV.oref 1 1 0 r6.length]⟩, ⟨1, some (L71.map AV.f32)⟩, ⟨1, some [AV.i64 r7, AV.i64 r8, AV.oref 3 1 0 r9.length]⟩, ⟨u10, some (L18.map AV.i64)⟩, ⟨u11, some (L19.map AV.i64)⟩, ⟨(u12 + 1), none⟩, ⟨(u13 + 1), none⟩, ⟨0, none⟩]) rfl rfl rfl (TOp.eqb (TOp.callB (CallAs.func ent37 rfl rfl) (Bors.cons (Bor.optr rfl (Bors.p (Bors.cons (Bor.pure rfl) (Bors.cons (Bor.pure rfl) (Bors.cons (Bor.own (f := AV.f32) (fun _ => rfl) rfl hl72) Bors.nil)))) rfl) Bors.nil) rfl rfl (s_l02Is_ok r7 r8 L71 r74 hf43)) hc44) rfl ?_
                      refine ROps.l (r := AV.b true) rfl rfl rfl (LOp.eqb (LOp.not rfl rfl) rfl) ?_
                      refine ROps.l (r := AV.b true) rfl rfl rfl (LOp.pick_false rfl rfl rfl) ?_
                      refine ROps.nil ?_
                      refine RunC.cond_true rfl rfl ?_
                      refine RunC.seq ?_
                      refine RunC.regionW ?_
                      refine ROps.l (r := AV.agg [AV.i64 0, AV.i64 0, AV.nilsl]) rfl rfl rfl (LOp.build (qs := []) zer27 zok27 und27 plc27 rfl trivial rfl) ?_
                      refine ROps.store_le (r := AV.agg [AV.i64 0, AV.i64 0, AV.nilsl]) (l' := [AV.i64 0, AV.i64 0, AV.nilsl]) (Γ' := [⟨1, some [AV.i64 0, AV.i64 0, AV.nilsl]⟩, ⟨1, some (L69.map AV.f32)⟩, ⟨1, some [AV.i64 r4, AV.i64 r5, AV.oref 1 1 0 r6.length]⟩, ⟨1, some (L71.map AV.f32)⟩, ⟨1, some [AV.i64 r7, AV.i64 r8, AV.oref 3 1 0 r9.length]⟩, ⟨u10, some (L18.map AV.i64)⟩, ⟨u11, some (L19.map AV.i64)⟩, ⟨(u12 + 1), none⟩, ⟨(u13 + 1), none⟩, ⟨0, none⟩]) rfl siz27 rfl rfl rfl (ALe.refl _) rfl rfl rfl rfl (Nat.le_of_ble_eq_true rfl) rfl rfl ?_
                      refine ROps.l (r := AV.nilsl) rfl rfl rfl (LOp.assign rfl rfl) ?_
                      refine ROps.l (r := AV.nilsl) rfl rfl rfl (LOp.assign rfl rfl) ?_
                      refine ROps.l (r := AV.b false) rfl rfl rfl (LOp.assign rfl rfl) ?_
                      refine ROps.nil ?_
                      refine RunC.nil_cell (l' := [AV.i64 0, AV.i64 0, AV.oref 7 (u12 + 2) 0 0]) (Γ' := [⟨1, some [AV.i64 0, AV.i64 0, AV.oref 7 (u12 + 2) 0 0]⟩, ⟨1, some (L69.map AV.f32)⟩, ⟨1, some [AV.i64 r4, AV.i64 r5, AV.oref 1 1 0 r6.length]⟩, ⟨1, some (L71.map AV.f32)⟩, ⟨1, some [AV.i64 r7, AV.i64 r8, AV.oref 3 1 0 r9.length]⟩, ⟨u10, some (L18.map AV.i64)⟩, ⟨u11, some (L19.map AV.i64)⟩, ⟨(u12 + 2), some (([] : List F).map AV.f32)⟩, ⟨(u13 + 1), none⟩, ⟨0, none⟩]) 0 2 7 rfl rfl rfl rfl rfl ?_
                      refine RunC.nil_slot (Γ' := [⟨1, some [AV.i64 0, AV.i64 0, AV.oref 7 (u12 + 2) 0 0]⟩, ⟨1, some (L69.map AV.f32)⟩, ⟨1, some [AV.i64 r4, AV.i64 r5, AV.oref 1 1 0 r6.length]⟩, ⟨1, some (L71.map AV.f32)⟩, ⟨1, some [AV.i64 r7, AV.i64 r8, AV.oref 3 1 0 r9.length]⟩, ⟨u10, some (L18.map AV.i64)⟩, ⟨u11, some (L19.map AV.i64)⟩, ⟨(u12 + 2), some (([] : List F).map AV.f32)⟩, ⟨(u13 + 2), some (([] : List Int).map AV.i64)⟩, ⟨0, none⟩]) 7 8 rfl rfl rfl ?_
                      refine RunC.nil_slot (Γ' := [⟨1, some [AV.i64 0, AV.i64 0, AV.oref 7 (u12 + 2) 0 0]⟩, ⟨1, some (L69.map AV.f32)⟩, ⟨1, some [AV.i64 r4, AV.i64 r5, AV.oref 1 1 0 r6.length]⟩, ⟨1, some (L71.map AV.f32)⟩, ⟨1, some [AV.i64 r7, AV.i64 r8, AV.oref 3 1 0 r9.length]⟩, ⟨u10, some (L18.map AV.i64)⟩, ⟨u11, some (L19.map AV.i64)⟩, ⟨(u12 + 2), some (([] : List F).map AV.f32)⟩, ⟨(u13 + 2), some (([] : List Int).map AV.i64)⟩, ⟨1, some (([] : List Int).map AV.i64)⟩]) 8 9 rfl rfl rfl ?_
                      refine RunC.ret ?_
                      cases Option.some.inj h16_
                      have hx24_ := hr16 _ rfl
                      subst hx24_
                      have hq := Option.some.inj h
                      obtain ⟨hq0, hq⟩ := Prod.mk.inj hq
                      obtain ⟨hq1, hq⟩ := Prod.mk.inj hq
                      obtain ⟨hq2, hq⟩ := Prod.mk.inj hq
                      obtain ⟨hq3, hq⟩ := Prod.mk.inj hq
                      obtain ⟨hq4, hq⟩ := Prod.mk.inj hq
                      subst q0
                      subst q1
                      subst q2
                      subst q3
                      subst q4
                      subst q5
                      exact bodyQ.mk (r' := AV.tup [AV.agg [AV.i64 0, AV.i64 0, AV.oref 7 (u12 + 2) 0 (([] : List F).length)], AV.oref 8 (u13 + 2) 0 (([] : List Int).length), AV.oref 9 1 0 (([] : List Int).length), AV.b false]) [(7, (u12 + 2)), (8, (u13 + 2)), (9, 1)] (.inr rfl) rfl (show List.Nodup [7, 8, 9] from by decide) (by simp [AV.ren, AV.rens, sigma]) rfl (Res.eq (Res.four rfl (RV.cell agg27 siz27 rfl rfl rfl rfl) (RV.tmp rfl) (RV.tmp rfl) (RV.tmp rfl)) (by rw [(show ([] : List F).length = 0 from rfl), (show ([] : List Int).length = 0 from rfl)] <;> rfl)) (SelL.arr0 (f := AV.f32) (fun _ => rfl) rfl (SelL.arr0 (f := AV.i64) (fun _ => rfl) rfl (SelL.arr0 (f := AV.i64) (fun _ => rfl) rfl trivial)))
                  · refine RunC.regionW ?_
                    refine ROps.d (r := AV.b false) (fs := []) (Γ' := [⟨1, some [AV.i64 0, AV.i64 0, AV.nilsl]⟩, ⟨1, some (L69.map AV.f32)⟩, ⟨1, some [AV.i64 r4, AV.i64 r5, AV.oref 1 1 0 r6.length]⟩, ⟨1, some (L71.map AV.f32)⟩, ⟨1, some [AV.i64 r7, AV.i64 r8, AV.oref 3 1 0 r9.length]⟩, ⟨u10, some (L18.map AV.i64)⟩, ⟨u11, some (L19.map AV.i64)⟩, ⟨(u12 + 1), none⟩, ⟨(u13 + 1), none⟩, ⟨0, none⟩]) rfl rfl rfl (TOp.eqb (TOp.callB (CallAs.func ent37 rfl rfl) (Bors.cons (Bor.optr rfl (Bors.p (Bors.cons (Bor.pure rfl) (Bors.cons (Bor.pure rfl) (Bors.cons (Bor.own (f := AV.f32) (fun _ => rfl) rfl hl70) Bors.nil)))) rfl) Bors.nil) rfl rfl (s_l02Is_ok r4 r5 L69 r73 hf41)) hc42) rfl ?_
                    refine ROps.l (r := AV.b true) rfl rfl rfl (LOp.eqb (LOp.not rfl rfl) rfl) ?_
                    refine ROps.l (r := AV.b true) rfl rfl rfl (LOp.move rfl rfl) ?_
                    refine ROps.s rfl rfl rfl ?_
                    refine ROps.s rfl rfl rfl ?_
                    refine ROps.l (r := AV.b true) rfl rfl rfl (LOp.pick_true rfl rfl rfl) ?_
                    refine ROps.nil ?_
                    refine RunC.cond_true rfl rfl ?_
                    refine RunC.seq ?_
                    refine RunC.regionW ?_
                    refine ROps.l (r := AV.agg [AV.i64 0, AV.i64 0, AV.nilsl]) rfl rfl rfl (LOp.build (qs := []) zer27 zok27 und27 plc27 rfl trivial rfl) ?_
                    refine ROps.store_le (r := AV.agg [AV.i64 0, AV.i64 0, AV.nilsl]) (l' := [AV.i64 0, AV.i64 0, AV.nilsl]) (Γ' := [⟨1, some [AV.i64 0, AV.i64 0, AV.nilsl]⟩, ⟨1, some (L69.map AV.f32)⟩, ⟨1, some [AV.i64 r4, AV.i64 r5, AV.oref 1 1 0 r6.length]⟩, ⟨1, some (L71.map AV.f32)⟩, ⟨1, some [AV.i64 r7, AV.i64 r8, AV.oref 3 1 0 r9.length]⟩, ⟨u10, some (L18.map AV.i64)⟩, ⟨u11, some (L19.map AV.i64)⟩, ⟨(u12 + 1), none⟩, ⟨(u13 + 1), none⟩, ⟨0, none⟩]) rfl siz27 rfl rfl rfl (ALe.refl _) rfl rfl rfl rfl (Nat.le_of_ble_eq_true rfl) rfl rfl ?_
                    refine ROps.l (r := AV.nilsl) rfl rfl rfl (LOp.assign rfl rfl) ?_
                    refine ROps.l (r := AV.nilsl) rfl rfl rfl (LOp.assign rfl rfl) ?_
                    refine ROps.l (r := AV.b false) rfl rfl rfl (LOp.assign rfl rfl) ?_
                    refine ROps.nil ?_
                    refine RunC.nil_cell (l' := [AV.i64 0, AV.i64 0, AV.oref 7 (u12 + 2) 0 0]) (Γ' := [⟨1, some [AV.i64 0, AV.i64 0, AV.oref 7 (u12 + 2) 0 0]⟩, ⟨1, some (L69.map AV.f32)⟩, ⟨1, some [AV.i64 r4, AV.i64 r5, AV.oref 1 1 0 r6.length]⟩, ⟨1, some (L71.map AV.f32)⟩, ⟨1, some [AV.i64 r7, AV.i64 r8, AV.oref 3 1 0 r9.length]⟩, ⟨u10, some (L18.map AV.i64)⟩, ⟨u11, some (L19.map AV.i64)⟩, ⟨(u12 + 2), some (([] : List F).map AV.f32)⟩, ⟨(u13 + 1), none⟩, ⟨0, none⟩]) 0 2 7 rfl rfl rfl rfl rfl ?_
                    refine RunC.nil_slot (Γ' := [⟨1, some [AV.i64 0, AV.i64 0, AV.oref 7 (u12 + 2) 0 0]⟩, ⟨1, some (L69.map AV.f32)⟩, ⟨1, some [AV.i64 r4, AV.i64 r5, AV.oref 1 1 0 r6.length]⟩, ⟨1, some (L71.map AV.f32)⟩, ⟨1, some [AV.i64 r7, AV.i64 r8, AV.oref 3 1 0 r9.length]⟩, ⟨u10, some (L18.map AV.i64)⟩, ⟨u11, some (L19.map AV.i64)⟩, ⟨(u12 + 2), some (([] : List F).map AV.f32)⟩, ⟨(u13 + 2), some (([] : List Int).map AV.i64)⟩, ⟨0, none⟩]) 7 8 rfl rfl rfl ?_
                    refine RunC.nil_slot (Γ' := [⟨1, some [AV.i64 0, AV.i64 0, AV.oref 7 (u12 + 2) 0 0]⟩, ⟨1, some (L69.map AV.f32)⟩, ⟨1, some [AV.i64 r4, AV.i64 r5, AV.oref 1 1 0 r6.length]⟩, ⟨1, some (L71.map AV.f32)⟩, ⟨1, some [AV.i64 r7, AV.i64 r8, AV.oref 3 1 0 r9.length]⟩, ⟨u10, some (L18.map AV.i64)⟩, ⟨u11, some (L19.map AV.i64)⟩, ⟨(u12 + 2), some (([] : List F).map AV.f32)⟩, ⟨(u13 + 2), some (([] : List Int).map AV.i64)⟩, ⟨1, some (([] : List Int).map AV.i64)⟩]) 8 9 rfl rfl rfl ?_
                    refine RunC.ret ?_
                    cases Option.some.inj h16_
                    have hx25_ := hr16 _ rfl
                    subst hx25_
                    have hq := Option.some.inj h
                    obtain ⟨hq0, hq⟩ := Prod.mk.inj hq
                    obtain ⟨hq1, hq⟩ := Prod.mk.inj hq
                    obtain ⟨hq2, hq⟩ := Prod.mk.inj hq
                    obtain ⟨hq3, hq⟩ := Prod.mk.inj hq
                    obtain ⟨hq4, hq⟩ := Prod.mk.inj hq
                    subst q0
                    subst q1
                    subst q2
                    subst q3
                    subst q4
                    subst q5
                    exact bodyQ.mk (r' := AV.tup [AV.agg [AV.i64 0, AV.i64 0, AV.oref 7 (u12 + 2) 0 (([] : List F).length)], AV.oref 8 (u13 + 2) 0 (([] : List Int).length), AV.oref 9 1 0 (([] : List Int).length), AV.b false]) [(7, (u12 + 2)), (8, (u13 + 2)), (9, 1)] (.inr rfl) rfl (show List.Nodup [7, 8, 9] from by decide) (by simp [AV.ren, AV.rens, sigma]) rfl (Res.eq (Res.four rfl (RV.cell agg27 siz27 rfl rfl rfl rfl) (RV.tmp rfl) (RV.tmp rfl) (RV.tmp rfl)) (by rw [(show ([] : List F).length = 0 from rfl), (show ([] : List Int).length = 0 from rfl)] <;> rfl)) (SelL.arr0 (f := AV.f32) (fun _ => rfl) rfl (SelL.arr0 (f := AV.i64) (fun _ => rfl) rfl (SelL.arr0 (f := AV.i64) (fun _ => rfl) rfl trivial)))
          · refine RunC.regionW ?_
            refine ROps.l (r := AV.i64 v20) rfl rfl rfl (LOp.move rfl rfl) ?_
            refine ROps.l (r := AV.b false) rfl rfl rfl (LOp.eqb (LOp.gtr rfl rfl rfl) hc9) ?_
            refine ROps.nil ?_
            refine RunC.cond_false rfl rfl ?_
            refine RunC.exit ?_
            cases Option.some.inj h16_
            have hx := ho16 _ rfl
            exact ⟨L16, L18, L19, u10, u11, u12, u13, hl17, ⟨(ALe.refl _), (ALe.refl _), (ALe.refl _), (ALe.refl _), trivial⟩, ⟨⟨rfl, .inr rfl⟩, ⟨rfl, .inl rfl⟩, ⟨rfl, .inl rfl⟩, ⟨rfl, .inr rfl⟩, ⟨rfl, .inr rfl⟩, ⟨rfl, .inr rfl⟩, ⟨rfl, .inr rfl⟩, ⟨rfl, .inl rfl⟩, ⟨rfl, .inl rfl⟩, ⟨rfl, .inr rfl⟩, trivial⟩, hx⟩
        · rintro τ26 Γ26 ⟨L80, L82, L83, u76, u77, u78, u79, hl81, hw26, hd26, rfl⟩
          refine RunC.wl (τ' := [(6, AV.optr 0 1 0), (11, AV.optr 4 1 0), (12, AV.oref 5 u76 0 L82.length), (13, AV.oref 6 u77 0 L83.length)]) (Γ' := [⟨1, some [AV.i64 0, AV.i64 0, AV.nilsl]⟩, ⟨1, none⟩, ⟨1, none⟩, ⟨1, some (L80.map AV.f32)⟩, ⟨1, some [AV.i64 r7, AV.i64 r8, AV.oref 3 1 0 r9.length]⟩, ⟨u76, some (L82.map AV.i64)⟩, ⟨u77, some (L83.map AV.i64)⟩, ⟨u78, none⟩, ⟨u79, none⟩, ⟨0, none⟩]) hw26 hd26 ?_
          replace h : s_CrossOf_k15 r7 r8 L80 L82 L83 = some (q0, q1, q2, q3, q4, q5) := h
          unfold s_CrossOf_k15 at h
          refine RunC.seq ?_
          refine RunC.regionW ?_
          refine ROps.d (r := AV.agg [AV.i64 r7, AV.i64 r8, AV.oref 3 1 0 r9.length]) (fs := []) (Γ' := [⟨1, some [AV.i64 0, AV.i64 0, AV.nilsl]⟩, ⟨1, none⟩, ⟨1, none⟩, ⟨1, some (L80.map AV.f32)⟩, ⟨1, some [AV.i64 r7, AV.i64 r8, AV.oref 3 1 0 r9.length]⟩, ⟨u76, some (L82.map AV.i64)⟩, ⟨u77, some (L83.map AV.i64)⟩, ⟨u78, none⟩, ⟨u79, none⟩, ⟨0, none⟩]) rfl rfl rfl (TOp.loadAgg_o rfl agg27 siz27 rfl rfl rfl rfl) rfl ?_
          refine ROps.l (r := AV.oref 5 u76 0 L82.length) rfl rfl rfl (LOp.move rfl rfl) ?_
          refine ROps.l (r := AV.oref 6 u77 0 L83.length) rfl rfl rfl (LOp.move rfl rfl) ?_
          refine ROps.store_le (r := AV.agg [AV.i64 r7, AV.i64 r8, AV.oref 3 1 0 r9.length]) (l' := [AV.i64 r7, AV.i64 r8, AV.oref 3 1 0 r9.length]) (Γ' := [⟨1, some [AV.i64 r7, AV.i64 r8, AV.oref 3 1 0 r9.length]⟩, ⟨1, none⟩, ⟨1, none⟩, ⟨1, some (L80.map AV.f32)⟩, ⟨1, some [AV.i64 r7, AV.i64 r8, AV.oref 3 1 0 r9.length]⟩, ⟨u76, some (L82.map AV.i64)⟩, ⟨u77, some (L83.map AV.i64)⟩, ⟨u78, none⟩, ⟨u79, none⟩, ⟨0, none⟩]) rfl siz27 rfl rfl rfl (ALe.refl _) rfl rfl rfl rfl (Nat.le_of_ble_eq_true rfl) rfl rfl ?_
          refine ROps.l (r := AV.oref 5 u76 0 L82.length) rfl rfl rfl (LOp.assign rfl rfl) ?_
          refine ROps.l (r := AV.oref 6 u77 0 L83.length) rfl rfl rfl (LOp.assign rfl rfl) ?_
          refine ROps.l (r := AV.b true) rfl rfl rfl (LOp.assign rfl rfl) ?_
          refine ROps.nil ?_
          refine RunC.ret ?_
          have hq := Option.some.inj h
          obtain ⟨hq0, hq⟩ := Prod.mk.inj hq
          obtain ⟨hq1, hq⟩ := Prod.mk.inj hq
          obtain ⟨hq2, hq⟩ := Prod.mk.inj hq
          obtain ⟨hq3, hq⟩ := Prod.mk.inj hq
          obtain ⟨hq4, hq⟩ := Prod.mk.inj hq
          subst q0
          subst q1
          subst q2
          subst q3
          subst q4
          subst q5
          exact bodyQ.mk (r' := AV.tup [AV.agg [AV.i64 r7, AV.i64 r8, AV.oref 3 1 0 L80.length], AV.oref 5 u76 0 L82.length, AV.oref 6 u77 0 L83.length, AV.b true]) [(3, 1), (5, u76), (6, u77)] (.inr rfl) rfl (show List.Nodup [3, 5, 6] from by decide) (by simp [AV.ren, AV.rens, sigma]) rfl (Res.eq (Res.four rfl (RV.cell agg27 siz27 rfl rfl rfl rfl) (RV.tmp rfl) (RV.tmp rfl) (RV.tmp rfl)) (by rw [(show L80.length = r9.length from hl81)] <;> rfl)) (SelL.arr0 (f := AV.f32) (fun _ => rfl) rfl (SelL.arr0 (f := AV.i64) (fun _ => rfl) rfl (SelL.arr0 (f := AV.i64) (fun _ => rfl) rfl trivial)))
      · refine RunC.regionW ?_
        refine ROps.d (r := AV.b true) (fs := []) (Γ' := [⟨1, some [AV.i64 0, AV.i64 0, AV.nilsl]⟩, ⟨0, none⟩, ⟨0, none⟩, ⟨0, none⟩, ⟨0, none⟩, ⟨0, none⟩, ⟨0, none⟩, ⟨0, none⟩, ⟨0, none⟩, ⟨0, none⟩]) rfl rfl rfl (TOp.eqb (TOp.callB (CallAs.func ent37 rfl rfl) (Bors.cons (Bor.ptr (Bors.cons (Bor.pure rfl) (Bors.cons (Bor.pure rfl) (Bors.cons (Bor.sl (fun _ => rfl)) Bors.nil)))) Bors.nil) rfl rfl (s_l02Is_ok a0 a1 a2 r1 hf1)) hc2) rfl ?_
        refine ROps.l (r := AV.b false) rfl rfl rfl (LOp.eqb (LOp.not rfl rfl) rfl) ?_
        refine ROps.l (r := AV.b false) rfl rfl rfl (LOp.move rfl rfl) ?_
        refine ROps.l (r := AV.f32 a3) rfl rfl rfl (LOp.move rfl rfl) ?_
        refine ROps.d (r := AV.b true) (fs := []) (Γ' := [⟨1, some [AV.i64 0, AV.i64 0, AV.nilsl]⟩, ⟨0, none⟩, ⟨0, none⟩, ⟨0, none⟩, ⟨0, none⟩, ⟨0, none⟩, ⟨0, none⟩, ⟨0, none⟩, ⟨0, none⟩, ⟨0, none⟩]) rfl rfl rfl (TOp.eqb (TOp.callB (CallAs.func ent38 rfl rfl) (Bors.cons (Bor.pure rfl) Bors.nil) rfl rfl (s_l02Least_ok a3 r2 hf3)) hc4) rfl ?_
        refine ROps.l (r := AV.b false) rfl rfl rfl (LOp.eqb (LOp.not rfl rfl) rfl) ?_
        refine ROps.l (r := AV.b false) rfl rfl rfl (LOp.pick_false rfl rfl rfl) ?_
        refine ROps.l (r := AV.b false) rfl rfl rfl (LOp.move rfl rfl) ?_
        refine ROps.l (r := AV.i64 a4) rfl rfl rfl (LOp.move rfl rfl) ?_
        refine ROps.d (r := AV.b false) (fs := []) (Γ' := [⟨1, some [AV.i64 0, AV.i64 0, AV.nilsl]⟩, ⟨0, none⟩, ⟨0, none⟩, ⟨0, none⟩, ⟨0, none⟩, ⟨0, none⟩, ⟨0, none⟩, ⟨0, none⟩, ⟨0, none⟩, ⟨0, none⟩]) rfl rfl rfl (TOp.eqb (TOp.callB (CallAs.func ent39 rfl rfl) (Bors.cons (Bor.pure rfl) (Bors.cons (Bor.pure rfl) (Bors.cons (Bor.pure rfl) Bors.nil))) rfl rfl (s_l00In_ok a4 1 12 r3 hf5)) hc6) rfl ?_
        refine ROps.l (r := AV.b true) rfl rfl rfl (LOp.eqb (LOp.not rfl rfl) rfl) ?_
        refine ROps.l (r := AV.b true) rfl rfl rfl (LOp.pick_false rfl rfl rfl) ?_
        refine ROps.nil ?_
        refine RunC.wl (τ' := [(1, AV.f32 a3), (2, AV.i64 a4), (3, AV.ptr [AV.i64 a0, AV.i64 a1, AV.sl a2.length (a2.map AV.f32)]), (6, AV.optr 0 1 0), (36, AV.b true)]) (Γ' := [⟨1, some [AV.i64 0, AV.i64 0, AV.nilsl]⟩, ⟨0, none⟩, ⟨0, none⟩, ⟨0, none⟩, ⟨0, none⟩, ⟨0, none⟩, ⟨0, none⟩, ⟨0, none⟩, ⟨0, none⟩, ⟨0, none⟩]) ⟨(ALe.refl _), (ALe.refl _), (ALe.refl _), (ALe.refl _), (ALe.refl _), trivial⟩ ⟨⟨rfl, .inr rfl⟩, ⟨rfl, .inr rfl⟩, ⟨rfl, .inr rfl⟩, ⟨rfl, .inr rfl⟩, ⟨rfl, .inr rfl⟩, ⟨rfl, .inr rfl⟩, ⟨rfl, .inr rfl⟩, ⟨rfl, .inr rfl⟩, ⟨rfl, .inr rfl⟩, ⟨rfl, .inr rfl⟩, trivial⟩ ?_
        refine RunC.cond_true rfl rfl ?_
        refine RunC.seq ?_
        refine RunC.regionW ?_
        refine ROps.l (r := AV.agg [AV.i64 0, AV.i64 0, AV.nilsl]) rfl rfl rfl (LOp.build (qs := []) zer27 zok27 und27 plc27 rfl trivial rfl) ?_
        refine ROps.store_le (r := AV.agg [AV.i64 0, AV.i64 0, AV.nilsl]) (l' := [AV.i64 0, AV.i64 0, AV.nilsl]) (Γ' := [⟨1, some [AV.i64 0, AV.i64 0, AV.nilsl]⟩, ⟨0, none⟩, ⟨0, none⟩, ⟨0, none⟩, ⟨0, none⟩, ⟨0, none⟩, ⟨0, none⟩, ⟨0, none⟩, ⟨0, none⟩, ⟨0, none⟩]) rfl siz27 rfl rfl rfl (ALe.refl _) rfl rfl rfl rfl (Nat.le_of_ble_eq_true rfl) rfl rfl ?_
        refine ROps.l (r := AV.nilsl) rfl rfl rfl (LOp.assign rfl rfl) ?_
        refine ROps.l (r := AV.nilsl) rfl rfl rfl (LOp.assign rfl rfl) ?_
        refine ROps.l (r := AV.b false) rfl rfl rfl (LOp.assign rfl rfl) ?_
        refine ROps.nil ?_
        refine RunC.nil_cell (l' := [AV.i64 0, AV.i64 0, AV.oref 1 1 0 0]) (Γ' := [⟨1, some [AV.i64 0, AV.i64 0, AV.oref 1 1 0 0]⟩, ⟨1, some (([] : List F).map AV.f32)⟩, ⟨0, none⟩, ⟨0, none⟩, ⟨0, none⟩, ⟨0, none⟩, ⟨0, none⟩, ⟨0, none⟩, ⟨0, none⟩, ⟨0, none⟩]) 0 2 1 rfl rfl rfl rfl rfl ?_
        refine RunC.nil_slot (Γ' := [⟨1, some [AV.i64 0, AV.i64 0, AV.oref 1 1 0 0]⟩, ⟨1, some (([] : List F).map AV.f32)⟩, ⟨1, some (([] : List Int).map AV.i64)⟩, ⟨0, none⟩, ⟨0, none⟩, ⟨0, none⟩, ⟨0, none⟩, ⟨0, none⟩, ⟨0, none⟩, ⟨0, none⟩]) 7 2 rfl rfl rfl ?_
        refine RunC.nil_slot (Γ' := [⟨1, some [AV.i64 0, AV.i64 0, AV.oref 1 1 0 0]⟩, ⟨1, some (([] : List F).map AV.f32)⟩, ⟨1, some (([] : List Int).map AV.i64)⟩, ⟨1, some (([] : List Int).map AV.i64)⟩, ⟨0, none⟩, ⟨0, none⟩, ⟨0, none⟩, ⟨0, none⟩, ⟨0, none⟩, ⟨0, none⟩]) 8 3 rfl rfl rfl ?_
        refine RunC.ret ?_
        have hq := Option.some.inj h
        obtain ⟨hq0, hq⟩ := Prod.mk.inj hq
        obtain ⟨hq1, hq⟩ := Prod.mk.inj hq
        obtain ⟨hq2, hq⟩ := Prod.mk.inj hq
        obtain ⟨hq3, hq⟩ := Prod.mk.inj hq
        obtain ⟨hq4, hq⟩ := Prod.mk.inj hq
        subst q0
        subst q1
        subst q2
        subst q3
        subst q4
        subst q5
        exact bodyQ.mk (r' := AV.tup [AV.agg [AV.i64 0, AV.i64 0, AV.oref 1 1 0 (([] : List F).length)], AV.oref 2 1 0 (([] : List Int).length), AV.oref 3 1 0 (([] : List Int).length), AV.b false]) [(1, 1), (2, 1), (3, 1)] (.inr rfl) rfl (show List.Nodup [1, 2, 3] from by decide) rfl rfl (Res.eq (Res.four rfl (RV.cell agg27 siz27 rfl rfl rfl rfl) (RV.tmp rfl) (RV.tmp rfl) (RV.tmp rfl)) (by rw [(show ([] : List F).length = 0 from rfl), (show ([] : List Int).length = 0 from rfl)] <;> rfl)) (SelL.arr0 (f := AV.f32) (fun _ => rfl) rfl (SelL.arr0 (f := AV.i64) (fun _ => rfl) rfl (SelL.arr0 (f := AV.i64) (fun _ => rfl) rfl trivial)))
    · refine RunC.regionW ?_
      refine ROps.d (r := AV.b true) (fs := []) (Γ' := [⟨1, some [AV.i64 0, AV.i64 0, AV.nilsl]⟩, ⟨0, none⟩, ⟨0, none⟩, ⟨0, none⟩, ⟨0, none⟩, ⟨0, none⟩, ⟨0, none⟩, ⟨0, none⟩, ⟨0, none⟩, ⟨0, none⟩]) rfl rfl rfl (TOp.eqb (TOp.callB (CallAs.func ent37 rfl rfl) (Bors.cons (Bor.ptr (Bors.cons (Bor.pure rfl) (Bors.cons (Bor.pure rfl) (Bors.cons (Bor.sl (fun _ => rfl)) Bors.nil)))) Bors.nil) rfl rfl (s_l02Is_ok a0 a1 a2 r1 hf1)) hc2) rfl ?_
      refine ROps.l (r := AV.b false) rfl rfl rfl (LOp.eqb (LOp.not rfl rfl) rfl) ?_
      refine ROps.l (r := AV.b false) rfl rfl rfl (LOp.move rfl rfl) ?_
      refine ROps.l (r := AV.f32 a3) rfl rfl rfl (LOp.move rfl rfl) ?_
      refine ROps.d (r := AV.b false) (fs := []) (Γ' := [⟨1, some [AV.i64 0, AV.i64 0, AV.nilsl]⟩, ⟨0, none⟩, ⟨0, none⟩, ⟨0, none⟩, ⟨0, none⟩, ⟨0, none⟩, ⟨0, none⟩, ⟨0, none⟩, ⟨0, none⟩, ⟨0, none⟩]) rfl rfl rfl (TOp.eqb (TOp.callB (CallAs.func ent38 rfl rfl) (Bors.cons (Bor.pure rfl) Bors.nil) rfl rfl (s_l02Least_ok a3 r2 hf3)) hc4) rfl ?_
      refine ROps.l (r := AV.b true) rfl rfl rfl (LOp.eqb (LOp.not rfl rfl) rfl) ?_
      refine ROps.l (r := AV.b true) rfl rfl rfl (LOp.pick_false rfl rfl rfl) ?_
      refine ROps.l (r := AV.b true) rfl rfl rfl (LOp.move rfl rfl) ?_
      refine ROps.s rfl rfl rfl ?_
      refine ROps.s rfl rfl rfl ?_
      refine ROps.s rfl rfl rfl ?_
      refine ROps.l (r := AV.b true) rfl rfl rfl (LOp.pick_true rfl rfl rfl) ?_
      refine ROps.nil ?_
      refine RunC.wl (τ' := [(1, AV.f32 a3), (2, AV.i64 a4), (3, AV.ptr [AV.i64 a0, AV.i64 a1, AV.sl a2.length (a2.map AV.f32)]), (6, AV.optr 0 1 0), (36, AV.b true)]) (Γ' := [⟨1, some [AV.i64 0, AV.i64 0, AV.nilsl]⟩, ⟨0, none⟩, ⟨0, none⟩, ⟨0, none⟩, ⟨0, none⟩, ⟨0, none⟩, ⟨0, none⟩, ⟨0, none⟩, ⟨0, none⟩, ⟨0, none⟩]) ⟨(ALe.refl _), (ALe.refl _), (ALe.refl _), (ALe.refl _), (ALe.refl _), trivial⟩ ⟨⟨rfl, .inr rfl⟩, ⟨rfl, .inr rfl⟩, ⟨rfl, .inr rfl⟩, ⟨rfl, .inr rfl⟩, ⟨rfl, .inr rfl⟩, ⟨rfl, .inr rfl⟩, ⟨rfl, .inr rfl⟩, ⟨rfl, .inr rfl⟩, ⟨rfl, .inr rfl⟩, ⟨rfl, .inr rfl⟩, trivial⟩ ?_
      refine RunC.cond_true rfl rfl ?_
      refine RunC.seq ?_
      refine RunC.regionW ?_
      refine ROps.l (r := AV.agg [AV.i64 0, AV.i64 0, AV.nilsl]) rfl rfl rfl (LOp.build (qs := []) zer27 zok27 und27 plc27 rfl trivial rfl) ?_
      refine ROps.store_le (r := AV.agg [AV.i64 0, AV.i64 0, AV.nilsl]) (l' := [AV.i64 0, AV.i64 0, AV.nilsl]) (Γ' := [⟨1, some [AV.i64 0, AV.i64 0, AV.nilsl]⟩, ⟨0, none⟩, ⟨0, none⟩, ⟨0, none⟩, ⟨0, none⟩, ⟨0, none⟩, ⟨0, none⟩, ⟨0, none⟩, ⟨0, none⟩, ⟨0, none⟩]) rfl siz27 rfl rfl rfl (ALe.refl _) rfl rfl rfl rfl (Nat.le_of_ble_eq_true rfl) rfl rfl ?_
      refine ROps.l (r := AV.nilsl) rfl rfl rfl (LOp.assign rfl rfl) ?_
      refine ROps.l (r := AV.nilsl) rfl rfl rfl (LOp.assign rfl rfl) ?_
      refine ROps.l (r := AV.b false) rfl rfl rfl (LOp.assign rfl rfl) ?_
      refine ROps.nil ?_
      refine RunC.nil_cell (l' := [AV.i64 0, AV.i64 0, AV.oref 1 1 0 0]) (Γ' := [⟨1, some [AV.i64 0, AV.i64 0, AV.oref 1 1 0 0]⟩, ⟨1, some (([] : List F).map AV.f32)⟩, ⟨0, none⟩, ⟨0, none⟩, ⟨0, none⟩, ⟨0, none⟩, ⟨0, none⟩, ⟨0, none⟩, ⟨0, none⟩, ⟨0, none⟩]) 0 2 1 rfl rfl rfl rfl rfl ?_
      refine RunC.nil_slot (Γ' := [⟨1, some [AV.i64 0, AV.i64 0, AV.oref 1 1 0 0]⟩, ⟨1, some (([] : List F).map AV.f32)⟩, ⟨1, some (([] : List Int).map AV.i64)⟩, ⟨0, none⟩, ⟨0, none⟩, ⟨0, none⟩, ⟨0, none⟩, ⟨0, none⟩, ⟨0, none⟩, ⟨0, none⟩]) 7 2 rfl rfl rfl ?_
      refine RunC.nil_slot (Γ' := [⟨1, some [AV.i64 0, AV.i64 0, AV.oref 1 1 0 0]⟩, ⟨1, some (([] : List F).map AV.f32)⟩, ⟨1, some (([] : List Int).map AV.i64)⟩, ⟨1, some (([] : List Int).map AV.i64)⟩, ⟨0, none⟩, ⟨0, none⟩, ⟨0, none⟩, ⟨0, none⟩, ⟨0, none⟩, ⟨0, none⟩]) 8 3 rfl rfl rfl ?_
      refine RunC.ret ?_
      have hq := Option.some.inj h
      obtain ⟨hq0, hq⟩ := Prod.mk.inj hq
      obtain ⟨hq1, hq⟩ := Prod.mk.inj hq
      obtain ⟨hq2, hq⟩ := Prod.mk.inj hq
      obtain ⟨hq3, hq⟩ := Prod.mk.inj hq
      obtain ⟨hq4, hq⟩ := Prod.mk.inj hq
      subst q0
      subst q1
      subst q2
      subst q3
      subst q4
      subst q5
      exact bodyQ.mk (r' := AV.tup [AV.agg [AV.i64 0, AV.i64 0, AV.oref 1 1 0 (([] : List F).length)], AV.oref 2 1 0 (([] : List Int).length), AV.oref 3 1 0 (([] : List Int).length), AV.b false]) [(1, 1), (2, 1), (3, 1)] (.inr rfl) rfl (show List.Nodup [1, 2, 3] from by decide) rfl rfl (Res.eq (Res.four rfl (RV.cell agg27 siz27 rfl rfl rfl rfl) (RV.tmp rfl) (RV.tmp rfl) (RV.tmp rfl)) (by rw [(show ([] : List F).length = 0 from rfl), (show ([] : List Int).length = 0 from rfl)] <;> rfl)) (SelL.arr0 (f := AV.f32) (fun _ => rfl) rfl (SelL.arr0 (f := AV.i64) (fun _ => rfl) rfl (SelL.arr0 (f := AV.i64) (fun _ => rfl) rfl trivial)))
  · refine RunC.regionW ?_
    refine ROps.d (r := AV.b false) (fs := []) (Γ' := [⟨1, some [AV.i64 0, AV.i64 0, AV.nilsl]⟩, ⟨0, none⟩, ⟨0, none⟩, ⟨0, none⟩, ⟨0, none⟩, ⟨0, none⟩, ⟨0, none⟩, ⟨0, none⟩, ⟨0, none⟩, ⟨0, none⟩]) rfl rfl rfl (TOp.eqb (TOp.callB (CallAs.func ent37 rfl rfl) (Bors.cons (Bor.ptr (Bors.cons (Bor.pure rfl) (Bors.cons (Bor.pure rfl) (Bors.cons (Bor.sl (fun _ => rfl)) Bors.nil)))) Bors.nil) rfl rfl (s_l02Is_ok a0 a1 a2 r1 hf1)) hc2) rfl ?_
    refine ROps.l (r := AV.b true) rfl rfl rfl (LOp.eqb (LOp.not rfl rfl) rfl) ?_
    refine ROps.l (r := AV.b true) rfl rfl rfl (LOp.move rfl rfl) ?_
    refine ROps.s rfl rfl rfl ?_
    refine ROps.s rfl rfl rfl ?_
    refine ROps.s rfl rfl rfl ?_
    refine ROps.l (r := AV.b true) rfl rfl rfl (LOp.pick_true rfl rfl rfl) ?_
    refine ROps.l (r := AV.b true) rfl rfl rfl (LOp.move rfl rfl) ?_
    refine ROps.s rfl rfl rfl ?_
    refine ROps.s rfl rfl rfl ?_
    refine ROps.s rfl rfl rfl ?_
    refine ROps.l (r := AV.b true) rfl rfl rfl (LOp.pick_true rfl rfl rfl) ?_
    refine ROps.nil ?_
    refine RunC.wl (τ' := [(1, AV.f32 a3), (2, AV.i64 a4), (3, AV.ptr [AV.i64 a0, AV.i64 a1, AV.sl a2.length (a2.map AV.f32)]), (6, AV.optr 0 1 0), (36, AV.b true)]) (Γ' := [⟨1, some [AV.i64 0, AV.i64 0, AV.nilsl]⟩, ⟨0, none⟩, ⟨0, none⟩, ⟨0, none⟩, ⟨0, none⟩, ⟨0, none⟩, ⟨0, none⟩, ⟨0, none⟩, ⟨0, none⟩, ⟨0, none⟩]) ⟨(ALe.refl _), (ALe.refl _), (ALe.refl _), (ALe.refl _), (ALe.refl _), trivial⟩ ⟨⟨rfl, .inr rfl⟩, ⟨rfl, .inr rfl⟩, ⟨rfl, .inr rfl⟩, ⟨rfl, .inr rfl⟩, ⟨rfl, .inr rfl⟩, ⟨rfl, .inr rfl⟩, ⟨rfl, .inr rfl⟩, ⟨rfl, .inr rfl⟩, ⟨rfl, .inr rfl⟩, ⟨rfl, .inr rfl⟩, trivial⟩ ?_
    refine RunC.cond_true rfl rfl ?_
    refine RunC.seq ?_
    refine RunC.regionW ?_
    refine ROps.l (r := AV.agg [AV.i64 0, AV.i64 0, AV.nilsl]) rfl rfl rfl (LOp.build (qs := []) zer27 zok27 und27 plc27 rfl trivial rfl) ?_
    refine ROps.store_le (r := AV.agg [AV.i64 0, AV.i64 0, AV.nilsl]) (l' := [AV.i64 0, AV.i64 0, AV.nilsl]) (Γ' := [⟨1, some [AV.i64 0, AV.i64 0, AV.nilsl]⟩, ⟨0, none⟩, ⟨0, none⟩, ⟨0, none⟩, ⟨0, none⟩, ⟨0, none⟩, ⟨0, none⟩, ⟨0, none⟩, ⟨0, none⟩, ⟨0, none⟩]) rfl siz27 rfl rfl rfl (ALe.refl _) rfl rfl rfl rfl (Nat.le_of_ble_eq_true rfl) rfl rfl ?_
    refine ROps.l (r := AV.nilsl) rfl rfl rfl (LOp.assign rfl rfl) ?_
    refine ROps.l (r := AV.nilsl) rfl rfl rfl (LOp.assign rfl rfl) ?_
    refine ROps.l (r := AV.b false) rfl rfl rfl (LOp.assign rfl rfl) ?_
    refine ROps.nil ?_
    refine RunC.nil_cell (l' := [AV.i64 0, AV.i64 0, AV.oref 1 1 0 0]) (Γ' := [⟨1, some [AV.i64 0, AV.i64 0, AV.oref 1 1 0 0]⟩, ⟨1, some (([] : List F).map AV.f32)⟩, ⟨0, none⟩, ⟨0, none⟩, ⟨0, none⟩, ⟨0, none⟩, ⟨0, none⟩, ⟨0, none⟩, ⟨0, none⟩, ⟨0, none⟩]) 0 2 1 rfl rfl rfl rfl rfl ?_
    refine RunC.nil_slot (Γ' := [⟨1, some [AV.i64 0, AV.i64 0, AV.oref 1 1 0 0]⟩, ⟨1, some (([] : List F).map AV.f32)⟩, ⟨1, some (([] : List Int).map AV.i64)⟩, ⟨0, none⟩, ⟨0, none⟩, ⟨0, none⟩, ⟨0, none⟩, ⟨0, none⟩, ⟨0, none⟩, ⟨0, none⟩]) 7 2 rfl rfl rfl ?_
    refine RunC.nil_slot (Γ' := [⟨1, some [AV.i64 0, AV.i64 0, AV.oref 1 1 0 0]⟩, ⟨1, some (([] : List F).map AV.f32)⟩, ⟨1, some (([] : List Int).map AV.i64)⟩, ⟨1, some (([] : List Int).map AV.i64)⟩, ⟨0, none⟩, ⟨0, none⟩, ⟨0, none⟩, ⟨0, none⟩, ⟨0, none⟩, ⟨0, none⟩]) 8 3 rfl rfl rfl ?_
    refine RunC.ret ?_
    have hq := Option.some.inj h
    obtain ⟨hq0, hq⟩ := Prod.mk.inj hq
    obtain ⟨hq1, hq⟩ := Prod.mk.inj hq
    obtain ⟨hq2, hq⟩ := Prod.mk.inj hq
    obtain ⟨hq3, hq⟩ := Prod.mk.inj hq
    obtain ⟨hq4, hq⟩ := Prod.mk.inj hq
    subst q0
    subst q1
    subst q2
    subst q3
    subst q4
    subst q5
    exact bodyQ.mk (r' := AV.tup [AV.agg [AV.i64 0, AV.i64 0, AV.oref 1 1 0 (([] : List F).length)], AV.oref 2 1 0 (([] : List Int).length), AV.oref 3 1 0 (([] : List Int).length), AV.b false]) [(1, 1), (2, 1), (3, 1)] (.inr rfl) rfl (show List.Nodup [1, 2, 3] from by decide) rfl rfl (Res.eq (Res.four rfl (RV.cell agg27 siz27 rfl rfl rfl rfl) (RV.tmp rfl) (RV.tmp rfl) (RV.tmp rfl)) (by rw [(show ([] : List F).length = 0 from rfl), (show ([] : List Int).length = 0 from rfl)] <;> rfl)) (SelL.arr0 (f := AV.f32) (fun _ => rfl) rfl (SelL.arr0 (f := AV.i64) (fun _ => rfl) rfl (SelL.arr0 (f := AV.i64) (fun _ => rfl) rfl trivial)))
noncomputable def i_inRange (a0 : Int) (a1 : Int) (a2 : Int) : Option (Bool) :=
  bsel (decide (a1 ≤ a0)) (
    some (decide (a0 ≤ a2))) (
    some false)
theorem i_inRange_ok (a0 : Int) (a1 : Int) (a2 : Int) (q0 : Bool) (h : i_inRange a0 a1 a2 = some q0) : Ev Try.prog 91 [AV.i64 a0, AV.i64 a1, AV.i64 a2] [] (AV.b q0) [] := by
  refine Ev.start Try.func91 rfl rfl 0 (τ := [(0, AV.i64 a0), (1, AV.i64 a1), (2, AV.i64 a2)]) rfl (Γ' := []) rfl (n := 15) rfl (g := 0) rfl ?_
  unfold i_inRange at h
  refine RunC.seq ?_
  refine RunC.regionW ?_
  refine ROps.l (r := AV.b false) rfl rfl rfl (LOp.assign rfl rfl) ?_
  refine ROps.nil ?_
  refine RunC.seq ?_
  rcases bsel_some h with ⟨hc1, h⟩ | ⟨hc1, h⟩
  · refine RunC.regionW ?_
    refine ROps.l (r := AV.i64 a1) rfl rfl rfl (LOp.move rfl rfl) ?_
    refine ROps.l (r := AV.i64 a0) rfl rfl rfl (LOp.move rfl rfl) ?_
    refine ROps.l (r := AV.b true) rfl rfl rfl (LOp.eqb (LOp.leq rfl rfl rfl) hc1) ?_
    refine ROps.l (r := AV.b true) rfl rfl rfl (LOp.move rfl rfl) ?_
    refine ROps.l (r := AV.i64 a0) rfl rfl rfl (LOp.move rfl rfl) ?_
    refine ROps.l (r := AV.i64 a2) rfl rfl rfl (LOp.move rfl rfl) ?_
    refine ROps.l (r := AV.b (decide (a0 ≤ a2))) rfl rfl rfl (LOp.leq rfl rfl rfl) ?_
    refine ROps.l (r := AV.b (decide (a0 ≤ a2))) rfl rfl rfl (LOp.pick_true rfl rfl rfl) ?_
    refine ROps.l (r := AV.b (decide (a0 ≤ a2))) rfl rfl rfl (LOp.assign rfl rfl) ?_
    refine ROps.nil ?_
    refine RunC.ret ?_
    have hq := Option.some.inj h
    subst q0
    exact bodyQ.pure (.inr rfl) rfl (Res.one rfl (RV.tmp rfl))
  · refine RunC.regionW ?_
    refine ROps.l (r := AV.i64 a1) rfl rfl rfl (LOp.move rfl rfl) ?_
    refine ROps.l (r := AV.i64 a0) rfl rfl rfl (LOp.move rfl rfl) ?_
    refine ROps.l (r := AV.b false) rfl rfl rfl (LOp.eqb (LOp.leq rfl rfl rfl) hc1) ?_
    refine ROps.l (r := AV.b false) rfl rfl rfl (LOp.move rfl rfl) ?_
    refine ROps.s rfl rfl rfl ?_
    refine ROps.s rfl rfl rfl ?_
    refine ROps.s rfl rfl rfl ?_
    refine ROps.l (r := AV.b false) rfl rfl rfl (LOp.pick_false rfl rfl rfl) ?_
    refine ROps.l (r := AV.b false) rfl rfl rfl (LOp.assign rfl rfl) ?_
    refine ROps.nil ?_
    refine RunC.ret ?_
    have hq := Option.some.inj h
    subst q0
    exact bodyQ.pure (.inr rfl) rfl (Res.one rfl (RV.tmp rfl))
noncomputable def i_isSide (a0 : Int) : Option (Bool) :=
  obind (i_inRange a0 1 12) fun (r1 : Bool) =>
  some r1
theorem i_isSide_ok (a0 : Int) (q0 : Bool) (h : i_isSide a0 = some q0) : Ev Try.prog 47 [AV.i64 a0] [] (AV.b q0) [] := by
  refine Ev.start Try.func47 rfl rfl 0 (τ := [(0, AV.i64 a0)]) rfl (Γ' := []) rfl (n := 5) rfl (g := 0) rfl ?_
  unfold i_isSide at h
  refine RunC.seq ?_
  refine RunC.regionW ?_
  refine ROps.l (r := AV.b false) rfl rfl rfl (LOp.assign rfl rfl) ?_
  refine ROps.nil ?_
  refine RunC.seq ?_
  obtain ⟨r1, hf1, h⟩ := obind_some h
  refine RunC.regionW ?_
  refine ROps.l (r := AV.i64 a0) rfl rfl rfl (LOp.move rfl rfl) ?_
  refine ROps.d (r := AV.b r1) (fs := []) (Γ' := []) rfl rfl rfl (TOp.callB (CallAs.func ent91 rfl rfl) (Bors.cons (Bor.pure rfl) (Bors.cons (Bor.pure rfl) (Bors.cons (Bor.pure rfl) Bors.nil))) rfl rfl (i_inRange_ok a0 1 12 r1 hf1)) rfl ?_
  refine ROps.l (r := AV.b r1) rfl rfl rfl (LOp.assign rfl rfl) ?_
  refine ROps.nil ?_
  refine RunC.ret ?_
  have hq := Option.some.inj h
  subst q0
  exact bodyQ.pure (.inr rfl) rfl (Res.one rfl (RV.tmp rfl))
noncomputable def i_length_float32 (a0 : List F) : Option (Int) :=
  some (a0.length : Int)
theorem i_length_float32_ok (a0 : List F) (q0 : Int) (h : i_length_float32 a0 = some q0) : Ev Try.prog 89 [AV.sl a0.length (a0.map AV.f32)] [] (AV.i64 q0) [] := by
  refine Ev.start Try.func89 rfl rfl 0 (τ := [(0, AV.sl a0.length (a0.map AV.f32))]) rfl (Γ' := []) rfl (n := 5) rfl (g := 0) rfl ?_
  unfold i_length_float32 at h
  refine RunC.seq ?_
  refine RunC.regionW ?_
  refine ROps.l (r := AV.i64 0) rfl rfl rfl (LOp.assign rfl rfl) ?_
  refine ROps.nil ?_
  refine RunC.seq ?_
  refine RunC.regionW ?_
  refine ROps.l (r := AV.sl a0.length (a0.map AV.f32)) rfl rfl rfl (LOp.move rfl rfl) ?_
  refine ROps.l (r := AV.i64 (a0.length : Int)) rfl rfl rfl (LOp.len_sl und22 rfl rfl) ?_
  refine ROps.l (r := AV.i64 (a0.length : Int)) rfl rfl rfl (LOp.assign rfl rfl) ?_
  refine ROps.nil ?_
  refine RunC.ret ?_
  have hq := Option.some.inj h
  subst q0
  exact bodyQ.pure (.inr rfl) rfl (Res.one rfl (RV.tmp rfl))
noncomputable def x_math_IsNaN (a0 : F) : Option (Bool) :=
  some (!feq .f64 a0 a0)
theorem x_math_IsNaN_ok (a0 : F) (q0 : Bool) (h : x_math_IsNaN a0 = some q0) : Ev Try.prog 114 [AV.f64 a0] [] (AV.b q0) [] := by
  refine Ev.start Try.func114 rfl rfl 0 (τ := [(0, AV.f64 a0)]) rfl (Γ' := []) rfl (n := 6) rfl (g := 0) rfl ?_
  unfold x_math_IsNaN at h
  refine RunC.seq ?_
  refine RunC.regionW ?_
  refine ROps.l (r := AV.b false) rfl rfl rfl (LOp.assign rfl rfl) ?_
  refine ROps.nil ?_
  refine RunC.seq ?_
  refine RunC.regionW ?_
  refine ROps.l (r := AV.f64 a0) rfl rfl rfl (LOp.move rfl rfl) ?_
  refine ROps.l (r := AV.f64 a0) rfl rfl rfl (LOp.move rfl rfl) ?_
  refine ROps.l (r := AV.b (!feq .f64 a0 a0)) rfl rfl rfl (LOp.fne rfl (OpF.tmp rfl) (OpF.tmp rfl)) ?_
  refine ROps.l (r := AV.b (!feq .f64 a0 a0)) rfl rfl rfl (LOp.assign rfl rfl) ?_
  refine ROps.nil ?_
  refine RunC.ret ?_
  have hq := Option.some.inj h
  subst q0
  exact bodyQ.pure (.inr rfl) rfl (Res.one rfl (RV.tmp rfl))
noncomputable def x_math_Abs (a0 : F) : Option (F) :=
  olet (fabs a0) fun (x1 : F) =>
  some x1
theorem x_math_Abs_ok (a0 : F) (q0 : F) (h : x_math_Abs a0 = some q0) : Ev Try.prog 93 [AV.f64 a0] [] (AV.f64 q0) [] := by
  refine Ev.start Try.func93 rfl rfl 0 (τ := [(0, AV.f64 a0)]) rfl (Γ' := []) rfl (n := 7) rfl (g := 0) rfl ?_
  unfold x_math_Abs at h
  refine RunC.seq ?_
  refine RunC.regionW ?_
  refine ROps.l (r := AV.f64 (some 0)) rfl rfl rfl (LOp.le (LOp.assign rfl rfl) (ALe.fl (by kernel_rfl) (by kernel_rfl))) ?_
  refine ROps.nil ?_
  refine RunC.seq ?_
  obtain ⟨x1, hx1, h⟩ := olet_some h
  refine RunC.regionW ?_
  refine ROps.l (r := AV.f64 a0) rfl rfl rfl (LOp.move rfl rfl) ?_
  refine ROps.l (r := AV.bt .f64 .u64 a0) rfl rfl rfl (LOp.fbits ext117 rfl (OpF.tmp rfl)) ?_
  refine ROps.l (r := AV.bt .f64 .u64 x1) rfl rfl rfl (LOp.eqr (LOp.andNot_bt rfl rfl rfl) (congrArg (AV.bt .f64 .u64) hx1)) ?_
  refine ROps.l (r := AV.f64 x1) rfl rfl rfl (LOp.ffrom ext116 rfl rfl) ?_
  refine ROps.l (r := AV.f64 x1) rfl rfl rfl (LOp.assign rfl rfl) ?_
  refine ROps.nil ?_
  refine RunC.ret ?_
  have hq := Option.some.inj h
  subst q0
  exact bodyQ.pure (.inr rfl) rfl (Res.one rfl (RV.tmp rfl))
noncomputable def x_math_IsInf_k1 (y3 : F) : Option (Bool) :=
  some (flt .f64 (some 9218868437227405311) y3)
noncomputable def x_math_IsInf (a0 : F) (a1 : Int) : Option (Bool) :=
  bsel (decide (a1 = 0)) (
    obind (x_math_Abs a0) fun (r1 : F) =>
    x_math_IsInf_k1 r1) (
    bsel (decide (a1 < 0)) (
      olet (fneg .f64 a0) fun (x2 : F) =>
      x_math_IsInf_k1 x2) (
      x_math_IsInf_k1 a0))
theorem x_math_IsInf_ok (a0 : F) (a1 : Int) (q0 : Bool) (h : x_math_IsInf a0 a1 = some q0) : Ev Try.prog 115 [AV.f64 a0, AV.i64 a1] [] (AV.b q0) [] := by
  refine Ev.start Try.func115 rfl rfl 0 (τ := [(0, AV.f64 a0), (1, AV.i64 a1)]) rfl (Γ' := []) rfl (n := 15) rfl (g := 0) rfl ?_
  unfold x_math_IsInf at h
  refine RunC.seq ?_
  refine RunC.regionW ?_
  refine ROps.l (r := AV.b false) rfl rfl rfl (LOp.assign rfl rfl) ?_
  refine ROps.nil ?_
  refine RunC.seq ?_
  refine RunC.cutN (fun τ Γ => ∃ (y3 : F), WeakLe τ [(0, AV.f64 y3)] ∧ DeadLe Γ [] ∧ x_math_IsInf_k1 y3 = some q0) ?_ ?_
  · refine RunC.seq ?_
    rcases bsel_some h with ⟨hc1, h⟩ | ⟨hc1, h⟩
    · refine RunC.regionW ?_
      refine ROps.l (r := AV.i64 a1) rfl rfl rfl (LOp.move rfl rfl) ?_
      refine ROps.l (r := AV.b true) rfl rfl rfl (LOp.eqb (LOp.eql rfl rfl rfl) hc1) ?_
      refine ROps.nil ?_
      refine RunC.cond_true rfl rfl ?_
      obtain ⟨r1, hf2, h⟩ := obind_some h
      refine RunC.regionW ?_
      refine ROps.l (r := AV.f64 a0) rfl rfl rfl (LOp.move rfl rfl) ?_
      refine ROps.d (r := AV.f64 r1) (fs := []) (Γ' := []) rfl rfl rfl (TOp.callB (CallAs.func ent93 rfl rfl) (Bors.cons (Bor.pure rfl) Bors.nil) rfl rfl (x_math_Abs_ok a0 r1 hf2)) rfl ?_
      refine ROps.l (r := AV.f64 r1) rfl rfl rfl (LOp.assign rfl rfl) ?_
      refine ROps.nil ?_
      exact ⟨r1, ⟨(ALe.refl _), trivial⟩, trivial, h⟩
    · refine RunC.regionW ?_
      refine ROps.l (r := AV.i64 a1) rfl rfl rfl (LOp.move rfl rfl) ?_
      refine ROps.l (r := AV.b false) rfl rfl rfl (LOp.eqb (LOp.eql rfl rfl rfl) hc1) ?_
      refine ROps.nil ?_
      refine RunC.cond_false rfl rfl ?_
      refine RunC.seq ?_
      rcases bsel_some h with ⟨hc3, h⟩ | ⟨hc3, h⟩
      · refine RunC.regionW ?_
        refine ROps.l (r := AV.i64 a1) rfl rfl rfl (LOp.move rfl rfl) ?_
        refine ROps.l (r := AV.b true) rfl rfl rfl (LOp.eqb (LOp.lss rfl rfl rfl) hc3) ?_
        refine ROps.nil ?_
        refine RunC.cond_true rfl rfl ?_
        obtain ⟨x2, hx4, h⟩ := olet_some h
        refine RunC.regionW ?_
        refine ROps.l (r := AV.f64 a0) rfl rfl rfl (LOp.move rfl rfl) ?_
        refine ROps.l (r := AV.f64 x2) rfl rfl rfl (LOp.eqr (LOp.fneg rfl (OpF.tmp rfl)) (congrArg (AV.f .f64) hx4)) ?_
        refine ROps.l (r := AV.f64 x2) rfl rfl rfl (LOp.assign rfl rfl) ?_
        refine ROps.nil ?_
        exact ⟨x2, ⟨(ALe.refl _), trivial⟩, trivial, h⟩
      · refine RunC.regionW ?_
        refine ROps.l (r := AV.i64 a1) rfl rfl rfl (LOp.move rfl rfl) ?_
        refine ROps.l (r := AV.b false) rfl rfl rfl (LOp.eqb (LOp.lss rfl rfl rfl) hc3) ?_
        refine ROps.nil ?_
        refine RunC.cond_false rfl rfl ?_
        refine RunC.skip ?_
        exact ⟨a0, ⟨(ALe.refl _), trivial⟩, trivial, h⟩
  · rintro τ2 Γ2 ⟨y3, hw2, hd2, h⟩
    refine RunC.wl (τ' := [(0, AV.f64 y3)]) (Γ' := []) hw2 hd2 ?_
    unfold x_math_IsInf_k1 at h
    refine RunC.seq ?_
    refine RunC.regionW ?_
    refine ROps.l (r := AV.f64 y3) rfl rfl rfl (LOp.move rfl rfl) ?_
    refine ROps.l (r := AV.b (flt .f64 (some 9218868437227405311) y3)) rfl rfl rfl (LOp.fgt rfl (OpF.tmp rfl) (OpF.const rfl (by kernel_rfl) (by kernel_rfl))) ?_
    refine ROps.l (r := AV.b (flt .f64 (some 9218868437227405311) y3)) rfl rfl rfl (LOp.assign rfl rfl) ?_
    refine ROps.nil ?_
    refine RunC.ret ?_
    have hq := Option.some.inj h
    subst q0
    exact bodyQ.pure (.inr rfl) rfl (Res.one rfl (RV.tmp rfl))
noncomputable def i_isFinite64 (a0 : F) : Option (Bool) :=
  obind (x_math_IsNaN a0) fun (r1 : Bool) =>
  bsel r1 (
    some false) (
    obind (x_math_IsInf a0 0) fun (r2 : Bool) =>
    some (!r2))
theorem i_isFinite64_ok (a0 : F) (q0 : Bool) (h : i_isFinite64 a0 = some q0) : Ev Try.prog 90 [AV.f64 a0] [] (AV.b q0) [] := by
  refine Ev.start Try.func90 rfl rfl 0 (τ := [(0, AV.f64 a0)]) rfl (Γ' := []) rfl (n := 11) rfl (g := 0) rfl ?_
  unfold i_isFinite64 at h
  refine RunC.seq ?_
  refine RunC.regionW ?_
  refine ROps.l (r := AV.b false) rfl rfl rfl (LOp.assign rfl rfl) ?_
  refine ROps.nil ?_
  refine RunC.seq ?_
  obtain ⟨r1, hf1, h⟩ := obind_some h
  rcases bsel_some h with ⟨hc2, h⟩ | ⟨hc2, h⟩
  · refine RunC.regionW ?_
    refine ROps.l (r := AV.f64 a0) rfl rfl rfl (LOp.move rfl rfl) ?_
    refine ROps.d (r := AV.b true) (fs := []) (Γ' := []) rfl rfl rfl (TOp.eqb (TOp.callB (CallAs.func ent114 rfl rfl) (Bors.cons (Bor.pure rfl) Bors.nil) rfl rfl (x_math_IsNaN_ok a0 r1 hf1)) hc2) rfl ?_
    refine ROps.l (r := AV.b false) rfl rfl rfl (LOp.eqb (LOp.not rfl rfl) rfl) ?_
    refine ROps.l (r := AV.b false) rfl rfl rfl (LOp.move rfl rfl) ?_
    refine ROps.s rfl rfl rfl ?_
    refine ROps.s rfl rfl rfl ?_
    refine ROps.s rfl rfl rfl ?_
    refine ROps.l (r := AV.b false) rfl rfl rfl (LOp.pick_false rfl rfl rfl) ?_
    refine ROps.l (r := AV.b false) rfl rfl rfl (LOp.assign rfl rfl) ?_
    refine ROps.nil ?_
    refine RunC.ret ?_
    have hq := Option.some.inj h
    subst q0
    exact bodyQ.pure (.inr rfl) rfl (Res.one rfl (RV.tmp rfl))
  · obtain ⟨r2, hf3, h⟩ := obind_some h
    refine RunC.regionW ?_
    refine ROps.l (r := AV.f64 a0) rfl rfl rfl (LOp.move rfl rfl) ?_
    refine ROps.d (r := AV.b false) (fs := []) (Γ' := []) rfl rfl rfl (TOp.eqb (TOp.callB (CallAs.func ent114 rfl rfl) (Bors.cons (Bor.pure rfl) Bors.nil) rfl rfl (x_math_IsNaN_ok a0 r1 hf1)) hc2) rfl ?_
    refine ROps.l (r := AV.b true) rfl rfl rfl (LOp.eqb (LOp.not rfl rfl) rfl) ?_
    refine ROps.l (r := AV.b true) rfl rfl rfl (LOp.move rfl rfl) ?_
    refine ROps.l (r := AV.f64 a0) rfl rfl rfl (LOp.move rfl rfl) ?_
    refine ROps.d (r := AV.b r2) (fs := []) (Γ' := []) rfl rfl rfl (TOp.callB (CallAs.func ent115 rfl rfl) (Bors.cons (Bor.pure rfl) (Bors.cons (Bor.pure rfl) Bors.nil)) rfl rfl (x_math_IsInf_ok a0 0 r2 hf3)) rfl ?_
    refine ROps.l (r := AV.b (!r2)) rfl rfl rfl (LOp.not rfl rfl) ?_
    refine ROps.l (r := AV.b (!r2)) rfl rfl rfl (LOp.pick_true rfl rfl rfl) ?_
    refine ROps.l (r := AV.b (!r2)) rfl rfl rfl (LOp.assign rfl rfl) ?_
    refine ROps.nil ?_
    refine RunC.ret ?_
    have hq := Option.some.inj h
    subst q0
    exact bodyQ.pure (.inr rfl) rfl (Res.one rfl (RV.tmp rfl))
noncomputable def i_IsFinite (a0 : F) : Option (Bool) :=
  olet (fwiden a0) fun (x1 : F) =>
  obind (i_isFinite64 x1) fun (r2 : Bool) =>
  some r2
theorem i_IsFinite_ok (a0 : F) (q0 : Bool) (h : i_IsFinite a0 = some q0) : Ev Try.prog 46 [AV.f32 a0] [] (AV.b q0) [] := by
  refine Ev.start Try.func46 rfl rfl 0 (τ := [(0, AV.f32 a0)]) rfl (Γ' := []) rfl (n := 6) rfl (g := 0) rfl ?_
  unfold i_IsFinite at h
  refine RunC.seq ?_
  refine RunC.regionW ?_
  refine ROps.l (r := AV.b false) rfl rfl rfl (LOp.assign rfl rfl) ?_
  refine ROps.nil ?_
  refine RunC.seq ?_
  obtain ⟨x1, hx1, h⟩ := olet_some h
  obtain ⟨r2, hf2, h⟩ := obind_some h
  refine RunC.regionW ?_
  refine ROps.l (r := AV.f32 a0) rfl rfl rfl (LOp.move rfl rfl) ?_
  refine ROps.d (r := AV.f64 x1) (fs := []) (Γ' := []) rfl rfl rfl (TOp.eqr (TOp.widen (src := 25) (dst := 40) ⟨_, pun25⟩ pun40 rfl (OpF.tmp rfl)) (congrArg (AV.f .f64) hx1)) rfl ?_
  refine ROps.d (r := AV.b r2) (fs := []) (Γ' := []) rfl rfl rfl (TOp.callB (CallAs.func ent90 rfl rfl) (Bors.cons (Bor.pure rfl) Bors.nil) rfl rfl (i_isFinite64_ok x1 r2 hf2)) rfl ?_
  refine ROps.l (r := AV.b r2) rfl rfl rfl (LOp.assign rfl rfl) ?_
  refine ROps.nil ?_
  refine RunC.ret ?_
  have hq := Option.some.inj h
  subst q0
  exact bodyQ.pure (.inr rfl) rfl (Res.one rfl (RV.tmp rfl))
noncomputable def i_areFinite_1 (a0 : F) : Option (Bool) :=
  obind (i_IsFinite a0) fun (r1 : Bool) =>
  some (!r1)
theorem i_areFinite_1_ok (a0 : F) (q0 : Bool) (h : i_areFinite_1 a0 = some q0) : Ev Try.prog 113 [AV.f32 a0] [] (AV.b q0) [] := by
  refine Ev.start Try.func113 rfl rfl 0 (τ := [(0, AV.f32 a0)]) rfl (Γ' := []) rfl (n := 6) rfl (g := 0) rfl ?_
  unfold i_areFinite_1 at h
  refine RunC.seq ?_
  refine RunC.regionW ?_
  refine ROps.l (r := AV.b false) rfl rfl rfl (LOp.assign rfl rfl) ?_
  refine ROps.nil ?_
  refine RunC.seq ?_
  obtain ⟨r1, hf1, h⟩ := obind_some h
  refine RunC.regionW ?_
  refine ROps.l (r := AV.f32 a0) rfl rfl rfl (LOp.move rfl rfl) ?_
  refine ROps.d (r := AV.b r1) (fs := []) (Γ' := []) rfl rfl rfl (TOp.callB (CallAs.func ent46 rfl rfl) (Bors.cons (Bor.pure rfl) Bors.nil) rfl rfl (i_IsFinite_ok a0 r1 hf1)) rfl ?_
  refine ROps.l (r := AV.b (!r1)) rfl rfl rfl (LOp.not rfl rfl) ?_
  refine ROps.l (r := AV.b (!r1)) rfl rfl rfl (LOp.assign rfl rfl) ?_
  refine ROps.nil ?_
  refine RunC.ret ?_
  have hq := Option.some.inj h
  subst q0
  exact bodyQ.pure (.inr rfl) rfl (Res.one rfl (RV.tmp rfl))
noncomputable def x_slices_IndexFunc_float32_float32_1Fi_areFinite_1_b1 (a0 : List F) (v1 : Int) : Option (LR (Int) (Unit) (Int)) :=
  bsel (decide (v1 < (a0.length : Int))) (
    obind (at? a0 v1) fun (e2 : F) =>
    obind (i_areFinite_1 e2) fun (r3 : Bool) =>
    bsel r3 (
      some (LR.ret v1)) (
      olet (IntKind.i64.wrap (v1 + 1)) fun (x4 : Int) =>
      some (LR.next x4))) (
    some (LR.out ()))
noncomputable def x_slices_IndexFunc_float32_float32_1Fi_areFinite_1_s1 (a0 : List F) : (Int) → Option (LR (Int) (Unit) (Int)) := fun s => x_slices_IndexFunc_float32_float32_1Fi_areFinite_1_b1 a0 s
noncomputable def x_slices_IndexFunc_float32_float32_1Fi_areFinite_1_k1  : Option (Int) :=
  some (-1)
noncomputable def x_slices_IndexFunc_float32_float32_1Fi_areFinite_1 (a0 : List F) : Option (Int) :=
  obind (loopM (x_slices_IndexFunc_float32_float32_1Fi_areFinite_1_s1 a0) 0) fun z => osum z (fun _ => x_slices_IndexFunc_float32_float32_1Fi_areFinite_1_k1) (fun r => some r)
theorem x_slices_IndexFunc_float32_float32_1Fi_areFinite_1_ok (a0 : List F) (q0 : Int) (h : x_slices_IndexFunc_float32_float32_1Fi_areFinite_1 a0 = some q0) : Ev Try.prog 122 [AV.sl a0.length (a0.map AV.f32), AV.fn (.func 113) [] []] [] (AV.i64 q0) [] := by
  refine Ev.start Try.func122 rfl rfl 0 (τ := [(0, AV.sl a0.length (a0.map AV.f32)), (1, AV.fn (.func 113) [] [])]) rfl (Γ' := []) rfl (n := 19) rfl (g := 0) rfl ?_
  unfold x_slices_IndexFunc_float32_float32_1Fi_areFinite_1 at h
  refine RunC.seq ?_
  refine RunC.regionW ?_
  refine ROps.l (r := AV.i64 0) rfl rfl rfl (LOp.assign rfl rfl) ?_
  refine ROps.nil ?_
  refine RunC.seq ?_
  refine RunC.seq ?_
  refine RunC.regionW ?_
  refine ROps.l (r := AV.sl a0.length (a0.map AV.f32)) rfl rfl rfl (LOp.move rfl rfl) ?_
  refine ROps.l (r := AV.i64 (a0.length : Int)) rfl rfl rfl (LOp.len_sl und22 rfl rfl) ?_
  refine ROps.l (r := AV.i64 0) rfl rfl rfl (LOp.move rfl rfl) ?_
  refine ROps.nil ?_
  obtain ⟨z2, hz_2, h⟩ := obind_some h
  refine RunC.cutN (fun τ Γ => WeakLe τ [] ∧ DeadLe Γ [] ∧ z2 = .inl ()) ?_ ?_
  · refine RunC.block (RunC.loop (RunL.loopM (x := z2) (x_slices_IndexFunc_float32_float32_1Fi_areFinite_1_s1 a0) (fun (s : Int) τ Γ => WeakLe τ [(0, AV.sl a0.length (a0.map AV.f32)), (1, AV.fn (.func 113) [] []), (7, AV.i64 (a0.length : Int)), (8, AV.i64 s)] ∧ DeadLe Γ []) ?_ _ _ _ hz_2 ⟨⟨(ALe.refl _), (ALe.refl _), (ALe.refl _), (ALe.refl _), trivial⟩, trivial⟩))
    rintro v1 τ2 Γ2 y2_ ⟨hw2, hd2⟩ h2_ ho2 hr2
    refine RunC.wl (τ' := [(0, AV.sl a0.length (a0.map AV.f32)), (1, AV.fn (.func 113) [] []), (7, AV.i64 (a0.length : Int)), (8, AV.i64 v1)]) (Γ' := []) hw2 hd2 ?_
    replace h2_ : x_slices_IndexFunc_float32_float32_1Fi_areFinite_1_b1 a0 v1 = some y2_ := h2_
    unfold x_slices_IndexFunc_float32_float32_1Fi_areFinite_1_b1 at h2_
    refine RunC.seq ?_
    rcases bsel_some h2_ with ⟨hc1, h2_⟩ | ⟨hc1, h2_⟩
    · refine RunC.regionW ?_
      refine ROps.l (r := AV.b true) rfl rfl rfl (LOp.eqb (LOp.lss rfl rfl rfl) hc1) ?_
      refine ROps.nil ?_
      refine RunC.seq ?_
      refine RunC.cond_true rfl rfl ?_
      refine RunC.skip ?_
      refine RunC.seq ?_
      refine RunC.block ?_
      refine RunC.seq ?_
      refine RunC.regionW ?_
      refine ROps.l (r := AV.i64 v1) rfl rfl rfl (LOp.move rfl rfl) ?_
      refine ROps.l (r := AV.i64 v1) rfl rfl rfl (LOp.assign rfl rfl) ?_
      refine ROps.nil ?_
      refine RunC.seq ?_
      obtain ⟨e2, he2, h2_⟩ := obind_some h2_
      obtain ⟨r3, hf3, h2_⟩ := obind_some h2_
      rcases bsel_some h2_ with ⟨hc4, h2_⟩ | ⟨hc4, h2_⟩
      · refine RunC.regionW ?_
        refine ROps.l (r := AV.fn (.func 113) [] []) rfl rfl rfl (LOp.move rfl rfl) ?_
        refine ROps.l (r := AV.sl a0.length (a0.map AV.f32)) rfl rfl rfl (LOp.move rfl rfl) ?_
        refine ROps.l (r := AV.i64 v1) rfl rfl rfl (LOp.move rfl rfl) ?_
        refine ROps.l (r := AV.ptr [AV.f32 e2]) rfl rfl rfl (LOp.le (LOp.ix (f := AV.f32) und22 siz25 rfl rfl rfl rfl he2) ALe.ptr) ?_
        refine ROps.l (r := AV.f32 e2) rfl rfl rfl (LOp.load1 agg25 rfl rfl) ?_
        refine ROps.d (r := AV.b true) (fs := []) (Γ' := []) rfl rfl rfl (TOp.eqb (TOp.callB (CallAs.fn ent113 rfl rfl rfl rfl) (Bors.cons (Bor.pure rfl) Bors.nil) rfl rfl (i_areFinite_1_ok e2 r3 hf3)) hc4) rfl ?_
        refine ROps.nil ?_
        refine RunC.cond_true rfl rfl ?_
        refine RunC.seq ?_
        refine RunC.regionW ?_
        refine ROps.l (r := AV.i64 v1) rfl rfl rfl (LOp.move rfl rfl) ?_
        refine ROps.l (r := AV.i64 v1) rfl rfl rfl (LOp.assign rfl rfl) ?_
        refine ROps.nil ?_
        refine RunC.ret ?_
        cases Option.some.inj h2_
        have hx3_ := hr2 _ rfl
        subst hx3_
        have hq := Option.some.inj h
        subst q0
        exact bodyQ.pure (.inr rfl) rfl (Res.one rfl (RV.tmp rfl))
      · refine RunC.regionW ?_
        refine ROps.l (r := AV.fn (.func 113) [] []) rfl rfl rfl (LOp.move rfl rfl) ?_
        refine ROps.l (r := AV.sl a0.length (a0.map AV.f32)) rfl rfl rfl (LOp.move rfl rfl) ?_
        refine ROps.l (r := AV.i64 v1) rfl rfl rfl (LOp.move rfl rfl) ?_
        refine ROps.l (r := AV.ptr [AV.f32 e2]) rfl rfl rfl (LOp.le (LOp.ix (f := AV.f32) und22 siz25 rfl rfl rfl rfl he2) ALe.ptr) ?_
        refine ROps.l (r := AV.f32 e2) rfl rfl rfl (LOp.load1 agg25 rfl rfl) ?_
        refine ROps.d (r := AV.b false) (fs := []) (Γ' := []) rfl rfl rfl (TOp.eqb (TOp.callB (CallAs.fn ent113 rfl rfl rfl rfl) (Bors.cons (Bor.pure rfl) Bors.nil) rfl rfl (i_areFinite_1_ok e2 r3 hf3)) hc4) rfl ?_
        refine ROps.nil ?_
        refine RunC.cond_false rfl rfl ?_
        refine RunC.skip ?_
        obtain ⟨x4, hx5, h2_⟩ := olet_some h2_
        refine RunC.regionW ?_
        refine ROps.l (r := AV.i64 x4) rfl rfl rfl (LOp.eqr (LOp.add rfl rfl rfl) (congrArg (AV.ik .i64) hx5)) ?_
        refine ROps.l (r := AV.i64 x4) rfl rfl rfl (LOp.move rfl rfl) ?_
        refine ROps.nil ?_
        cases Option.some.inj h2_
        exact ⟨_, rfl, ⟨(ALe.refl _), (ALe.refl _), (ALe.refl _), (ALe.refl _), trivial⟩, trivial⟩
    · refine RunC.regionW ?_
      refine ROps.l (r := AV.b false) rfl rfl rfl (LOp.eqb (LOp.lss rfl rfl rfl) hc1) ?_
      refine ROps.nil ?_
      refine RunC.seq ?_
      refine RunC.cond_false rfl rfl ?_
      refine RunC.exit ?_
      cases Option.some.inj h2_
      have hx := ho2 _ rfl
      exact ⟨trivial, trivial, hx⟩
  · rintro τ4 Γ4 ⟨hw4, hd4, rfl⟩
    refine RunC.wl (τ' := []) (Γ' := []) hw4 hd4 ?_
    replace h : x_slices_IndexFunc_float32_float32_1Fi_areFinite_1_k1 = some q0 := h
    unfold x_slices_IndexFunc_float32_float32_1Fi_areFinite_1_k1 at h
    refine RunC.seq ?_
    refine RunC.regionW ?_
    refine ROps.l (r := AV.i64 (-1)) rfl rfl rfl (LOp.assign rfl rfl) ?_
    refine ROps.nil ?_
    refine RunC.ret ?_
    have hq := Option.some.inj h
    subst q0
    exact bodyQ.pure (.inr rfl) rfl (Res.one rfl (RV.tmp rfl))
noncomputable def x_slices_ContainsFunc_float32_float32_1Fi_areFinite_1 (a0 : List F) : Option (Bool) :=
  obind (x_slices_IndexFunc_float32_float32_1Fi_areFinite_1 a0) fun (r1 : Int) =>
  some (decide (0 ≤ r1))
theorem x_slices_ContainsFunc_float32_float32_1Fi_areFinite_1_ok (a0 : List F) (q0 : Bool) (h : x_slices_ContainsFunc_float32_float32_1Fi_areFinite_1 a0 = some q0) : Ev Try.prog 112 [AV.sl a0.length (a0.map AV.f32), AV.fn (.func 113) [] []] [] (AV.b q0) [] := by
  refine Ev.start Try.func112 rfl rfl 0 (τ := [(0, AV.sl a0.length (a0.map AV.f32)), (1, AV.fn (.func 113) [] [])]) rfl (Γ' := []) rfl (n := 9) rfl (g := 0) rfl ?_
  unfold x_slices_ContainsFunc_float32_float32_1Fi_areFinite_1 at h
  refine RunC.seq ?_
  refine RunC.regionW ?_
  refine ROps.l (r := AV.b false) rfl rfl rfl (LOp.assign rfl rfl) ?_
  refine ROps.nil ?_
  refine RunC.seq ?_
  obtain ⟨r1, hf1, h⟩ := obind_some h
  refine RunC.regionW ?_
  refine ROps.l (r := AV.sl a0.length (a0.map AV.f32)) rfl rfl rfl (LOp.move rfl rfl) ?_
  refine ROps.l (r := AV.fn (.func 113) [] []) rfl rfl rfl (LOp.move rfl rfl) ?_
  refine ROps.d (r := AV.i64 r1) (fs := []) (Γ' := []) rfl rfl rfl (TOp.callB (CallAs.func ent122 rfl rfl) (Bors.cons (Bor.sl (fun _ => rfl)) (Bors.cons (Bor.fn Bors.nil Bors.nil) Bors.nil)) rfl rfl (x_slices_IndexFunc_float32_float32_1Fi_areFinite_1_ok a0 r1 hf1)) rfl ?_
  refine ROps.l (r := AV.b (decide (0 ≤ r1))) rfl rfl rfl (LOp.geq rfl rfl rfl) ?_
  refine ROps.l (r := AV.b (decide (0 ≤ r1))) rfl rfl rfl (LOp.assign rfl rfl) ?_
  refine ROps.nil ?_
  refine RunC.ret ?_
  have hq := Option.some.inj h
  subst q0
  exact bodyQ.pure (.inr rfl) rfl (Res.one rfl (RV.tmp rfl))
noncomputable def i_areFinite (a0 : List F) : Option (Bool) :=
  obind (x_slices_ContainsFunc_float32_float32_1Fi_areFinite_1 a0) fun (r1 : Bool) =>
  some (!r1)
theorem i_areFinite_ok (a0 : List F) (q0 : Bool) (h : i_areFinite a0 = some q0) : Ev Try.prog 84 [AV.sl a0.length (a0.map AV.f32)] [] (AV.b q0) [] := by
  refine Ev.start Try.func84 rfl rfl 0 (τ := [(0, AV.sl a0.length (a0.map AV.f32))]) rfl (Γ' := []) rfl (n := 6) rfl (g := 0) rfl ?_
  unfold i_areFinite at h
  refine RunC.seq ?_
  refine RunC.regionW ?_
  refine ROps.l (r := AV.b false) rfl rfl rfl (LOp.assign rfl rfl) ?_
  refine ROps.nil ?_
  refine RunC.seq ?_
  obtain ⟨r1, hf1, h⟩ := obind_some h
  refine RunC.regionW ?_
  refine ROps.l (r := AV.sl a0.length (a0.map AV.f32)) rfl rfl rfl (LOp.move rfl rfl) ?_
  refine ROps.d (r := AV.b r1) (fs := []) (Γ' := []) rfl rfl rfl (TOp.callB (CallAs.func ent112 rfl rfl) (Bors.cons (Bor.sl (fun _ => rfl)) (Bors.cons (Bor.fn Bors.nil Bors.nil) Bors.nil)) rfl rfl (x_slices_ContainsFunc_float32_float32_1Fi_areFinite_1_ok a0 r1 hf1)) rfl ?_
  refine ROps.l (r := AV.b (!r1)) rfl rfl rfl (LOp.not rfl rfl) ?_
  refine ROps.l (r := AV.b (!r1)) rfl rfl rfl (LOp.assign rfl rfl) ?_
  refine ROps.nil ?_
  refine RunC.ret ?_
  have hq := Option.some.inj h
  subst q0
  exact bodyQ.pure (.inr rfl) rfl (Res.one rfl (RV.tmp rfl))
noncomputable def i_ValidMatrix (a0 : Int) (a1 : Int) (a2 : List F) : Option (Bool) :=
  obind (i_isSide a0) fun (r1 : Bool) =>
  bsel r1 (
    obind (i_isSide a1) fun (r2 : Bool) =>
    bsel r2 (
      obind (i_length_float32 a2) fun (r3 : Int) =>
      olet (IntKind.i64.wrap (a0 * a1)) fun (x4 : Int) =>
      bsel (decide (r3 = x4)) (
        obind (i_areFinite a2) fun (r5 : Bool) =>
        some r5) (
        some false)) (
      some false)) (
    some false)
theorem i_ValidMatrix_ok (a0 : Int) (a1 : Int) (a2 : List F) (q0 : Bool) (h : i_ValidMatrix a0 a1 a2 = some q0) : Ev Try.prog 45 [AV.agg [AV.i64 a0, AV.i64 a1, AV.sl a2.length (a2.map AV.f32)]] [] (AV.b q0) [] := by
  refine Ev.start Try.func45 rfl rfl 0 (τ := [(0, AV.agg [AV.i64 a0, AV.i64 a1, AV.sl a2.length (a2.map AV.f32)])]) rfl (Γ' := []) rfl (n := 27) rfl (g := 0) rfl ?_
  unfold i_ValidMatrix at h
  refine RunC.seq ?_
  refine RunC.regionW ?_
  refine ROps.d (r := AV.ptr [AV.i64 a0, AV.i64 a1, AV.sl a2.length (a2.map AV.f32)]) (fs := []) (Γ' := []) rfl rfl rfl (TOp.box_s rfl rfl rfl) rfl ?_
  refine ROps.l (r := AV.b false) rfl rfl rfl (LOp.assign rfl rfl) ?_
  refine ROps.nil ?_
  refine RunC.seq ?_
  obtain ⟨r1, hf1, h⟩ := obind_some h
  rcases bsel_some h with ⟨hc2, h⟩ | ⟨hc2, h⟩
  · obtain ⟨r2, hf3, h⟩ := obind_some h
    rcases bsel_some h with ⟨hc4, h⟩ | ⟨hc4, h⟩
    · obtain ⟨r3, hf5, h⟩ := obind_some h
      obtain ⟨x4, hx6, h⟩ := olet_some h
      rcases bsel_some h with ⟨hc7, h⟩ | ⟨hc7, h⟩
      · obtain ⟨r5, hf8, h⟩ := obind_some h
        refine RunC.region_draw (Γ' := []) 25 mixed 
          (TR.l (r := AV.ptr [AV.i64 a0, AV.i64 a1, AV.sl a2.length (a2.map AV.f32)]) rfl rfl (LOp.fap und27 rfl siz2 rfl rfl rfl) <|
          (TR.l (r := AV.i64 a0) rfl rfl (LOp.load1 agg2 rfl rfl) <|
          (TR.d (r := AV.b true) (fs := []) rfl rfl (TOp.eqb (TOp.callB (CallAs.func ent47 rfl rfl) (Bors.cons (Bor.pure rfl) Bors.nil) rfl rfl (i_isSide_ok a0 r1 hf1)) hc2) <|
          (TR.l (r := AV.b true) rfl rfl (LOp.move rfl rfl) <|
          (TR.l (r := AV.ptr [AV.i64 a1, AV.sl a2.length (a2.map AV.f32)]) rfl rfl (LOp.fap und27 rfl siz2 rfl rfl rfl) <|
          (TR.l (r := AV.i64 a1) rfl rfl (LOp.load1 agg2 rfl rfl) <|
          (TR.d (r := AV.b true) (fs := []) rfl rfl (TOp.eqb (TOp.callB (CallAs.func ent47 rfl rfl) (Bors.cons (Bor.pure rfl) Bors.nil) rfl rfl (i_isSide_ok a1 r2 hf3)) hc4) <|
          (TR.l (r := AV.b true) rfl rfl (LOp.pick_true rfl rfl rfl) <|
          (TR.l (r := AV.b true) rfl rfl (LOp.move rfl rfl) <|
          (TR.l (r := AV.ptr [AV.sl a2.length (a2.map AV.f32)]) rfl rfl (LOp.fap und27 rfl siz22 rfl rfl rfl) <|
          (TR.l (r := AV.sl a2.length (a2.map AV.f32)) rfl rfl (LOp.load1 agg22 rfl rfl) <|
          (TR.d (r := AV.i64 r3) (fs := []) rfl rfl (TOp.callB (CallAs.func ent89 rfl rfl) (Bors.cons (Bor.sl (fun _ => rfl)) Bors.nil) rfl rfl (i_length_float32_ok a2 r3 hf5)) <|
          (TR.l (r := AV.ptr [AV.i64 a0, AV.i64 a1, AV.sl a2.length (a2.map AV.f32)]) rfl rfl (LOp.fap und27 rfl siz2 rfl rfl rfl) <|
          (TR.l (r := AV.i64 a0) rfl rfl (LOp.load1 agg2 rfl rfl) <|
          (TR.l (r := AV.ptr [AV.i64 a1, AV.sl a2.length (a2.map AV.f32)]) rfl rfl (LOp.fap und27 rfl siz2 rfl rfl rfl) <|
          (TR.l (r := AV.i64 a1) rfl rfl (LOp.load1 agg2 rfl rfl) <|
          (TR.l (r := AV.i64 x4) rfl rfl (LOp.eqr (LOp.mul rfl rfl rfl) (congrArg (AV.ik .i64) hx6)) <|
          (TR.l (r := AV.b true) rfl rfl (LOp.eqb (LOp.eql rfl rfl rfl) hc7) <|
          (TR.l (r := AV.b true) rfl rfl (LOp.pick_true rfl rfl rfl) <|
          (TR.l (r := AV.b true) rfl rfl (LOp.move rfl rfl) <|
          (TR.l (r := AV.ptr [AV.sl a2.length (a2.map AV.f32)]) rfl rfl (LOp.fap und27 rfl siz22 rfl rfl rfl) <|
          (TR.l (r := AV.sl a2.length (a2.map AV.f32)) rfl rfl (LOp.load1 agg22 rfl rfl) <|
          (TR.d (r := AV.b r5) (fs := []) rfl rfl (TOp.callB (CallAs.func ent84 rfl rfl) (Bors.cons (Bor.sl (fun _ => rfl)) Bors.nil) rfl rfl (i_areFinite_ok a2 r5 hf8)) <|
          (TR.l (r := AV.b r5) rfl rfl (LOp.pick_true rfl rfl rfl) <|
          (TR.l (r := AV.b r5) rfl rfl (LOp.assign rfl rfl) <|
          TR.nil))))))))))))))))))))))))) rfl (by kernel_rfl) rfl fills_nil rfl ?_
        iterate 25 refine ROps.dropS ?_
        refine ROps.drop0 ?_
        refine ROps.nil ?_
        refine RunC.ret ?_
        have hq := Option.some.inj h
        subst q0
        exact bodyQ.pure (.inr rfl) rfl (Res.one rfl (RV.tmp rfl))
      · refine RunC.region_draw (Γ' := []) 25 mixed 
          (TR.l (r := AV.ptr [AV.i64 a0, AV.i64 a1, AV.sl a2.length (a2.map AV.f32)]) rfl rfl (LOp.fap und27 rfl siz2 rfl rfl rfl) <|
          (TR.l (r := AV.i64 a0) rfl rfl (LOp.load1 agg2 rfl rfl) <|
          (TR.d (r := AV.b true) (fs := []) rfl rfl (TOp.eqb (TOp.callB (CallAs.func ent47 rfl rfl) (Bors.cons (Bor.pure rfl) Bors.nil) rfl rfl (i_isSide_ok a0 r1 hf1)) hc2) <|
          (TR.l (r := AV.b true) rfl rfl (LOp.move rfl rfl) <|
          (TR.l (r := AV.ptr [AV.i64 a1, AV.sl a2.length (a2.map AV.f32)]) rfl rfl (LOp.fap und27 rfl siz2 rfl rfl rfl) <|
          (TR.l (r := AV.i64 a1) rfl rfl (LOp.load1 agg2 rfl rfl) <|
          (TR.d (r := AV.b true) (fs := []) rfl rfl (TOp.eqb (TOp.callB (CallAs.func ent47 rfl rfl) (Bors.cons (Bor.pure rfl) Bors.nil) rfl rfl (i_isSide_ok a1 r2 hf3)) hc4) <|
          (TR.l (r := AV.b true) rfl rfl (LOp.pick_true rfl rfl rfl) <|
          (TR.l (r := AV.b true) rfl rfl (LOp.move rfl rfl) <|
          (TR.l (r := AV.ptr [AV.sl a2.length (a2.map AV.f32)]) rfl rfl (LOp.fap und27 rfl siz22 rfl rfl rfl) <|
          (TR.l (r := AV.sl a2.length (a2.map AV.f32)) rfl rfl (LOp.load1 agg22 rfl rfl) <|
          (TR.d (r := AV.i64 r3) (fs := []) rfl rfl (TOp.callB (CallAs.func ent89 rfl rfl) (Bors.cons (Bor.sl (fun _ => rfl)) Bors.nil) rfl rfl (i_length_float32_ok a2 r3 hf5)) <|
          (TR.l (r := AV.ptr [AV.i64 a0, AV.i64 a1, AV.sl a2.length (a2.map AV.f32)]) rfl rfl (LOp.fap und27 rfl siz2 rfl rfl rfl) <|
          (TR.l (r := AV.i64 a0) rfl rfl (LOp.load1 agg2 rfl rfl) <|
          (TR.l (r := AV.ptr [AV.i64 a1, AV.sl a2.length (a2.map AV.f32)]) rfl rfl (LOp.fap und27 rfl siz2 rfl rfl rfl) <|
          (TR.l (r := AV.i64 a1) rfl rfl (LOp.load1 agg2 rfl rfl) <|
          (TR.l (r := AV.i64 x4) rfl rfl (LOp.eqr (LOp.mul rfl rfl rfl) (congrArg (AV.ik .i64) hx6)) <|
          (TR.l (r := AV.b false) rfl rfl (LOp.eqb (LOp.eql rfl rfl rfl) hc7) <|
          (TR.l (r := AV.b false) rfl rfl (LOp.pick_true rfl rfl rfl) <|
          (TR.l (r := AV.b false) rfl rfl (LOp.move rfl rfl) <|
          (TR.s rfl rfl <|
          (TR.s rfl rfl <|
          (TR.s rfl rfl <|
          (TR.l (r := AV.b false) rfl rfl (LOp.pick_false rfl rfl rfl) <|
          (TR.l (r := AV.b false) rfl rfl (LOp.assign rfl rfl) <|
          TR.nil))))))))))))))))))))))))) rfl (by kernel_rfl) rfl fills_nil rfl ?_
        iterate 25 refine ROps.dropS ?_
        refine ROps.drop0 ?_
        refine ROps.nil ?_
        refine RunC.ret ?_
        have hq := Option.some.inj h
        subst q0
        exact bodyQ.pure (.inr rfl) rfl (Res.one rfl (RV.tmp rfl))
    · refine RunC.region_draw (Γ' := []) 25 mixed 
        (TR.l (r := AV.ptr [AV.i64 a0, AV.i64 a1, AV.sl a2.length (a2.map AV.f32)]) rfl rfl (LOp.fap und27 rfl siz2 rfl rfl rfl) <|
        (TR.l (r := AV.i64 a0) rfl rfl (LOp.load1 agg2 rfl rfl) <|
        (TR.d (r := AV.b true) (fs := []) rfl rfl (TOp.eqb (TOp.callB (CallAs.func ent47 rfl rfl) (Bors.cons (Bor.pure rfl) Bors.nil) rfl rfl (i_isSide_ok a0 r1 hf1)) hc2) <|
        (TR.l (r := AV.b true) rfl rfl (LOp.move rfl rfl) <|
        (TR.l (r := AV.ptr [AV.i64 a1, AV.sl a2.length (a2.map AV.f32)]) rfl rfl (LOp.fap und27 rfl siz2 rfl rfl rfl) <|
        (TR.l (r := AV.i64 a1) rfl rfl (LOp.load1 agg2 rfl rfl) <|
        (TR.d (r := AV.b false) (fs := []) rfl rfl (TOp.eqb (TOp.callB (CallAs.func ent47 rfl rfl) (Bors.cons (Bor.pure rfl) Bors.nil) rfl rfl (i_isSide_ok a1 r2 hf3)) hc4) <|
        (TR.l (r := AV.b false) rfl rfl (LOp.pick_true rfl rfl rfl) <|
        (TR.l (r := AV.b false) rfl rfl (LOp.move rfl rfl) <|
        (TR.s rfl rfl <|
        (TR.s rfl rfl <|
        (TR.s rfl rfl <|
        (TR.s rfl rfl <|
        (TR.s rfl rfl <|
        (TR.s rfl rfl <|
        (TR.s rfl rfl <|
        (TR.s rfl rfl <|
        (TR.s rfl rfl <|
        (TR.l (r := AV.b false) rfl rfl (LOp.pick_false rfl rfl rfl) <|
        (TR.l (r := AV.b false) rfl rfl (LOp.move rfl rfl) <|
        (TR.s rfl rfl <|
        (TR.s rfl rfl <|
        (TR.s rfl rfl <|
        (TR.l (r := AV.b false) rfl rfl (LOp.pick_false rfl rfl rfl) <|
        (TR.l (r := AV.b false) rfl rfl (LOp.assign rfl rfl) <|
        TR.nil))))))))))))))))))))))))) rfl (by kernel_rfl) rfl fills_nil rfl ?_
      iterate 25 refine ROps.dropS ?_
      refine ROps.drop0 ?_
      refine ROps.nil ?_
      refine RunC.ret ?_
      have hq := Option.some.inj h
      subst q0
      exact bodyQ.pure (.inr rfl) rfl (Res.one rfl (RV.tmp rfl))
  · refine RunC.region_draw (Γ' := []) 25 mixed 
      (TR.l (r := AV.ptr [AV.i64 a0, AV.i64 a1, AV.sl a2.length (a2.map AV.f32)]) rfl rfl (LOp.fap und27 rfl siz2 rfl rfl rfl) <|
      (TR.l (r := AV.i64 a0) rfl rfl (LOp.load1 agg2 rfl rfl) <|
      (TR.d (r := AV.b false) (fs := []) rfl rfl (TOp.eqb (TOp.callB (CallAs.func ent47 rfl rfl) (Bors.cons (Bor.pure rfl) Bors.nil) rfl rfl (i_isSide_ok a0 r1 hf1)) hc2) <|
      (TR.l (r := AV.b false) rfl rfl (LOp.move rfl rfl) <|
      (TR.s rfl rfl <|
      (TR.s rfl rfl <|
      (TR.s rfl rfl <|
      (TR.l (r := AV.b false) rfl rfl (LOp.pick_false rfl rfl rfl) <|
      (TR.l (r := AV.b false) rfl rfl (LOp.move rfl rfl) <|
      (TR.s rfl rfl <|
      (TR.s rfl rfl <|
      (TR.s rfl rfl <|
      (TR.s rfl rfl <|
      (TR.s rfl rfl <|
      (TR.s rfl rfl <|
      (TR.s rfl rfl <|
      (TR.s rfl rfl <|
      (TR.s rfl rfl <|
      (TR.l (r := AV.b false) rfl rfl (LOp.pick_false rfl rfl rfl) <|
      (TR.l (r := AV.b false) rfl rfl (LOp.move rfl rfl) <|
      (TR.s rfl rfl <|
      (TR.s rfl rfl <|
      (TR.s rfl rfl <|
      (TR.l (r := AV.b false) rfl rfl (LOp.pick_false rfl rfl rfl) <|
      (TR.l (r := AV.b false) rfl rfl (LOp.assign rfl rfl) <|
      TR.nil))))))))))))))))))))))))) rfl (by kernel_rfl) rfl fills_nil rfl ?_
    iterate 25 refine ROps.dropS ?_
    refine ROps.drop0 ?_
    refine ROps.nil ?_
    refine RunC.ret ?_
    have hq := Option.some.inj h
    subst q0
    exact bodyQ.pure (.inr rfl) rfl (Res.one rfl (RV.tmp rfl))
noncomputable def x_slices_Clone_float32_float32 (a0 : List F) : Option ((List F)) :=
  need (apok 4 0 a0.length) <|
  some (([] : List F) ++ a0)
theorem x_slices_Clone_float32_float32_ok (a0 : List F) (q0 : List F) (h : x_slices_Clone_float32_float32 a0 = some q0) : Ev Try.prog 92 [AV.sl a0.length (a0.map AV.f32)] [] (AV.oref 0 0 0 q0.length) [⟨0, some (q0.map AV.f32)⟩] := by
  refine Ev.start Try.func92 rfl rfl 1 (τ := [(0, AV.sl a0.length (a0.map AV.f32))]) rfl (Γ' := [⟨0, none⟩]) rfl (n := 8) rfl (g := 0) rfl ?_
  unfold x_slices_Clone_float32_float32 at h
  refine RunC.seq ?_
  refine RunC.regionW ?_
  refine ROps.l (r := AV.nilsl) rfl rfl rfl (LOp.assign rfl rfl) ?_
  refine ROps.nil ?_
  refine RunC.seq ?_
  refine RunC.seq ?_
  refine RunC.regionW ?_
  refine ROps.l (r := AV.sl a0.length (a0.map AV.f32)) rfl rfl rfl (LOp.move rfl rfl) ?_
  refine ROps.eqnil rfl pun22 rfl rfl rfl rfl rfl ?_ ?_
  · intro hnil1
    refine ROps.nil ?_
    refine RunC.cond_true rfl rfl ?_
    refine RunC.seq ?_
    refine RunC.regionW ?_
    refine ROps.l (r := AV.nilsl) rfl rfl rfl (LOp.assign rfl rfl) ?_
    refine ROps.nil ?_
    refine RunC.nil_slot (Γ' := [⟨1, some (([] : List F).map AV.f32)⟩]) 2 0 rfl rfl rfl ?_
    refine RunC.ret ?_
    have hnl := List.map_eq_nil_iff.1 hnil1
    have hq : some ([] : List F) = some q0 := by
      rw [← h]; subst hnl; simp [need, apok]
    have hq := Option.some.inj hq
    subst q0
    exact bodyQ.mk (r' := AV.oref 0 1 0 (([] : List F).length)) [(0, 1)] (.inr rfl) rfl (show List.Nodup [0] from by decide) rfl rfl (Res.eq (Res.one rfl (RV.tmp rfl)) (by rw [(show ([] : List F).length = 0 from rfl)] <;> rfl)) (SelL.arr0 (f := AV.f32) (fun _ => rfl) rfl trivial)
  · refine ROps.nil ?_
    refine RunC.cond_false rfl rfl ?_
    refine RunC.skip ?_
    refine RunC.seq ?_
    obtain ⟨hm2, h⟩ := need_some h
    refine RunC.regionW ?_
    refine ROps.d (r := AV.oref 0 1 0 0) (fs := [(0, (([] : List F).map AV.f32))]) (Γ' := [⟨1, some (([] : List F).map AV.f32)⟩]) rfl rfl rfl (TOp.buildSlice_o (g := ⟨0, none⟩) (za := AV.f32 (some 0)) (qs := []) 0 rfl und22 siz25 zer25 rfl zel25 rfl rfl trivial rfl) rfl ?_
    refine ROps.l (r := AV.sl a0.length (a0.map AV.f32)) rfl rfl rfl (LOp.move rfl rfl) ?_
    refine ROps.app (f := AV.f32) (xs := ([] : List F)) (ys := a0) (Γ' := [⟨2, some ((([] : List F) ++ a0).map AV.f32)⟩]) rfl pun22 inf25 rfl rfl rfl rfl rfl rfl rfl rfl rfl (by simp) (ReadAs.sl (by simp)) (ones_map (fun _ => rfl)) (ap_by hm2) (ap_mx hm2) rfl ?_
    refine ROps.l (r := AV.oref 0 2 0 (0 + a0.length)) rfl rfl rfl (LOp.assign rfl rfl) ?_
    refine ROps.nil ?_
    refine RunC.ret ?_
    have hq := Option.some.inj h
    subst q0
    exact bodyQ.mk (r' := AV.oref 0 2 0 ((([] : List F) ++ a0).length)) [(0, 2)] (.inr rfl) rfl (show List.Nodup [0] from by decide) rfl rfl (Res.eq (Res.one rfl (RV.tmp rfl)) (by rw [(show (([] : List F) ++ a0).length = (0 + a0.length) from (app_len rfl rfl))] <;> rfl)) (SelL.arr0 (f := AV.f32) (fun _ => rfl) rfl trivial)
noncomputable def i_Matrix_clone (a0 : Int) (a1 : Int) (a2 : List F) : Option (Int × Int × (List F)) :=
  obind (x_slices_Clone_float32_float32 a2) fun (r1 : List F) =>
  some (a0, a1, r1)
theorem i_Matrix_clone_ok (a0 : Int) (a1 : Int) (a2 : List F) (q0 : Int) (q1 : Int) (q2 : List F) (h : i_Matrix_clone a0 a1 a2 = some (q0, q1, q2)) : Ev Try.prog 48 [AV.agg [AV.i64 a0, AV.i64 a1, AV.sl a2.length (a2.map AV.f32)]] [] (AV.agg [AV.i64 q0, AV.i64 q1, AV.oref 0 0 0 q2.length]) [⟨0, some (q2.map AV.f32)⟩] := by
  refine Ev.start Try.func48 rfl rfl 2 (τ := [(0, AV.agg [AV.i64 a0, AV.i64 a1, AV.sl a2.length (a2.map AV.f32)])]) rfl (Γ' := [⟨0, none⟩, ⟨0, none⟩]) rfl (n := 11) rfl (g := 0) rfl ?_
  unfold i_Matrix_clone at h
  refine RunC.seq ?_
  refine RunC.regionW ?_
  refine ROps.d (r := AV.ptr [AV.i64 a0, AV.i64 a1, AV.sl a2.length (a2.map AV.f32)]) (fs := []) (Γ' := [⟨0, none⟩, ⟨0, none⟩]) rfl rfl rfl (TOp.box_s rfl rfl rfl) rfl ?_
  refine ROps.d (r := AV.optr 0 1 0) (fs := [(0, [AV.i64 0, AV.i64 0, AV.nilsl])]) (Γ' := [⟨1, some [AV.i64 0, AV.i64 0, AV.nilsl]⟩, ⟨0, none⟩]) rfl rfl rfl (TOp.alloc_o (g := ⟨0, none⟩) 0 rfl zer27 zok27 rfl) rfl ?_
  refine ROps.nil ?_
  refine RunC.seq ?_
  obtain ⟨r1, hf1, h⟩ := obind_some h
  refine RunC.region_draw (Γ' := [⟨1, some [AV.i64 0, AV.i64 0, AV.nilsl]⟩, ⟨1, some (r1.map AV.f32)⟩]) 8 mixed 
    (TR.l (r := AV.ptr [AV.i64 a0, AV.i64 a1, AV.sl a2.length (a2.map AV.f32)]) rfl rfl (LOp.fap und27 rfl siz2 rfl rfl rfl) <|
    (TR.l (r := AV.i64 a0) rfl rfl (LOp.load1 agg2 rfl rfl) <|
    (TR.l (r := AV.ptr [AV.i64 a1, AV.sl a2.length (a2.map AV.f32)]) rfl rfl (LOp.fap und27 rfl siz2 rfl rfl rfl) <|
    (TR.l (r := AV.i64 a1) rfl rfl (LOp.load1 agg2 rfl rfl) <|
    (TR.l (r := AV.ptr [AV.sl a2.length (a2.map AV.f32)]) rfl rfl (LOp.fap und27 rfl siz22 rfl rfl rfl) <|
    (TR.l (r := AV.sl a2.length (a2.map AV.f32)) rfl rfl (LOp.load1 agg22 rfl rfl) <|
    (TR.d (r := AV.oref 1 1 0 r1.length) (fs := [(1, (r1.map AV.f32))]) rfl rfl (TOp.callBN (ls := [(r1.map AV.f32)]) [1] (CallAs.func ent92 rfl rfl) (Bors.cons (Bor.sl (fun _ => rfl)) Bors.nil) rfl (x_slices_Clone_float32_float32_ok a2 r1 hf1) (and_all (lts0_map (f := AV.f32) (fun _ => rfl) _) rfl) (and_all (noss_map (f := AV.f32) (fun _ => rfl) _) rfl) rfl (by decide) (ns_of ⟨⟨_, rfl⟩, trivial⟩)) <|
    (TR.l (r := AV.agg [AV.i64 a0, AV.i64 a1, AV.oref 1 1 0 r1.length]) rfl rfl (LOp.build (qs := [(0, [AV.i64 a0]), (1, [AV.i64 a1]), (2, [AV.oref 1 1 0 r1.length])]) zer27 zok27 und27 plc27 rfl ⟨rfl, ⟨_, ALe.refl _, rfl⟩, ⟨rfl, ⟨_, ALe.refl _, rfl⟩, ⟨rfl, ⟨_, ALe.refl _, rfl⟩, trivial⟩⟩⟩ rfl) <|
    TR.nil)))))))) rfl (by kernel_rfl) rfl (fills_of (by show List.Nodup [1]; decide) ⟨⟨_, rfl⟩, trivial⟩) rfl ?_
  iterate 8 refine ROps.dropS ?_
  refine ROps.drop0 ?_
  refine ROps.store_le (r := AV.agg [AV.i64 a0, AV.i64 a1, AV.oref 1 1 0 r1.length]) (l' := [AV.i64 a0, AV.i64 a1, AV.oref 1 1 0 r1.length]) (Γ' := [⟨1, some [AV.i64 a0, AV.i64 a1, AV.oref 1 1 0 r1.length]⟩, ⟨1, some (r1.map AV.f32)⟩]) rfl siz27 rfl rfl rfl (ALe.refl _) rfl rfl rfl rfl (Nat.le_of_ble_eq_true rfl) rfl rfl ?_
  refine ROps.nil ?_
  refine RunC.ret ?_
  have hq := Option.some.inj h
  obtain ⟨hq0, hq⟩ := Prod.mk.inj hq
  obtain ⟨hq1, hq⟩ := Prod.mk.inj hq
  subst q0
  subst q1
  subst q2
  exact bodyQ.mk (r' := AV.agg [AV.i64 a0, AV.i64 a1, AV.oref 1 1 0 r1.length]) [(1, 1)] (.inr rfl) rfl (show List.Nodup [1] from by decide) rfl rfl (Res.one rfl (RV.cell agg27 siz27 rfl rfl rfl rfl)) (SelL.arr0 (f := AV.f32) (fun _ => rfl) rfl trivial)
noncomputable def i_newMatrix (a0 : Int) (a1 : Int) : Option (Int × Int × (List F)) :=
  olet (IntKind.i64.wrap (a0 * a1)) fun (x1 : Int) =>
  need (mkok 4 x1) <|
  some (a0, a1, (List.replicate x1.toNat (some 0)))
theorem i_newMatrix_ok (a0 : Int) (a1 : Int) (q0 : Int) (q1 : Int) (q2 : List F) (h : i_newMatrix a0 a1 = some (q0, q1, q2)) : Ev Try.prog 49 [AV.i64 a0, AV.i64 a1] [] (AV.agg [AV.i64 q0, AV.i64 q1, AV.oref 0 0 0 q2.length]) [⟨0, some (q2.map AV.f32)⟩] := by
  refine Ev.start Try.func49 rfl rfl 2 (τ := [(0, AV.i64 a0), (1, AV.i64 a1)]) rfl (Γ' := [⟨0, none⟩, ⟨0, none⟩]) rfl (n := 12) rfl (g := 0) rfl ?_
  unfold i_newMatrix at h
  refine RunC.seq ?_
  refine RunC.regionW ?_
  refine ROps.d (r := AV.optr 0 1 0) (fs := [(0, [AV.i64 0, AV.i64 0, AV.nilsl])]) (Γ' := [⟨1, some [AV.i64 0, AV.i64 0, AV.nilsl]⟩, ⟨0, none⟩]) rfl rfl rfl (TOp.alloc_o (g := ⟨0, none⟩) 0 rfl zer27 zok27 rfl) rfl ?_
  refine ROps.nil ?_
  refine RunC.seq ?_
  obtain ⟨x1, hx1, h⟩ := olet_some h
  obtain ⟨hm2, h⟩ := need_some h
  refine RunC.regionW ?_
  refine ROps.l (r := AV.i64 a0) rfl rfl rfl (LOp.move rfl rfl) ?_
  refine ROps.l (r := AV.i64 a1) rfl rfl rfl (LOp.move rfl rfl) ?_
  refine ROps.l (r := AV.i64 a0) rfl rfl rfl (LOp.move rfl rfl) ?_
  refine ROps.l (r := AV.i64 a1) rfl rfl rfl (LOp.move rfl rfl) ?_
  refine ROps.l (r := AV.i64 x1) rfl rfl rfl (LOp.eqr (LOp.mul rfl rfl rfl) (congrArg (AV.ik .i64) hx1)) ?_
  refine ROps.d (r := AV.oref 1 1 0 x1.toNat) (fs := [(1, ((List.replicate x1.toNat (some 0)).map AV.f32))]) (Γ' := [⟨1, some [AV.i64 0, AV.i64 0, AV.nilsl]⟩, ⟨1, some ((List.replicate x1.toNat (some 0)).map AV.f32)⟩]) rfl rfl rfl (TOp.mkS (g := ⟨0, none⟩) (t := 22) (e := 25) (by_ := 4) (f := AV.f32) (zv := some 0) 1 rfl und22 tin25 rfl siz25 zer25 rfl zel25 rfl rfl rfl hm2) rfl ?_
  refine ROps.l (r := AV.agg [AV.i64 a0, AV.i64 a1, AV.oref 1 1 0 x1.toNat]) rfl rfl rfl (LOp.build (qs := [(0, [AV.i64 a0]), (1, [AV.i64 a1]), (2, [AV.oref 1 1 0 x1.toNat])]) zer27 zok27 und27 plc27 rfl ⟨rfl, ⟨_, ALe.refl _, rfl⟩, ⟨rfl, ⟨_, ALe.refl _, rfl⟩, ⟨rfl, ⟨_, ALe.refl _, rfl⟩, trivial⟩⟩⟩ rfl) ?_
  refine ROps.store_le (r := AV.agg [AV.i64 a0, AV.i64 a1, AV.oref 1 1 0 x1.toNat]) (l' := [AV.i64 a0, AV.i64 a1, AV.oref 1 1 0 x1.toNat]) (Γ' := [⟨1, some [AV.i64 a0, AV.i64 a1, AV.oref 1 1 0 x1.toNat]⟩, ⟨1, some ((List.replicate x1.toNat (some 0)).map AV.f32)⟩]) rfl siz27 rfl rfl rfl (ALe.refl _) rfl rfl rfl rfl (Nat.le_of_ble_eq_true rfl) rfl rfl ?_
  refine ROps.nil ?_
  refine RunC.ret ?_
  have hq := Option.some.inj h
  obtain ⟨hq0, hq⟩ := Prod.mk.inj hq
  obtain ⟨hq1, hq⟩ := Prod.mk.inj hq
  subst q0
  subst q1
  subst q2
  exact bodyQ.mk (r' := AV.agg [AV.i64 a0, AV.i64 a1, AV.oref 1 1 0 ((List.replicate x1.toNat (some 0)).length)]) [(1, 1)] (.inr rfl) rfl (show List.Nodup [1] from by decide) rfl rfl (Res.eq (Res.one rfl (RV.cell agg27 siz27 rfl rfl rfl rfl)) (by rw [(show (List.replicate x1.toNat (some 0)).length = x1.toNat from by simp)] <;> rfl)) (SelL.arr0 (f := AV.f32) (fun _ => rfl) rfl trivial)
noncomputable def i_absolute (a0 : F) : Option (F) :=
  olet (fwiden a0) fun (x1 : F) =>
  obind (x_math_Abs x1) fun (r2 : F) =>
  obind (fnarrow r2) fun (y3 : F) =>
  some y3
theorem i_absolute_ok (a0 : F) (q0 : F) (h : i_absolute a0 = some q0) : Ev Try.prog 50 [AV.f32 a0] [] (AV.f32 q0) [] := by
  refine Ev.start Try.func50 rfl rfl 0 (τ := [(0, AV.f32 a0)]) rfl (Γ' := []) rfl (n := 7) rfl (g := 0) rfl ?_
  unfold i_absolute at h
  refine RunC.seq ?_
  refine RunC.regionW ?_
  refine ROps.l (r := AV.f32 (some 0)) rfl rfl rfl (LOp.le (LOp.assign rfl rfl) (ALe.fl (by kernel_rfl) (by kernel_rfl))) ?_
  refine ROps.nil ?_
  refine RunC.seq ?_
  obtain ⟨x1, hx1, h⟩ := olet_some h
  obtain ⟨r2, hf2, h⟩ := obind_some h
  obtain ⟨y3, hy3, h⟩ := obind_some h
  refine RunC.regionW ?_
  refine ROps.l (r := AV.f32 a0) rfl rfl rfl (LOp.move rfl rfl) ?_
  refine ROps.d (r := AV.f64 x1) (fs := []) (Γ' := []) rfl rfl rfl (TOp.eqr (TOp.widen (src := 25) (dst := 40) ⟨_, pun25⟩ pun40 rfl (OpF.tmp rfl)) (congrArg (AV.f .f64) hx1)) rfl ?_
  refine ROps.d (r := AV.f64 r2) (fs := []) (Γ' := []) rfl rfl rfl (TOp.callB (CallAs.func ent93 rfl rfl) (Bors.cons (Bor.pure rfl) Bors.nil) rfl rfl (x_math_Abs_ok x1 r2 hf2)) rfl ?_
  refine ROps.d (r := AV.f32 y3) (fs := []) (Γ' := []) rfl rfl rfl (TOp.narrow (src := 40) (dst := 25) ⟨_, pun40⟩ pun25 rfl (OpF.tmp rfl) hy3) rfl ?_
  refine ROps.l (r := AV.f32 y3) rfl rfl rfl (LOp.assign rfl rfl) ?_
  refine ROps.nil ?_
  refine RunC.ret ?_
  have hq := Option.some.inj h
  subst q0
  exact bodyQ.pure (.inr rfl) rfl (Res.one rfl (RV.tmp rfl))
noncomputable def i_Matrix_at (a0 : Int) (a1 : Int) (a2 : List F) (a3 : Int) (a4 : Int) : Option (F) :=
  olet (IntKind.i64.wrap (a3 * a1)) fun (x1 : Int) =>
  olet (IntKind.i64.wrap (x1 + a4)) fun (x2 : Int) =>
  obind (at? a2 x2) fun (e3 : F) =>
  some e3
theorem i_Matrix_at_ok (a0 : Int) (a1 : Int) (a2 : List F) (a3 : Int) (a4 : Int) (q0 : F) (h : i_Matrix_at a0 a1 a2 a3 a4 = some q0) : Ev Try.prog 51 [AV.agg [AV.i64 a0, AV.i64 a1, AV.sl a2.length (a2.map AV.f32)], AV.i64 a3, AV.i64 a4] [] (AV.f32 q0) [] := by
  refine Ev.start Try.func51 rfl rfl 0 (τ := [(0, AV.agg [AV.i64 a0, AV.i64 a1, AV.sl a2.length (a2.map AV.f32)]), (1, AV.i64 a3), (2, AV.i64 a4)]) rfl (Γ' := []) rfl (n := 17) rfl (g := 0) rfl ?_
  unfold i_Matrix_at at h
  refine RunC.seq ?_
  refine RunC.regionW ?_
  refine ROps.d (r := AV.ptr [AV.i64 a0, AV.i64 a1, AV.sl a2.length (a2.map AV.f32)]) (fs := []) (Γ' := []) rfl rfl rfl (TOp.box_s rfl rfl rfl) rfl ?_
  refine ROps.l (r := AV.f32 (some 0)) rfl rfl rfl (LOp.le (LOp.assign rfl rfl) (ALe.fl (by kernel_rfl) (by kernel_rfl))) ?_
  refine ROps.nil ?_
  refine RunC.seq ?_
  obtain ⟨x1, hx1, h⟩ := olet_some h
  obtain ⟨x2, hx2, h⟩ := olet_some h
  obtain ⟨e3, he3, h⟩ := obind_some h
  refine RunC.regionW ?_
  refine ROps.l (r := AV.ptr [AV.sl a2.length (a2.map AV.f32)]) rfl rfl rfl (LOp.fap und27 rfl siz22 rfl rfl rfl) ?_
  refine ROps.l (r := AV.sl a2.length (a2.map AV.f32)) rfl rfl rfl (LOp.load1 agg22 rfl rfl) ?_
  refine ROps.l (r := AV.i64 a3) rfl rfl rfl (LOp.move rfl rfl) ?_
  refine ROps.l (r := AV.ptr [AV.i64 a1, AV.sl a2.length (a2.map AV.f32)]) rfl rfl rfl (LOp.fap und27 rfl siz2 rfl rfl rfl) ?_
  refine ROps.l (r := AV.i64 a1) rfl rfl rfl (LOp.load1 agg2 rfl rfl) ?_
  refine ROps.l (r := AV.i64 x1) rfl rfl rfl (LOp.eqr (LOp.mul rfl rfl rfl) (congrArg (AV.ik .i64) hx1)) ?_
  refine ROps.l (r := AV.i64 a4) rfl rfl rfl (LOp.move rfl rfl) ?_
  refine ROps.l (r := AV.i64 x2) rfl rfl rfl (LOp.eqr (LOp.add rfl rfl rfl) (congrArg (AV.ik .i64) hx2)) ?_
  refine ROps.l (r := AV.ptr [AV.f32 e3]) rfl rfl rfl (LOp.le (LOp.ix (f := AV.f32) und22 siz25 rfl rfl rfl rfl he3) ALe.ptr) ?_
  refine ROps.l (r := AV.f32 e3) rfl rfl rfl (LOp.load1 agg25 rfl rfl) ?_
  refine ROps.l (r := AV.f32 e3) rfl rfl rfl (LOp.assign rfl rfl) ?_
  refine ROps.nil ?_
  refine RunC.ret ?_
  have hq := Option.some.inj h
  subst q0
  exact bodyQ.pure (.inr rfl) rfl (Res.one rfl (RV.tmp rfl))
noncomputable def i_Matrix_row (a0 : Int) (a1 : Int) (a2 : List F) (a3 : Int) : Option ((List F)) :=
  olet (IntKind.i64.wrap (a3 * a1)) fun (x1 : Int) =>
  olet (IntKind.i64.wrap (a3 + 1)) fun (x2 : Int) =>
  olet (IntKind.i64.wrap (x2 * a1)) fun (x3 : Int) =>
  obind (sub? a2 x1 x3) fun (l4 : List F) =>
  obind (x_slices_Clone_float32_float32 l4) fun (r5 : List F) =>
  some r5
theorem i_Matrix_row_ok (a0 : Int) (a1 : Int) (a2 : List F) (a3 : Int) (q0 : List F) (h : i_Matrix_row a0 a1 a2 a3 = some q0) : Ev Try.prog 52 [AV.agg [AV.i64 a0, AV.i64 a1, AV.sl a2.length (a2.map AV.f32)], AV.i64 a3] [] (AV.oref 0 0 0 q0.length) [⟨0, some (q0.map AV.f32)⟩] := by
  refine Ev.start Try.func52 rfl rfl 1 (τ := [(0, AV.agg [AV.i64 a0, AV.i64 a1, AV.sl a2.length (a2.map AV.f32)]), (1, AV.i64 a3)]) rfl (Γ' := [⟨0, none⟩]) rfl (n := 18) rfl (g := 0) rfl ?_
  unfold i_Matrix_row at h
  refine RunC.seq ?_
  refine RunC.regionW ?_
  refine ROps.d (r := AV.ptr [AV.i64 a0, AV.i64 a1, AV.sl a2.length (a2.map AV.f32)]) (fs := []) (Γ' := [⟨0, none⟩]) rfl rfl rfl (TOp.box_s rfl rfl rfl) rfl ?_
  refine ROps.l (r := AV.nilsl) rfl rfl rfl (LOp.assign rfl rfl) ?_
  refine ROps.nil ?_
  refine RunC.seq ?_
  obtain ⟨x1, hx1, h⟩ := olet_some h
  obtain ⟨x2, hx2, h⟩ := olet_some h
  obtain ⟨x3, hx3, h⟩ := olet_some h
  obtain ⟨l4, hs4, h⟩ := obind_some h
  obtain ⟨r5, hf5, h⟩ := obind_some h
  refine RunC.regionW ?_
  refine ROps.l (r := AV.ptr [AV.sl a2.length (a2.map AV.f32)]) rfl rfl rfl (LOp.fap und27 rfl siz22 rfl rfl rfl) ?_
  refine ROps.l (r := AV.sl a2.length (a2.map AV.f32)) rfl rfl rfl (LOp.load1 agg22 rfl rfl) ?_
  refine ROps.l (r := AV.i64 a3) rfl rfl rfl (LOp.move rfl rfl) ?_
  refine ROps.l (r := AV.ptr [AV.i64 a1, AV.sl a2.length (a2.map AV.f32)]) rfl rfl rfl (LOp.fap und27 rfl siz2 rfl rfl rfl) ?_
  refine ROps.l (r := AV.i64 a1) rfl rfl rfl (LOp.load1 agg2 rfl rfl) ?_
  refine ROps.l (r := AV.i64 x1) rfl rfl rfl (LOp.eqr (LOp.mul rfl rfl rfl) (congrArg (AV.ik .i64) hx1)) ?_
  refine ROps.l (r := AV.i64 a3) rfl rfl rfl (LOp.move rfl rfl) ?_
  refine ROps.l (r := AV.i64 x2) rfl rfl rfl (LOp.eqr (LOp.add rfl rfl rfl) (congrArg (AV.ik .i64) hx2)) ?_
  refine ROps.l (r := AV.ptr [AV.i64 a1, AV.sl a2.length (a2.map AV.f32)]) rfl rfl rfl (LOp.fap und27 rfl siz2 rfl rfl rfl) ?_
  refine ROps.l (r := AV.i64 a1) rfl rfl rfl (LOp.load1 agg2 rfl rfl) ?_
  refine ROps.l (r := AV.i64 x3) rfl rfl rfl (LOp.eqr (LOp.mul rfl rfl rfl) (congrArg (AV.ik .i64) hx3)) ?_
  refine ROps.l (r := AV.sl l4.length (l4.map AV.f32)) rfl rfl rfl (LOp.slice_sl (f := AV.f32) und22 siz25 rfl rfl rfl rfl rfl hs4) ?_
  refine ROps.d (r := AV.oref 0 1 0 r5.length) (fs := [(0, (r5.map AV.f32))]) (Γ' := [⟨1, some (r5.map AV.f32)⟩]) rfl rfl rfl (TOp.callBN (ls := [(r5.map AV.f32)]) [0] (CallAs.func ent92 rfl rfl) (Bors.cons (Bor.sl (fun _ => rfl)) Bors.nil) rfl (x_slices_Clone_float32_float32_ok l4 r5 hf5) (and_all (lts0_map (f := AV.f32) (fun _ => rfl) _) rfl) (and_all (noss_map (f := AV.f32) (fun _ => rfl) _) rfl) rfl (by decide) (ns_of ⟨⟨_, rfl⟩, trivial⟩)) rfl ?_
  refine ROps.l (r := AV.oref 0 1 0 r5.length) rfl rfl rfl (LOp.assign rfl rfl) ?_
  refine ROps.nil ?_
  refine RunC.ret ?_
  have hq := Option.some.inj h
  subst q0
  exact bodyQ.mk (r' := AV.oref 0 1 0 r5.length) [(0, 1)] (.inr rfl) rfl (show List.Nodup [0] from by decide) rfl rfl (Res.one rfl (RV.tmp rfl)) (SelL.arr0 (f := AV.f32) (fun _ => rfl) rfl trivial)
noncomputable def i_Matrix_column_b1 (a0 : Int) (a1 : Int) (a2 : List F) (a3 : Int) (L3 : List F) (v4 : Int) : Option (LR ((List F) × Int) ((List F)) ((List F))) :=
  bsel (decide (v4 < a0)) (
    obind (i_Matrix_at a0 a1 a2 v4 a3) fun (r5 : F) =>
    need (apok 4 L3.length 1) <|
    olet (IntKind.i64.wrap (v4 + 1)) fun (x6 : Int) =>
    some (LR.next ((L3 ++ ([r5] : List F)), x6))) (
    some (LR.out L3))
noncomputable def i_Matrix_column_s1 (a0 : Int) (a1 : Int) (a2 : List F) (a3 : Int) : ((List F) × Int) → Option (LR ((List F) × Int) ((List F)) ((List F))) := fun s => i_Matrix_column_b1 a0 a1 a2 a3 s.1 s.2
noncomputable def i_Matrix_column_k1 (L9 : List F) : Option ((List F)) :=
  some L9
noncomputable def i_Matrix_column (a0 : Int) (a1 : Int) (a2 : List F) (a3 : Int) : Option ((List F)) :=
  obind (loopM (i_Matrix_column_s1 a0 a1 a2 a3) (([] : List F), 0)) fun z => osum z (fun e => i_Matrix_column_k1 e) (fun r => some r)
theorem i_Matrix_column_ok (a0 : Int) (a1 : Int) (a2 : List F) (a3 : Int) (q0 : List F) (h : i_Matrix_column a0 a1 a2 a3 = some q0) : Ev Try.prog 53 [AV.agg [AV.i64 a0, AV.i64 a1, AV.sl a2.length (a2.map AV.f32)], AV.i64 a3] [] (AV.oref 0 0 0 q0.length) [⟨0, some (q0.map AV.f32)⟩] := by
  refine Ev.start Try.func53 rfl rfl 2 (τ := [(0, AV.agg [AV.i64 a0, AV.i64 a1, AV.sl a2.length (a2.map AV.f32)]), (1, AV.i64 a3)]) rfl (Γ' := [⟨0, none⟩, ⟨0, none⟩]) rfl (n := 22) rfl (g := 0) rfl ?_
  unfold i_Matrix_column at h
  refine RunC.seq ?_
  refine RunC.regionW ?_
  refine ROps.d (r := AV.ptr [AV.i64 a0, AV.i64 a1, AV.sl a2.length (a2.map AV.f32)]) (fs := []) (Γ' := [⟨0, none⟩, ⟨0, none⟩]) rfl rfl rfl (TOp.box_s rfl rfl rfl) rfl ?_
  refine ROps.l (r := AV.nilsl) rfl rfl rfl (LOp.assign rfl rfl) ?_
  refine ROps.nil ?_
  refine RunC.seq ?_
  refine RunC.regionW ?_
  refine ROps.d (r := AV.oref 0 1 0 0) (fs := [(0, (([] : List F).map AV.f32))]) (Γ' := [⟨1, some (([] : List F).map AV.f32)⟩, ⟨0, none⟩]) rfl rfl rfl (TOp.buildSlice_o (g := ⟨0, none⟩) (za := AV.f32 (some 0)) (qs := []) 0 rfl und22 siz25 zer25 rfl zel25 rfl rfl trivial rfl) rfl ?_
  refine ROps.l (r := AV.oref 0 1 0 0) rfl rfl rfl (LOp.assign rfl rfl) ?_
  refine ROps.nil ?_
  refine RunC.seq ?_
  refine RunC.seq ?_
  refine RunC.regionW ?_
  refine ROps.l (r := AV.ptr [AV.i64 a0, AV.i64 a1, AV.sl a2.length (a2.map AV.f32)]) rfl rfl rfl (LOp.fap und27 rfl siz2 rfl rfl rfl) ?_
  refine ROps.l (r := AV.i64 a0) rfl rfl rfl (LOp.load1 agg2 rfl rfl) ?_
  refine ROps.l (r := AV.i64 0) rfl rfl rfl (LOp.move rfl rfl) ?_
  refine ROps.nil ?_
  obtain ⟨z2, hz_2, h⟩ := obind_some h
  refine RunC.cutN (fun τ Γ => ∃ (L9 : List F) (u7 : Nat) (u8 : Nat), WeakLe τ [(5, AV.oref 0 u7 0 L9.length)] ∧ DeadLe Γ [⟨u7, some (L9.map AV.f32)⟩, ⟨u8, none⟩] ∧ z2 = .inl L9) ?_ ?_
  · refine RunC.block (RunC.loop (RunL.loopM (x := z2) (i_Matrix_column_s1 a0 a1 a2 a3) (fun (s : (List F) × Int) τ Γ => ∃ (u1 : Nat) (u2 : Nat), WeakLe τ [(1, AV.i64 a3), (2, AV.ptr [AV.i64 a0, AV.i64 a1, AV.sl a2.length (a2.map AV.f32)]), (5, AV.oref 0 u1 0 s.1.length), (9, AV.i64 a0), (10, AV.i64 s.2)] ∧ DeadLe Γ [⟨u1, some (s.1.map AV.f32)⟩, ⟨u2, none⟩]) ?_ _ _ _ hz_2 ⟨1, 0, ⟨(ALe.refl _), (ALe.refl _), (ALe.refl _), (ALe.refl _), (ALe.refl _), trivial⟩, ⟨⟨rfl, .inr rfl⟩, ⟨rfl, .inl rfl⟩, trivial⟩⟩))
    rintro ⟨L3, v4⟩ τ2 Γ2 y2_ ⟨u1, u2, hw2, hd2⟩ h2_ ho2 hr2
    refine RunC.wl (τ' := [(1, AV.i64 a3), (2, AV.ptr [AV.i64 a0, AV.i64 a1, AV.sl a2.length (a2.map AV.f32)]), (5, AV.oref 0 u1 0 L3.length), (9, AV.i64 a0), (10, AV.i64 v4)]) (Γ' := [⟨u1, some (L3.map AV.f32)⟩, ⟨u2, none⟩]) hw2 hd2 ?_
    replace h2_ : i_Matrix_column_b1 a0 a1 a2 a3 L3 v4 = some y2_ := h2_
    unfold i_Matrix_column_b1 at h2_
    refine RunC.seq ?_
    rcases bsel_some h2_ with ⟨hc1, h2_⟩ | ⟨hc1, h2_⟩
    · refine RunC.regionW ?_
      refine ROps.l (r := AV.b true) rfl rfl rfl (LOp.eqb (LOp.lss rfl rfl rfl) hc1) ?_
      refine ROps.nil ?_
      refine RunC.seq ?_
      refine RunC.cond_true rfl rfl ?_
      refine RunC.skip ?_
      refine RunC.seq ?_
      refine RunC.block ?_
      refine RunC.seq ?_
      refine RunC.regionW ?_
      refine ROps.l (r := AV.i64 v4) rfl rfl rfl (LOp.move rfl rfl) ?_
      refine ROps.l (r := AV.i64 v4) rfl rfl rfl (LOp.assign rfl rfl) ?_
      refine ROps.nil ?_
      obtain ⟨r5, hf2, h2_⟩ := obind_some h2_
      obtain ⟨hm3, h2_⟩ := need_some h2_
      refine RunC.regionW ?_
      refine ROps.l (r := AV.oref 0 u1 0 L3.length) rfl rfl rfl (LOp.move rfl rfl) ?_
      refine ROps.l (r := AV.agg [AV.i64 a0, AV.i64 a1, AV.sl a2.length (a2.map AV.f32)]) rfl rfl rfl (LOp.loadAgg agg27 siz27 rfl rfl rfl rfl) ?_
      refine ROps.l (r := AV.i64 v4) rfl rfl rfl (LOp.move rfl rfl) ?_
      refine ROps.l (r := AV.i64 a3) rfl rfl rfl (LOp.move rfl rfl) ?_
      refine ROps.d (r := AV.f32 r5) (fs := []) (Γ' := [⟨u1, some (L3.map AV.f32)⟩, ⟨u2, none⟩]) rfl rfl rfl (TOp.callB (CallAs.func ent51 rfl rfl) (Bors.cons (Bor.agg (Bors.cons (Bor.pure rfl) (Bors.cons (Bor.pure rfl) (Bors.cons (Bor.sl (fun _ => rfl)) Bors.nil)))) (Bors.cons (Bor.pure rfl) (Bors.cons (Bor.pure rfl) Bors.nil))) rfl rfl (i_Matrix_at_ok a0 a1 a2 v4 a3 r5 hf2)) rfl ?_
      refine ROps.d (r := AV.oref 1 (u2 + 1) 0 1) (fs := [(1, (([r5] : List F).map AV.f32))]) (Γ' := [⟨u1, some (L3.map AV.f32)⟩, ⟨(u2 + 1), some (([r5] : List F).map AV.f32)⟩]) rfl rfl rfl (TOp.buildSlice_o (g := ⟨u2, none⟩) (za := AV.f32 (some 0)) (qs := [(0, [AV.f32 r5])]) 1 rfl und22 siz25 zer25 rfl zel25 rfl rfl ⟨rfl, ⟨_, ALe.refl _, rfl⟩, trivial⟩ rfl) rfl ?_
      refine ROps.app (f := AV.f32) (xs := L3) (ys := ([r5] : List F)) (Γ' := [⟨(u1 + 1), some ((L3 ++ ([r5] : List F)).map AV.f32)⟩, ⟨(u2 + 1), some (([r5] : List F).map AV.f32)⟩]) rfl pun22 inf25 rfl rfl rfl rfl rfl rfl rfl rfl rfl (by simp) (ReadAs.own rfl (by simp)) (ones_map (fun _ => rfl)) (ap_by hm3) (ap_mx hm3) rfl ?_
      refine ROps.l (r := AV.oref 0 (u1 + 1) 0 (L3.length + 1)) rfl rfl rfl (LOp.assign rfl rfl) ?_
      refine ROps.nil ?_
      refine RunC.wl (τ' := [(1, AV.i64 a3), (2, AV.ptr [AV.i64 a0, AV.i64 a1, AV.sl a2.length (a2.map AV.f32)]), (5, AV.oref 0 (u1 + 1) 0 (L3.length + 1)), (9, AV.i64 a0), (10, AV.i64 v4)]) (Γ' := [⟨(u1 + 1), some ((L3 ++ ([r5] : List F)).map AV.f32)⟩, ⟨(u2 + 1), none⟩]) ⟨(ALe.refl _), (ALe.refl _), (ALe.refl _), (ALe.refl _), (ALe.refl _), trivial⟩ ⟨⟨rfl, .inr rfl⟩, ⟨rfl, .inl rfl⟩, trivial⟩ ?_
      obtain ⟨x6, hx4, h2_⟩ := olet_some h2_
      refine RunC.regionW ?_
      refine ROps.l (r := AV.i64 x6) rfl rfl rfl (LOp.eqr (LOp.add rfl rfl rfl) (congrArg (AV.ik .i64) hx4)) ?_
      refine ROps.l (r := AV.i64 x6) rfl rfl rfl (LOp.move rfl rfl) ?_
      refine ROps.nil ?_
      cases Option.some.inj h2_
      exact ⟨_, rfl, (u1 + 1), (u2 + 1), ⟨(ALe.refl _), (ALe.refl _), (ALe.eq (by rw [(app_len rfl rfl)] <;> rfl)), (ALe.refl _), (ALe.refl _), trivial⟩, ⟨⟨rfl, .inr rfl⟩, ⟨rfl, .inl rfl⟩, trivial⟩⟩
    · refine RunC.regionW ?_
      refine ROps.l (r := AV.b false) rfl rfl rfl (LOp.eqb (LOp.lss rfl rfl rfl) hc1) ?_
      refine ROps.nil ?_
      refine RunC.seq ?_
      refine RunC.cond_false rfl rfl ?_
      refine RunC.exit ?_
      cases Option.some.inj h2_
      have hx := ho2 _ rfl
      exact ⟨L3, u1, u2, ⟨(ALe.refl _), trivial⟩, ⟨⟨rfl, .inr rfl⟩, ⟨rfl, .inl rfl⟩, trivial⟩, hx⟩
  · rintro τ3 Γ3 ⟨L9, u7, u8, hw3, hd3, rfl⟩
    refine RunC.wl (τ' := [(5, AV.oref 0 u7 0 L9.length)]) (Γ' := [⟨u7, some (L9.map AV.f32)⟩, ⟨u8, none⟩]) hw3 hd3 ?_
    replace h : i_Matrix_column_k1 L9 = some q0 := h
    unfold i_Matrix_column_k1 at h
    refine RunC.seq ?_
    refine RunC.regionW ?_
    refine ROps.l (r := AV.oref 0 u7 0 L9.length) rfl rfl rfl (LOp.move rfl rfl) ?_
    refine ROps.l (r := AV.oref 0 u7 0 L9.length) rfl rfl rfl (LOp.assign rfl rfl) ?_
    refine ROps.nil ?_
    refine RunC.ret ?_
    have hq := Option.some.inj h
    subst q0
    exact bodyQ.mk (r' := AV.oref 0 u7 0 L9.length) [(0, u7)] (.inr rfl) rfl (show List.Nodup [0] from by decide) (by simp [AV.ren, AV.rens, sigma]) rfl (Res.one rfl (RV.tmp rfl)) (SelL.arr0 (f := AV.f32) (fun _ => rfl) rfl trivial)
noncomputable def i_mul (a0 : F) (a1 : F) : Option (F) :=
  olet (fop .mul .f32 a0 a1) fun (x1 : F) =>
  some x1
theorem i_mul_ok (a0 : F) (a1 : F) (q0 : F) (h : i_mul a0 a1 = some q0) : Ev Try.prog 54 [AV.f32 a0, AV.f32 a1] [] (AV.f32 q0) [] := by
  refine Ev.start Try.func54 rfl rfl 0 (τ := [(0, AV.f32 a0), (1, AV.f32 a1)]) rfl (Γ' := []) rfl (n := 8) rfl (g := 0) rfl ?_
  unfold i_mul at h
  refine RunC.seq ?_
  refine RunC.regionW ?_
  refine ROps.l (r := AV.f32 (some 0)) rfl rfl rfl (LOp.le (LOp.assign rfl rfl) (ALe.fl (by kernel_rfl) (by kernel_rfl))) ?_
  refine ROps.nil ?_
  refine RunC.seq ?_
  obtain ⟨x1, hx1, h⟩ := olet_some h
  refine RunC.regionW ?_
  refine ROps.l (r := AV.f32 a0) rfl rfl rfl (LOp.move rfl rfl) ?_
  refine ROps.l (r := AV.f32 a1) rfl rfl rfl (LOp.move rfl rfl) ?_
  refine ROps.d (r := AV.f32 x1) (fs := []) (Γ' := []) rfl rfl rfl (TOp.eqr (TOp.fop (.inr (.inr (.inl rfl))) rfl (OpF.tmp rfl) (OpF.tmp rfl)) (congrArg (AV.f .f32) hx1)) rfl ?_
  refine ROps.l (r := AV.f32 x1) rfl rfl rfl (LOp.assign rfl rfl) ?_
  refine ROps.nil ?_
  refine RunC.ret ?_
  have hq := Option.some.inj h
  subst q0
  exact bodyQ.pure (.inr rfl) rfl (Res.one rfl (RV.tmp rfl))
end Go.Proofs.Ytjbifkimffmhpaa
