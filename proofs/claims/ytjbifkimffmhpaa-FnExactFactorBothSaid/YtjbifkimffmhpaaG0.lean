/- Generated. -/
import Derived.Test.YtjbifkimffmhpaaTys
namespace Go.Proofs.Ytjbifkimffmhpaa
open Go Go.AM
set_option maxRecDepth 20000
set_option maxHeartbeats 4000000
set_option linter.unusedVariables false
set_option linter.unusedSimpArgs false
noncomputable def w_szFloat32S (a0 : List F) (a1 : Int) : Option (Int) :=
  olet (IntKind.i64.wrap (a1 - (a0.length : Int))) fun (x1 : Int) =>
  bsel (decide (x1 < 0)) (
    some (-1)) (
    some x1)
theorem w_szFloat32S_ok (a0 : List F) (a1 : Int) (q0 : Int) (h : w_szFloat32S a0 a1 = some q0) : Ev Try.prog 36 [AV.sl a0.length (a0.map AV.f32), AV.i64 a1] [] (AV.i64 q0) [] := by
  refine Ev.start Try.func36 rfl rfl 0 (τ := [(0, AV.sl a0.length (a0.map AV.f32)), (1, AV.i64 a1)]) rfl (Γ' := []) rfl (n := 12) rfl (g := 0) rfl ?_
  unfold w_szFloat32S at h
  refine RunC.seq ?_
  refine RunC.regionW ?_
  refine ROps.l (r := AV.i64 0) rfl rfl rfl (LOp.assign rfl rfl) ?_
  refine ROps.nil ?_
  refine RunC.seq ?_
  obtain ⟨x1, hx1, h⟩ := olet_some h
  refine RunC.regionW ?_
  refine ROps.l (r := AV.i64 a1) rfl rfl rfl (LOp.move rfl rfl) ?_
  refine ROps.l (r := AV.sl a0.length (a0.map AV.f32)) rfl rfl rfl (LOp.move rfl rfl) ?_
  refine ROps.l (r := AV.i64 (a0.length : Int)) rfl rfl rfl (LOp.len_sl und22 rfl rfl) ?_
  refine ROps.l (r := AV.i64 x1) rfl rfl rfl (LOp.eqr (LOp.sub rfl rfl rfl) (congrArg (AV.ik .i64) hx1)) ?_
  refine ROps.l (r := AV.i64 x1) rfl rfl rfl (LOp.assign rfl rfl) ?_
  refine ROps.nil ?_
  refine RunC.seq ?_
  refine RunC.seq ?_
  rcases bsel_some h with ⟨hc2, h⟩ | ⟨hc2, h⟩
  · refine RunC.regionW ?_
    refine ROps.l (r := AV.i64 x1) rfl rfl rfl (LOp.move rfl rfl) ?_
    refine ROps.l (r := AV.b true) rfl rfl rfl (LOp.eqb (LOp.lss rfl rfl rfl) hc2) ?_
    refine ROps.nil ?_
    refine RunC.cond_true rfl rfl ?_
    refine RunC.seq ?_
    refine RunC.regionW ?_
    refine ROps.l (r := AV.i64 (-1)) rfl rfl rfl (LOp.assign rfl rfl) ?_
    refine ROps.nil ?_
    refine RunC.ret ?_
    have hq := Option.some.inj h
    subst q0
    exact bodyQ.pure (.inr rfl) rfl (Res.one rfl (RV.tmp rfl))
  · refine RunC.regionW ?_
    refine ROps.l (r := AV.i64 x1) rfl rfl rfl (LOp.move rfl rfl) ?_
    refine ROps.l (r := AV.b false) rfl rfl rfl (LOp.eqb (LOp.lss rfl rfl rfl) hc2) ?_
    refine ROps.nil ?_
    refine RunC.cond_false rfl rfl ?_
    refine RunC.skip ?_
    refine RunC.seq ?_
    refine RunC.regionW ?_
    refine ROps.l (r := AV.i64 x1) rfl rfl rfl (LOp.move rfl rfl) ?_
    refine ROps.l (r := AV.i64 x1) rfl rfl rfl (LOp.assign rfl rfl) ?_
    refine ROps.nil ?_
    refine RunC.ret ?_
    have hq := Option.some.inj h
    subst q0
    exact bodyQ.pure (.inr rfl) rfl (Res.one rfl (RV.tmp rfl))
noncomputable def w_szMatrix (a0 : Int) (a1 : Int) (a2 : List F) (a3 : Int) : Option (Int) :=
  obind (w_szFloat32S a2 a3) fun (r1 : Int) =>
  bsel (decide (r1 < 0)) (
    some (-1)) (
    some r1)
theorem w_szMatrix_ok (a0 : Int) (a1 : Int) (a2 : List F) (a3 : Int) (q0 : Int) (h : w_szMatrix a0 a1 a2 a3 = some q0) : Ev Try.prog 9 [AV.agg [AV.i64 a0, AV.i64 a1, AV.sl a2.length (a2.map AV.f32)], AV.i64 a3] [] (AV.i64 q0) [] := by
  refine Ev.start Try.func9 rfl rfl 0 (τ := [(0, AV.agg [AV.i64 a0, AV.i64 a1, AV.sl a2.length (a2.map AV.f32)]), (1, AV.i64 a3)]) rfl (Γ' := []) rfl (n := 12) rfl (g := 0) rfl ?_
  unfold w_szMatrix at h
  refine RunC.seq ?_
  refine RunC.regionW ?_
  refine ROps.d (r := AV.ptr [AV.i64 a0, AV.i64 a1, AV.sl a2.length (a2.map AV.f32)]) (fs := []) (Γ' := []) rfl rfl rfl (TOp.box_s rfl rfl rfl) rfl ?_
  refine ROps.l (r := AV.i64 0) rfl rfl rfl (LOp.assign rfl rfl) ?_
  refine ROps.nil ?_
  refine RunC.seq ?_
  obtain ⟨r1, hf1, h⟩ := obind_some h
  refine RunC.regionW ?_
  refine ROps.l (r := AV.ptr [AV.sl a2.length (a2.map AV.f32)]) rfl rfl rfl (LOp.fap und24 rfl siz22 rfl rfl rfl) ?_
  refine ROps.l (r := AV.sl a2.length (a2.map AV.f32)) rfl rfl rfl (LOp.load1 agg22 rfl rfl) ?_
  refine ROps.l (r := AV.i64 a3) rfl rfl rfl (LOp.move rfl rfl) ?_
  refine ROps.d (r := AV.i64 r1) (fs := []) (Γ' := []) rfl rfl rfl (TOp.callB (CallAs.func ent36 rfl rfl) (Bors.cons (Bor.sl (fun _ => rfl)) (Bors.cons (Bor.pure rfl) Bors.nil)) rfl rfl (w_szFloat32S_ok a2 a3 r1 hf1)) rfl ?_
  refine ROps.l (r := AV.i64 r1) rfl rfl rfl (LOp.assign rfl rfl) ?_
  refine ROps.nil ?_
  refine RunC.seq ?_
  refine RunC.seq ?_
  rcases bsel_some h with ⟨hc2, h⟩ | ⟨hc2, h⟩
  · refine RunC.regionW ?_
    refine ROps.l (r := AV.i64 r1) rfl rfl rfl (LOp.move rfl rfl) ?_
    refine ROps.l (r := AV.b true) rfl rfl rfl (LOp.eqb (LOp.lss rfl rfl rfl) hc2) ?_
    refine ROps.nil ?_
    refine RunC.cond_true rfl rfl ?_
    refine RunC.seq ?_
    refine RunC.regionW ?_
    refine ROps.l (r := AV.i64 (-1)) rfl rfl rfl (LOp.assign rfl rfl) ?_
    refine ROps.nil ?_
    refine RunC.ret ?_
    have hq := Option.some.inj h
    subst q0
    exact bodyQ.pure (.inr rfl) rfl (Res.one rfl (RV.tmp rfl))
  · refine RunC.regionW ?_
    refine ROps.l (r := AV.i64 r1) rfl rfl rfl (LOp.move rfl rfl) ?_
    refine ROps.l (r := AV.b false) rfl rfl rfl (LOp.eqb (LOp.lss rfl rfl rfl) hc2) ?_
    refine ROps.nil ?_
    refine RunC.cond_false rfl rfl ?_
    refine RunC.skip ?_
    refine RunC.seq ?_
    refine RunC.regionW ?_
    refine ROps.l (r := AV.i64 r1) rfl rfl rfl (LOp.move rfl rfl) ?_
    refine ROps.l (r := AV.i64 r1) rfl rfl rfl (LOp.assign rfl rfl) ?_
    refine ROps.nil ?_
    refine RunC.ret ?_
    have hq := Option.some.inj h
    subst q0
    exact bodyQ.pure (.inr rfl) rfl (Res.one rfl (RV.tmp rfl))
noncomputable def w_toFloat32S_b1 (a0 : List F) (L1 : List F) (v3 : Int) : Option (LR ((List F) × Int) ((List F)) ((List F))) :=
  bsel (decide (v3 < (a0.length : Int))) (
    obind (at? a0 v3) fun (e4 : F) =>
    obind (setAt? L1 v3 e4) fun (L5 : List F) =>
    olet (IntKind.i64.wrap (v3 + 1)) fun (x6 : Int) =>
    some (LR.next (L5, x6))) (
    some (LR.out L1))
noncomputable def w_toFloat32S_s1 (a0 : List F) : ((List F) × Int) → Option (LR ((List F) × Int) ((List F)) ((List F))) := fun s => w_toFloat32S_b1 a0 s.1 s.2
noncomputable def w_toFloat32S_k1 (L7 : List F) : Option ((List F)) :=
  some L7
noncomputable def w_toFloat32S (a0 : List F) : Option ((List F)) :=
  need (mkok 4 (a0.length : Int)) <|
  obind (loopM (w_toFloat32S_s1 a0) ((List.replicate (a0.length : Int).toNat (some 0)), 0)) fun z => osum z (fun e => w_toFloat32S_k1 e) (fun r => some r)
theorem w_toFloat32S_ok (a0 : List F) (q0 : List F) (h : w_toFloat32S a0 = some q0) : Ev Try.prog 44 [AV.sl a0.length (a0.map AV.f32)] [] (AV.oref 0 0 0 q0.length) [⟨0, some (q0.map AV.f32)⟩] := by
  refine Ev.start Try.func44 rfl rfl 1 (τ := [(0, AV.sl a0.length (a0.map AV.f32))]) rfl (Γ' := [⟨0, none⟩]) rfl (n := 22) rfl (g := 0) rfl ?_
  unfold w_toFloat32S at h
  refine RunC.seq ?_
  refine RunC.regionW ?_
  refine ROps.l (r := AV.nilsl) rfl rfl rfl (LOp.assign rfl rfl) ?_
  refine ROps.nil ?_
  refine RunC.seq ?_
  obtain ⟨hm1, h⟩ := need_some h
  refine RunC.regionW ?_
  refine ROps.l (r := AV.sl a0.length (a0.map AV.f32)) rfl rfl rfl (LOp.move rfl rfl) ?_
  refine ROps.l (r := AV.i64 (a0.length : Int)) rfl rfl rfl (LOp.len_sl und22 rfl rfl) ?_
  refine ROps.d (r := AV.oref 0 1 0 ((a0.length : Int).toNat)) (fs := [(0, ((List.replicate (a0.length : Int).toNat (some 0)).map AV.f32))]) (Γ' := [⟨1, some ((List.replicate (a0.length : Int).toNat (some 0)).map AV.f32)⟩]) rfl rfl rfl (TOp.mkS (g := ⟨0, none⟩) (t := 22) (e := 25) (by_ := 4) (f := AV.f32) (zv := some 0) 0 rfl und22 tin25 rfl siz25 zer25 rfl zel25 rfl rfl rfl hm1) rfl ?_
  refine ROps.l (r := AV.oref 0 1 0 ((a0.length : Int).toNat)) rfl rfl rfl (LOp.assign rfl rfl) ?_
  refine ROps.nil ?_
  refine RunC.seq ?_
  refine RunC.seq ?_
  refine RunC.regionW ?_
  refine ROps.l (r := AV.i64 0) rfl rfl rfl (LOp.assign rfl rfl) ?_
  refine ROps.nil ?_
  obtain ⟨z2, hz_2, h⟩ := obind_some h
  refine RunC.cutN (fun τ Γ => ∃ (L7 : List F), L7.length = (a0.length : Int).toNat ∧ WeakLe τ [(3, AV.oref 0 1 0 ((a0.length : Int).toNat))] ∧ DeadLe Γ [⟨1, some (L7.map AV.f32)⟩] ∧ z2 = .inl L7) ?_ ?_
  · refine RunC.block (RunC.loop (RunL.loopM (x := z2) (w_toFloat32S_s1 a0) (fun (s : (List F) × Int) τ Γ => s.1.length = (a0.length : Int).toNat ∧ WeakLe τ [(0, AV.sl a0.length (a0.map AV.f32)), (3, AV.oref 0 1 0 ((a0.length : Int).toNat)), (4, AV.i64 s.2)] ∧ DeadLe Γ [⟨1, some (s.1.map AV.f32)⟩]) ?_ _ _ _ hz_2 ⟨List.length_replicate, ⟨(ALe.refl _), (ALe.refl _), (ALe.refl _), trivial⟩, ⟨⟨rfl, .inr rfl⟩, trivial⟩⟩))
    rintro ⟨L1, v3⟩ τ2 Γ2 y2_ ⟨hl2, hw2, hd2⟩ h2_ ho2 hr2
    refine RunC.wl (τ' := [(0, AV.sl a0.length (a0.map AV.f32)), (3, AV.oref 0 1 0 ((a0.length : Int).toNat)), (4, AV.i64 v3)]) (Γ' := [⟨1, some (L1.map AV.f32)⟩]) hw2 hd2 ?_
    replace hl2 : L1.length = (a0.length : Int).toNat := hl2
    replace h2_ : w_toFloat32S_b1 a0 L1 v3 = some y2_ := h2_
    unfold w_toFloat32S_b1 at h2_
    refine RunC.seq ?_
    refine RunC.seq ?_
    rcases bsel_some h2_ with ⟨hc2, h2_⟩ | ⟨hc2, h2_⟩
    · refine RunC.regionW ?_
      refine ROps.l (r := AV.i64 v3) rfl rfl rfl (LOp.move rfl rfl) ?_
      refine ROps.l (r := AV.sl a0.length (a0.map AV.f32)) rfl rfl rfl (LOp.move rfl rfl) ?_
      refine ROps.l (r := AV.i64 (a0.length : Int)) rfl rfl rfl (LOp.len_sl und22 rfl rfl) ?_
      refine ROps.l (r := AV.b true) rfl rfl rfl (LOp.eqb (LOp.lss rfl rfl rfl) hc2) ?_
      refine ROps.nil ?_
      refine RunC.cond_true rfl rfl ?_
      refine RunC.skip ?_
      refine RunC.seq ?_
      refine RunC.block ?_
      obtain ⟨e4, he3, h2_⟩ := obind_some h2_
      obtain ⟨L5, he4, h2_⟩ := obind_some h2_
      refine RunC.regionW ?_
      refine ROps.l (r := AV.oref 0 1 0 ((a0.length : Int).toNat)) rfl rfl rfl (LOp.move rfl rfl) ?_
      refine ROps.l (r := AV.i64 v3) rfl rfl rfl (LOp.move rfl rfl) ?_
      refine ROps.l (r := AV.sl a0.length (a0.map AV.f32)) rfl rfl rfl (LOp.move rfl rfl) ?_
      refine ROps.l (r := AV.i64 v3) rfl rfl rfl (LOp.move rfl rfl) ?_
      refine ROps.l (r := AV.ptr [AV.f32 e4]) rfl rfl rfl (LOp.le (LOp.ix (f := AV.f32) und22 siz25 rfl rfl rfl rfl he3) ALe.ptr) ?_
      refine ROps.l (r := AV.f32 e4) rfl rfl rfl (LOp.load1 agg25 rfl rfl) ?_
      refine ROps.d (r := AV.optr 0 1 v3.toNat) (fs := []) (Γ' := [⟨1, some (L1.map AV.f32)⟩]) rfl rfl rfl (TOp.ixo und22 siz25 rfl rfl rfl (set_in he4 hl2) rfl) rfl ?_
      refine ROps.st (f := AV.f32) (i := v3) (Γ' := [⟨1, some (L5.map AV.f32)⟩]) rfl siz25 rfl rfl rfl (ALe.refl _) rfl rfl rfl he4 rfl ?_
      refine ROps.nil ?_
      obtain ⟨x6, hx5, h2_⟩ := olet_some h2_
      refine RunC.regionW ?_
      refine ROps.l (r := AV.i64 v3) rfl rfl rfl (LOp.move rfl rfl) ?_
      refine ROps.l (r := AV.i64 x6) rfl rfl rfl (LOp.eqr (LOp.add rfl rfl rfl) (congrArg (AV.ik .i64) hx5)) ?_
      refine ROps.l (r := AV.i64 x6) rfl rfl rfl (LOp.assign rfl rfl) ?_
      refine ROps.nil ?_
      cases Option.some.inj h2_
      exact ⟨_, rfl, ((setAt?_len he4).trans hl2), ⟨(ALe.refl _), (ALe.refl _), (ALe.refl _), trivial⟩, ⟨⟨rfl, .inr rfl⟩, trivial⟩⟩
    · refine RunC.regionW ?_
      refine ROps.l (r := AV.i64 v3) rfl rfl rfl (LOp.move rfl rfl) ?_
      refine ROps.l (r := AV.sl a0.length (a0.map AV.f32)) rfl rfl rfl (LOp.move rfl rfl) ?_
      refine ROps.l (r := AV.i64 (a0.length : Int)) rfl rfl rfl (LOp.len_sl und22 rfl rfl) ?_
      refine ROps.l (r := AV.b false) rfl rfl rfl (LOp.eqb (LOp.lss rfl rfl rfl) hc2) ?_
      refine ROps.nil ?_
      refine RunC.cond_false rfl rfl ?_
      refine RunC.exit ?_
      cases Option.some.inj h2_
      have hx := ho2 _ rfl
      exact ⟨L1, hl2, ⟨(ALe.refl _), trivial⟩, ⟨⟨rfl, .inr rfl⟩, trivial⟩, hx⟩
  · rintro τ3 Γ3 ⟨L7, hl8, hw3, hd3, rfl⟩
    refine RunC.wl (τ' := [(3, AV.oref 0 1 0 ((a0.length : Int).toNat))]) (Γ' := [⟨1, some (L7.map AV.f32)⟩]) hw3 hd3 ?_
    replace h : w_toFloat32S_k1 L7 = some q0 := h
    unfold w_toFloat32S_k1 at h
    refine RunC.seq ?_
    refine RunC.regionW ?_
    refine ROps.l (r := AV.oref 0 1 0 ((a0.length : Int).toNat)) rfl rfl rfl (LOp.move rfl rfl) ?_
    refine ROps.l (r := AV.oref 0 1 0 ((a0.length : Int).toNat)) rfl rfl rfl (LOp.assign rfl rfl) ?_
    refine ROps.nil ?_
    refine RunC.ret ?_
    have hq := Option.some.inj h
    subst q0
    exact bodyQ.mk (r' := AV.oref 0 1 0 L7.length) [(0, 1)] (.inr rfl) rfl (show List.Nodup [0] from by decide) rfl rfl (Res.eq (Res.one rfl (RV.tmp rfl)) (by rw [(show L7.length = (a0.length : Int).toNat from hl8)] <;> rfl)) (SelL.arr0 (f := AV.f32) (fun _ => rfl) rfl trivial)
noncomputable def w_toMatrix (a0 : Int) (a1 : Int) (a2 : List F) : Option (Int × Int × (List F)) :=
  obind (w_toFloat32S a2) fun (r1 : List F) =>
  some (a0, a1, r1)
theorem w_toMatrix_ok (a0 : Int) (a1 : Int) (a2 : List F) (q0 : Int) (q1 : Int) (q2 : List F) (h : w_toMatrix a0 a1 a2 = some (q0, q1, q2)) : Ev Try.prog 11 [AV.agg [AV.i64 a0, AV.i64 a1, AV.sl a2.length (a2.map AV.f32)]] [] (AV.agg [AV.i64 q0, AV.i64 q1, AV.oref 0 0 0 q2.length]) [⟨0, some (q2.map AV.f32)⟩] := by
  refine Ev.start Try.func11 rfl rfl 3 (τ := [(0, AV.agg [AV.i64 a0, AV.i64 a1, AV.sl a2.length (a2.map AV.f32)])]) rfl (Γ' := [⟨0, none⟩, ⟨0, none⟩, ⟨0, none⟩]) rfl (n := 15) rfl (g := 0) rfl ?_
  unfold w_toMatrix at h
  refine RunC.seq ?_
  refine RunC.regionW ?_
  refine ROps.d (r := AV.ptr [AV.i64 a0, AV.i64 a1, AV.sl a2.length (a2.map AV.f32)]) (fs := []) (Γ' := [⟨0, none⟩, ⟨0, none⟩, ⟨0, none⟩]) rfl rfl rfl (TOp.box_s rfl rfl rfl) rfl ?_
  refine ROps.d (r := AV.optr 0 1 0) (fs := [(0, [AV.i64 0, AV.i64 0, AV.nilsl])]) (Γ' := [⟨1, some [AV.i64 0, AV.i64 0, AV.nilsl]⟩, ⟨0, none⟩, ⟨0, none⟩]) rfl rfl rfl (TOp.alloc_o (g := ⟨0, none⟩) 0 rfl zer27 zok27 rfl) rfl ?_
  refine ROps.nil ?_
  refine RunC.seq ?_
  refine RunC.regionW ?_
  refine ROps.d (r := AV.optr 1 1 0) (fs := [(1, [AV.i64 0, AV.i64 0, AV.nilsl])]) (Γ' := [⟨1, some [AV.i64 0, AV.i64 0, AV.nilsl]⟩, ⟨1, some [AV.i64 0, AV.i64 0, AV.nilsl]⟩, ⟨0, none⟩]) rfl rfl rfl (TOp.alloc_o (g := ⟨0, none⟩) 1 rfl zer27 zok27 rfl) rfl ?_
  refine ROps.nil ?_
  refine RunC.seq ?_
  refine RunC.regionW ?_
  refine ROps.l (r := AV.ptr [AV.i64 a0, AV.i64 a1, AV.sl a2.length (a2.map AV.f32)]) rfl rfl rfl (LOp.fap und24 rfl siz2 rfl rfl rfl) ?_
  refine ROps.l (r := AV.i64 a0) rfl rfl rfl (LOp.load1 agg2 rfl rfl) ?_
  refine ROps.l (r := AV.optr 1 1 0) rfl rfl rfl (LOp.fao und27 rfl siz2 rfl rfl rfl) ?_
  refine ROps.store_le (r := AV.i64 a0) (l' := [AV.i64 a0, AV.i64 0, AV.nilsl]) (Γ' := [⟨1, some [AV.i64 0, AV.i64 0, AV.nilsl]⟩, ⟨1, some [AV.i64 a0, AV.i64 0, AV.nilsl]⟩, ⟨0, none⟩]) rfl siz2 rfl rfl rfl (ALe.refl _) rfl rfl rfl rfl (Nat.le_of_ble_eq_true rfl) rfl rfl ?_
  refine ROps.nil ?_
  refine RunC.seq ?_
  refine RunC.regionW ?_
  refine ROps.l (r := AV.ptr [AV.i64 a1, AV.sl a2.length (a2.map AV.f32)]) rfl rfl rfl (LOp.fap und24 rfl siz2 rfl rfl rfl) ?_
  refine ROps.l (r := AV.i64 a1) rfl rfl rfl (LOp.load1 agg2 rfl rfl) ?_
  refine ROps.l (r := AV.optr 1 1 1) rfl rfl rfl (LOp.fao und27 rfl siz2 rfl rfl rfl) ?_
  refine ROps.store_le (r := AV.i64 a1) (l' := [AV.i64 a0, AV.i64 a1, AV.nilsl]) (Γ' := [⟨1, some [AV.i64 0, AV.i64 0, AV.nilsl]⟩, ⟨1, some [AV.i64 a0, AV.i64 a1, AV.nilsl]⟩, ⟨0, none⟩]) rfl siz2 rfl rfl rfl (ALe.refl _) rfl rfl rfl rfl (Nat.le_of_ble_eq_true rfl) rfl rfl ?_
  refine ROps.nil ?_
  refine RunC.seq ?_
  obtain ⟨r1, hf1, h⟩ := obind_some h
  refine RunC.regionW ?_
  refine ROps.l (r := AV.ptr [AV.sl a2.length (a2.map AV.f32)]) rfl rfl rfl (LOp.fap und24 rfl siz22 rfl rfl rfl) ?_
  refine ROps.l (r := AV.sl a2.length (a2.map AV.f32)) rfl rfl rfl (LOp.load1 agg22 rfl rfl) ?_
  refine ROps.d (r := AV.oref 2 1 0 r1.length) (fs := [(2, (r1.map AV.f32))]) (Γ' := [⟨1, some [AV.i64 0, AV.i64 0, AV.nilsl]⟩, ⟨1, some [AV.i64 a0, AV.i64 a1, AV.nilsl]⟩, ⟨1, some (r1.map AV.f32)⟩]) rfl rfl rfl (TOp.callBN (ls := [(r1.map AV.f32)]) [2] (CallAs.func ent44 rfl rfl) (Bors.cons (Bor.sl (fun _ => rfl)) Bors.nil) rfl (w_toFloat32S_ok a2 r1 hf1) (and_all (lts0_map (f := AV.f32) (fun _ => rfl) _) rfl) (and_all (noss_map (f := AV.f32) (fun _ => rfl) _) rfl) rfl (by decide) (ns_of ⟨⟨_, rfl⟩, trivial⟩)) rfl ?_
  refine ROps.l (r := AV.optr 1 1 2) rfl rfl rfl (LOp.fao und27 rfl siz22 rfl rfl rfl) ?_
  refine ROps.store_le (r := AV.oref 2 1 0 r1.length) (l' := [AV.i64 a0, AV.i64 a1, AV.oref 2 1 0 r1.length]) (Γ' := [⟨1, some [AV.i64 0, AV.i64 0, AV.nilsl]⟩, ⟨1, some [AV.i64 a0, AV.i64 a1, AV.oref 2 1 0 r1.length]⟩, ⟨1, some (r1.map AV.f32)⟩]) rfl siz22 rfl rfl rfl (ALe.refl _) rfl rfl rfl rfl (Nat.le_of_ble_eq_true rfl) rfl rfl ?_
  refine ROps.nil ?_
  refine RunC.seq ?_
  refine RunC.regionW ?_
  refine ROps.d (r := AV.agg [AV.i64 a0, AV.i64 a1, AV.oref 2 1 0 r1.length]) (fs := []) (Γ' := [⟨1, some [AV.i64 0, AV.i64 0, AV.nilsl]⟩, ⟨1, some [AV.i64 a0, AV.i64 a1, AV.oref 2 1 0 r1.length]⟩, ⟨1, some (r1.map AV.f32)⟩]) rfl rfl rfl (TOp.loadAgg_o rfl agg27 siz27 rfl rfl rfl rfl) rfl ?_
  refine ROps.store_le (r := AV.agg [AV.i64 a0, AV.i64 a1, AV.oref 2 1 0 r1.length]) (l' := [AV.i64 a0, AV.i64 a1, AV.oref 2 1 0 r1.length]) (Γ' := [⟨1, some [AV.i64 a0, AV.i64 a1, AV.oref 2 1 0 r1.length]⟩, ⟨1, some [AV.i64 a0, AV.i64 a1, AV.oref 2 1 0 r1.length]⟩, ⟨1, some (r1.map AV.f32)⟩]) rfl siz27 rfl rfl rfl (ALe.refl _) rfl rfl rfl rfl (Nat.le_of_ble_eq_true rfl) rfl rfl ?_
  refine ROps.nil ?_
  refine RunC.ret ?_
  have hq := Option.some.inj h
  obtain ⟨hq0, hq⟩ := Prod.mk.inj hq
  obtain ⟨hq1, hq⟩ := Prod.mk.inj hq
  subst q0
  subst q1
  subst q2
  exact bodyQ.mk (r' := AV.agg [AV.i64 a0, AV.i64 a1, AV.oref 2 1 0 r1.length]) [(2, 1)] (.inr rfl) rfl (show List.Nodup [2] from by decide) rfl rfl (Res.one rfl (RV.cell agg27 siz27 rfl rfl rfl rfl)) (SelL.arr0 (f := AV.f32) (fun _ => rfl) rfl trivial)
noncomputable def s_l00In (a0 : Int) (a1 : Int) (a2 : Int) : Option (Bool) :=
  bsel (decide (a1 ≤ a0)) (
    some (decide (a0 ≤ a2))) (
    some false)
theorem s_l00In_ok (a0 : Int) (a1 : Int) (a2 : Int) (q0 : Bool) (h : s_l00In a0 a1 a2 = some q0) : Ev Try.prog 39 [AV.i64 a0, AV.i64 a1, AV.i64 a2] [] (AV.b q0) [] := by
  refine Ev.start Try.func39 rfl rfl 0 (τ := [(0, AV.i64 a0), (1, AV.i64 a1), (2, AV.i64 a2)]) rfl (Γ' := []) rfl (n := 15) rfl (g := 0) rfl ?_
  unfold s_l00In at h
  refine RunC.seq ?_
  refine RunC.regionW ?_
  refine ROps.l (r := AV.b false) rfl rfl rfl (LOp.assign rfl rfl) ?_
  refine ROps.nil ?_
  refine RunC.seq ?_
  rcases bsel_some h with ⟨hc1, h⟩ | ⟨hc1, h⟩
  · refine RunC.regionW ?_
    refine ROps.l (r := AV.i64 a0) rfl rfl rfl (LOp.move rfl rfl) ?_
    refine ROps.l (r := AV.i64 a1) rfl rfl rfl (LOp.move rfl rfl) ?_
    refine ROps.l (r := AV.b true) rfl rfl rfl (LOp.eqb (LOp.geq rfl rfl rfl) hc1) ?_
    refine ROps.l (r := AV.b true) rfl rfl rfl (LOp.move rfl rfl) ?_
    refine ROps.l (r := AV.i64 a0) rfl rfl rfl (LOp.move rfl rfl) ?_
    refine ROps.l (r := AV.i64 a2) rfl rfl rfl (LOp.move rfl rfl) ?_
    refine ROps.l (r := AV.b (decide (a0 ≤ a2))) rfl rfl rfl (LOp.leq rfl rfl rfl) ?_
    refine ROps.l (r := AV.b (decide (a0 ≤ a2))) rfl rfl rfl (LOp.pick_true rfl rfl rfl) ?_
    refine ROps.l (r := AV.b (decide (a0 ≤ a2))) rfl rfl rfl (LOp.assign rfl rfl) ?_
    refine ROps.nil ?_
    refine RunC.ret ?_
    have hq := Option.some.inj h
    subst q0
    exact bodyQ.pure (.inr rfl) rfl (Res.one rfl (RV.tmp rfl))
  · refine RunC.regionW ?_
    refine ROps.l (r := AV.i64 a0) rfl rfl rfl (LOp.move rfl rfl) ?_
    refine ROps.l (r := AV.i64 a1) rfl rfl rfl (LOp.move rfl rfl) ?_
    refine ROps.l (r := AV.b false) rfl rfl rfl (LOp.eqb (LOp.geq rfl rfl rfl) hc1) ?_
    refine ROps.l (r := AV.b false) rfl rfl rfl (LOp.move rfl rfl) ?_
    refine ROps.s rfl rfl rfl ?_
    refine ROps.s rfl rfl rfl ?_
    refine ROps.s rfl rfl rfl ?_
    refine ROps.l (r := AV.b false) rfl rfl rfl (LOp.pick_false rfl rfl rfl) ?_
    refine ROps.l (r := AV.b false) rfl rfl rfl (LOp.assign rfl rfl) ?_
    refine ROps.nil ?_
    refine RunC.ret ?_
    have hq := Option.some.inj h
    subst q0
    exact bodyQ.pure (.inr rfl) rfl (Res.one rfl (RV.tmp rfl))
noncomputable def s_l02Sides (a0 : Int) (a1 : Int) : Option (Bool) :=
  obind (s_l00In a0 1 12) fun (r1 : Bool) =>
  bsel r1 (
    obind (s_l00In a1 1 12) fun (r2 : Bool) =>
    some r2) (
    some false)
theorem s_l02Sides_ok (a0 : Int) (a1 : Int) (q0 : Bool) (h : s_l02Sides a0 a1 = some q0) : Ev Try.prog 87 [AV.i64 a0, AV.i64 a1] [] (AV.b q0) [] := by
  refine Ev.start Try.func87 rfl rfl 0 (τ := [(0, AV.i64 a0), (1, AV.i64 a1)]) rfl (Γ' := []) rfl (n := 11) rfl (g := 0) rfl ?_
  unfold s_l02Sides at h
  refine RunC.seq ?_
  refine RunC.regionW ?_
  refine ROps.l (r := AV.b false) rfl rfl rfl (LOp.assign rfl rfl) ?_
  refine ROps.nil ?_
  refine RunC.seq ?_
  obtain ⟨r1, hf1, h⟩ := obind_some h
  rcases bsel_some h with ⟨hc2, h⟩ | ⟨hc2, h⟩
  · obtain ⟨r2, hf3, h⟩ := obind_some h
    refine RunC.regionW ?_
    refine ROps.l (r := AV.i64 a0) rfl rfl rfl (LOp.move rfl rfl) ?_
    refine ROps.d (r := AV.b true) (fs := []) (Γ' := []) rfl rfl rfl (TOp.eqb (TOp.callB (CallAs.func ent39 rfl rfl) (Bors.cons (Bor.pure rfl) (Bors.cons (Bor.pure rfl) (Bors.cons (Bor.pure rfl) Bors.nil))) rfl rfl (s_l00In_ok a0 1 12 r1 hf1)) hc2) rfl ?_
    refine ROps.l (r := AV.b true) rfl rfl rfl (LOp.move rfl rfl) ?_
    refine ROps.l (r := AV.i64 a1) rfl rfl rfl (LOp.move rfl rfl) ?_
    refine ROps.d (r := AV.b r2) (fs := []) (Γ' := []) rfl rfl rfl (TOp.callB (CallAs.func ent39 rfl rfl) (Bors.cons (Bor.pure rfl) (Bors.cons (Bor.pure rfl) (Bors.cons (Bor.pure rfl) Bors.nil))) rfl rfl (s_l00In_ok a1 1 12 r2 hf3)) rfl ?_
    refine ROps.l (r := AV.b r2) rfl rfl rfl (LOp.pick_true rfl rfl rfl) ?_
    refine ROps.l (r := AV.b r2) rfl rfl rfl (LOp.assign rfl rfl) ?_
    refine ROps.nil ?_
    refine RunC.ret ?_
    have hq := Option.some.inj h
    subst q0
    exact bodyQ.pure (.inr rfl) rfl (Res.one rfl (RV.tmp rfl))
  · refine RunC.regionW ?_
    refine ROps.l (r := AV.i64 a0) rfl rfl rfl (LOp.move rfl rfl) ?_
    refine ROps.d (r := AV.b false) (fs := []) (Γ' := []) rfl rfl rfl (TOp.eqb (TOp.callB (CallAs.func ent39 rfl rfl) (Bors.cons (Bor.pure rfl) (Bors.cons (Bor.pure rfl) (Bors.cons (Bor.pure rfl) Bors.nil))) rfl rfl (s_l00In_ok a0 1 12 r1 hf1)) hc2) rfl ?_
    refine ROps.l (r := AV.b false) rfl rfl rfl (LOp.move rfl rfl) ?_
    refine ROps.s rfl rfl rfl ?_
    refine ROps.s rfl rfl rfl ?_
    refine ROps.l (r := AV.b false) rfl rfl rfl (LOp.pick_false rfl rfl rfl) ?_
    refine ROps.l (r := AV.b false) rfl rfl rfl (LOp.assign rfl rfl) ?_
    refine ROps.nil ?_
    refine RunC.ret ?_
    have hq := Option.some.inj h
    subst q0
    exact bodyQ.pure (.inr rfl) rfl (Res.one rfl (RV.tmp rfl))
noncomputable def s_l01Finite (a0 : F) : Option (Bool) :=
  olet (fop .sub .f32 a0 a0) fun (x1 : F) =>
  some (feq .f32 x1 (some 0))
theorem s_l01Finite_ok (a0 : F) (q0 : Bool) (h : s_l01Finite a0 = some q0) : Ev Try.prog 58 [AV.f32 a0] [] (AV.b q0) [] := by
  refine Ev.start Try.func58 rfl rfl 0 (τ := [(0, AV.f32 a0)]) rfl (Γ' := []) rfl (n := 7) rfl (g := 0) rfl ?_
  unfold s_l01Finite at h
  refine RunC.seq ?_
  refine RunC.regionW ?_
  refine ROps.l (r := AV.b false) rfl rfl rfl (LOp.assign rfl rfl) ?_
  refine ROps.nil ?_
  refine RunC.seq ?_
  obtain ⟨x1, hx1, h⟩ := olet_some h
  refine RunC.regionW ?_
  refine ROps.l (r := AV.f32 a0) rfl rfl rfl (LOp.move rfl rfl) ?_
  refine ROps.l (r := AV.f32 a0) rfl rfl rfl (LOp.move rfl rfl) ?_
  refine ROps.d (r := AV.f32 x1) (fs := []) (Γ' := []) rfl rfl rfl (TOp.eqr (TOp.fop (.inr (.inl rfl)) rfl (OpF.tmp rfl) (OpF.tmp rfl)) (congrArg (AV.f .f32) hx1)) rfl ?_
  refine ROps.l (r := AV.b (feq .f32 x1 (some 0))) rfl rfl rfl (LOp.feq rfl (OpF.tmp rfl) (OpF.const rfl (by kernel_rfl) (by kernel_rfl))) ?_
  refine ROps.l (r := AV.b (feq .f32 x1 (some 0))) rfl rfl rfl (LOp.assign rfl rfl) ?_
  refine ROps.nil ?_
  refine RunC.ret ?_
  have hq := Option.some.inj h
  subst q0
  exact bodyQ.pure (.inr rfl) rfl (Res.one rfl (RV.tmp rfl))
noncomputable def s_l02Finite_b1 (a0 : List F) (v1 : Int) : Option (LR (Int) (Unit) (Bool)) :=
  bsel (decide (v1 < (a0.length : Int))) (
    obind (at? a0 v1) fun (e2 : F) =>
    obind (s_l01Finite e2) fun (r3 : Bool) =>
    bsel r3 (
      olet (IntKind.i64.wrap (v1 + 1)) fun (x4 : Int) =>
      some (LR.next x4)) (
      some (LR.ret false))) (
    some (LR.out ()))
noncomputable def s_l02Finite_s1 (a0 : List F) : (Int) → Option (LR (Int) (Unit) (Bool)) := fun s => s_l02Finite_b1 a0 s
noncomputable def s_l02Finite_k1  : Option (Bool) :=
  some true
noncomputable def s_l02Finite (a0 : List F) : Option (Bool) :=
  obind (loopM (s_l02Finite_s1 a0) 0) fun z => osum z (fun _ => s_l02Finite_k1) (fun r => some r)
theorem s_l02Finite_ok (a0 : List F) (q0 : Bool) (h : s_l02Finite a0 = some q0) : Ev Try.prog 88 [AV.sl a0.length (a0.map AV.f32)] [] (AV.b q0) [] := by
  refine Ev.start Try.func88 rfl rfl 0 (τ := [(0, AV.sl a0.length (a0.map AV.f32))]) rfl (Γ' := []) rfl (n := 16) rfl (g := 0) rfl ?_
  unfold s_l02Finite at h
  refine RunC.seq ?_
  refine RunC.regionW ?_
  refine ROps.l (r := AV.b false) rfl rfl rfl (LOp.assign rfl rfl) ?_
  refine ROps.nil ?_
  refine RunC.seq ?_
  refine RunC.seq ?_
  refine RunC.regionW ?_
  refine ROps.l (r := AV.i64 0) rfl rfl rfl (LOp.assign rfl rfl) ?_
  refine ROps.nil ?_
  obtain ⟨z2, hz_2, h⟩ := obind_some h
  refine RunC.cutN (fun τ Γ => WeakLe τ [] ∧ DeadLe Γ [] ∧ z2 = .inl ()) ?_ ?_
  · refine RunC.block (RunC.loop (RunL.loopM (x := z2) (s_l02Finite_s1 a0) (fun (s : Int) τ Γ => WeakLe τ [(0, AV.sl a0.length (a0.map AV.f32)), (3, AV.i64 s)] ∧ DeadLe Γ []) ?_ _ _ _ hz_2 ⟨⟨(ALe.refl _), (ALe.refl _), trivial⟩, trivial⟩))
    rintro v1 τ2 Γ2 y2_ ⟨hw2, hd2⟩ h2_ ho2 hr2
    refine RunC.wl (τ' := [(0, AV.sl a0.length (a0.map AV.f32)), (3, AV.i64 v1)]) (Γ' := []) hw2 hd2 ?_
    replace h2_ : s_l02Finite_b1 a0 v1 = some y2_ := h2_
    unfold s_l02Finite_b1 at h2_
    refine RunC.seq ?_
    refine RunC.seq ?_
    rcases bsel_some h2_ with ⟨hc1, h2_⟩ | ⟨hc1, h2_⟩
    · refine RunC.regionW ?_
      refine ROps.l (r := AV.i64 v1) rfl rfl rfl (LOp.move rfl rfl) ?_
      refine ROps.l (r := AV.sl a0.length (a0.map AV.f32)) rfl rfl rfl (LOp.move rfl rfl) ?_
      refine ROps.l (r := AV.i64 (a0.length : Int)) rfl rfl rfl (LOp.len_sl und22 rfl rfl) ?_
      refine ROps.l (r := AV.b true) rfl rfl rfl (LOp.eqb (LOp.lss rfl rfl rfl) hc1) ?_
      refine ROps.nil ?_
      refine RunC.cond_true rfl rfl ?_
      refine RunC.skip ?_
      refine RunC.seq ?_
      refine RunC.block ?_
      refine RunC.seq ?_
      obtain ⟨e2, he2, h2_⟩ := obind_some h2_
      obtain ⟨r3, hf3, h2_⟩ := obind_some h2_
      rcases bsel_some h2_ with ⟨hc4, h2_⟩ | ⟨hc4, h2_⟩
      · refine RunC.regionW ?_
        refine ROps.l (r := AV.sl a0.length (a0.map AV.f32)) rfl rfl rfl (LOp.move rfl rfl) ?_
        refine ROps.l (r := AV.i64 v1) rfl rfl rfl (LOp.move rfl rfl) ?_
        refine ROps.l (r := AV.ptr [AV.f32 e2]) rfl rfl rfl (LOp.le (LOp.ix (f := AV.f32) und22 siz25 rfl rfl rfl rfl he2) ALe.ptr) ?_
        refine ROps.l (r := AV.f32 e2) rfl rfl rfl (LOp.load1 agg25 rfl rfl) ?_
        refine ROps.d (r := AV.b true) (fs := []) (Γ' := []) rfl rfl rfl (TOp.eqb (TOp.callB (CallAs.func ent58 rfl rfl) (Bors.cons (Bor.pure rfl) Bors.nil) rfl rfl (s_l01Finite_ok e2 r3 hf3)) hc4) rfl ?_
        refine ROps.l (r := AV.b false) rfl rfl rfl (LOp.eqb (LOp.not rfl rfl) rfl) ?_
        refine ROps.nil ?_
        refine RunC.cond_false rfl rfl ?_
        refine RunC.skip ?_
        obtain ⟨x4, hx5, h2_⟩ := olet_some h2_
        refine RunC.regionW ?_
        refine ROps.l (r := AV.i64 v1) rfl rfl rfl (LOp.move rfl rfl) ?_
        refine ROps.l (r := AV.i64 x4) rfl rfl rfl (LOp.eqr (LOp.add rfl rfl rfl) (congrArg (AV.ik .i64) hx5)) ?_
        refine ROps.l (r := AV.i64 x4) rfl rfl rfl (LOp.assign rfl rfl) ?_
        refine ROps.nil ?_
        cases Option.some.inj h2_
        exact ⟨_, rfl, ⟨(ALe.refl _), (ALe.refl _), trivial⟩, trivial⟩
      · refine RunC.regionW ?_
        refine ROps.l (r := AV.sl a0.length (a0.map AV.f32)) rfl rfl rfl (LOp.move rfl rfl) ?_
        refine ROps.l (r := AV.i64 v1) rfl rfl rfl (LOp.move rfl rfl) ?_
        refine ROps.l (r := AV.ptr [AV.f32 e2]) rfl rfl rfl (LOp.le (LOp.ix (f := AV.f32) und22 siz25 rfl rfl rfl rfl he2) ALe.ptr) ?_
        refine ROps.l (r := AV.f32 e2) rfl rfl rfl (LOp.load1 agg25 rfl rfl) ?_
        refine ROps.d (r := AV.b false) (fs := []) (Γ' := []) rfl rfl rfl (TOp.eqb (TOp.callB (CallAs.func ent58 rfl rfl) (Bors.cons (Bor.pure rfl) Bors.nil) rfl rfl (s_l01Finite_ok e2 r3 hf3)) hc4) rfl ?_
        refine ROps.l (r := AV.b true) rfl rfl rfl (LOp.eqb (LOp.not rfl rfl) rfl) ?_
        refine ROps.nil ?_
        refine RunC.cond_true rfl rfl ?_
        refine RunC.seq ?_
        refine RunC.regionW ?_
        refine ROps.l (r := AV.b false) rfl rfl rfl (LOp.assign rfl rfl) ?_
        refine ROps.nil ?_
        refine RunC.ret ?_
        cases Option.some.inj h2_
        have hx3_ := hr2 _ rfl
        subst hx3_
        have hq := Option.some.inj h
        subst q0
        exact bodyQ.pure (.inr rfl) rfl (Res.one rfl (RV.tmp rfl))
    · refine RunC.regionW ?_
      refine ROps.l (r := AV.i64 v1) rfl rfl rfl (LOp.move rfl rfl) ?_
      refine ROps.l (r := AV.sl a0.length (a0.map AV.f32)) rfl rfl rfl (LOp.move rfl rfl) ?_
      refine ROps.l (r := AV.i64 (a0.length : Int)) rfl rfl rfl (LOp.len_sl und22 rfl rfl) ?_
      refine ROps.l (r := AV.b false) rfl rfl rfl (LOp.eqb (LOp.lss rfl rfl rfl) hc1) ?_
      refine ROps.nil ?_
      refine RunC.cond_false rfl rfl ?_
      refine RunC.exit ?_
      cases Option.some.inj h2_
      have hx := ho2 _ rfl
      exact ⟨trivial, trivial, hx⟩
  · rintro τ4 Γ4 ⟨hw4, hd4, rfl⟩
    refine RunC.wl (τ' := []) (Γ' := []) hw4 hd4 ?_
    replace h : s_l02Finite_k1 = some q0 := h
    unfold s_l02Finite_k1 at h
    refine RunC.seq ?_
    refine RunC.regionW ?_
    refine ROps.l (r := AV.b true) rfl rfl rfl (LOp.assign rfl rfl) ?_
    refine ROps.nil ?_
    refine RunC.ret ?_
    have hq := Option.some.inj h
    subst q0
    exact bodyQ.pure (.inr rfl) rfl (Res.one rfl (RV.tmp rfl))
noncomputable def s_l02Is (a0 : Int) (a1 : Int) (a2 : List F) : Option (Bool) :=
  obind (s_l02Sides a0 a1) fun (r1 : Bool) =>
  bsel r1 (
    olet (IntKind.i64.wrap (a0 * a1)) fun (x2 : Int) =>
    bsel (decide ((a2.length : Int) = x2)) (
      obind (s_l02Finite a2) fun (r3 : Bool) =>
      some r3) (
      some false)) (
    some false)
theorem s_l02Is_ok (a0 : Int) (a1 : Int) (a2 : List F) (q0 : Bool) (h : s_l02Is a0 a1 a2 = some q0) : Ev Try.prog 37 [AV.ptr [AV.i64 a0, AV.i64 a1, AV.sl a2.length (a2.map AV.f32)]] [] (AV.b q0) [] := by
  refine Ev.start Try.func37 rfl rfl 0 (τ := [(0, AV.ptr [AV.i64 a0, AV.i64 a1, AV.sl a2.length (a2.map AV.f32)])]) rfl (Γ' := []) rfl (n := 36) rfl (g := 0) rfl ?_
  unfold s_l02Is at h
  refine RunC.seq ?_
  refine RunC.regionW ?_
  refine ROps.l (r := AV.b false) rfl rfl rfl (LOp.assign rfl rfl) ?_
  refine ROps.nil ?_
  refine RunC.seq ?_
  obtain ⟨r1, hf1, h⟩ := obind_some h
  rcases bsel_some h with ⟨hc2, h⟩ | ⟨hc2, h⟩
  · obtain ⟨x2, hx3, h⟩ := olet_some h
    rcases bsel_some h with ⟨hc4, h⟩ | ⟨hc4, h⟩
    · obtain ⟨r3, hf5, h⟩ := obind_some h
      refine RunC.region_draw (Γ' := []) 34 mixed 
        (TR.l (r := AV.ptr [AV.i64 a0, AV.i64 a1, AV.sl a2.length (a2.map AV.f32)]) rfl rfl (LOp.move rfl rfl) <|
        (TR.l (r := AV.ptr [AV.i64 a0, AV.i64 a1, AV.sl a2.length (a2.map AV.f32)]) rfl rfl (LOp.nilCheck_ptr rfl rfl) <|
        (TR.l (r := AV.ptr [AV.i64 a0, AV.i64 a1, AV.sl a2.length (a2.map AV.f32)]) rfl rfl (LOp.fap und27 rfl siz2 rfl rfl rfl) <|
        (TR.l (r := AV.i64 a0) rfl rfl (LOp.load1 agg2 rfl rfl) <|
        (TR.l (r := AV.ptr [AV.i64 a0, AV.i64 a1, AV.sl a2.length (a2.map AV.f32)]) rfl rfl (LOp.move rfl rfl) <|
        (TR.l (r := AV.ptr [AV.i64 a0, AV.i64 a1, AV.sl a2.length (a2.map AV.f32)]) rfl rfl (LOp.nilCheck_ptr rfl rfl) <|
        (TR.l (r := AV.ptr [AV.i64 a1, AV.sl a2.length (a2.map AV.f32)]) rfl rfl (LOp.fap und27 rfl siz2 rfl rfl rfl) <|
        (TR.l (r := AV.i64 a1) rfl rfl (LOp.load1 agg2 rfl rfl) <|
        (TR.d (r := AV.b true) (fs := []) rfl rfl (TOp.eqb (TOp.callB (CallAs.func ent87 rfl rfl) (Bors.cons (Bor.pure rfl) (Bors.cons (Bor.pure rfl) Bors.nil)) rfl rfl (s_l02Sides_ok a0 a1 r1 hf1)) hc2) <|
        (TR.l (r := AV.b true) rfl rfl (LOp.move rfl rfl) <|
        (TR.l (r := AV.ptr [AV.i64 a0, AV.i64 a1, AV.sl a2.length (a2.map AV.f32)]) rfl rfl (LOp.move rfl rfl) <|
        (TR.l (r := AV.ptr [AV.i64 a0, AV.i64 a1, AV.sl a2.length (a2.map AV.f32)]) rfl rfl (LOp.nilCheck_ptr rfl rfl) <|
        (TR.l (r := AV.ptr [AV.sl a2.length (a2.map AV.f32)]) rfl rfl (LOp.fap und27 rfl siz22 rfl rfl rfl) <|
        (TR.l (r := AV.sl a2.length (a2.map AV.f32)) rfl rfl (LOp.load1 agg22 rfl rfl) <|
        (TR.l (r := AV.i64 (a2.length : Int)) rfl rfl (LOp.len_sl und22 rfl rfl) <|
        (TR.l (r := AV.ptr [AV.i64 a0, AV.i64 a1, AV.sl a2.length (a2.map AV.f32)]) rfl rfl (LOp.move rfl rfl) <|
        (TR.l (r := AV.ptr [AV.i64 a0, AV.i64 a1, AV.sl a2.length (a2.map AV.f32)]) rfl rfl (LOp.nilCheck_ptr rfl rfl) <|
        (TR.l (r := AV.ptr [AV.i64 a0, AV.i64 a1, AV.sl a2.length (a2.map AV.f32)]) rfl rfl (LOp.fap und27 rfl siz2 rfl rfl rfl) <|
        (TR.l (r := AV.i64 a0) rfl rfl (LOp.load1 agg2 rfl rfl) <|
        (TR.l (r := AV.ptr [AV.i64 a0, AV.i64 a1, AV.sl a2.length (a2.map AV.f32)]) rfl rfl (LOp.move rfl rfl) <|
        (TR.l (r := AV.ptr [AV.i64 a0, AV.i64 a1, AV.sl a2.length (a2.map AV.f32)]) rfl rfl (LOp.nilCheck_ptr rfl rfl) <|
        (TR.l (r := AV.ptr [AV.i64 a1, AV.sl a2.length (a2.map AV.f32)]) rfl rfl (LOp.fap und27 rfl siz2 rfl rfl rfl) <|
        (TR.l (r := AV.i64 a1) rfl rfl (LOp.load1 agg2 rfl rfl) <|
        (TR.l (r := AV.i64 x2) rfl rfl (LOp.eqr (LOp.mul rfl rfl rfl) (congrArg (AV.ik .i64) hx3)) <|
        (TR.l (r := AV.b true) rfl rfl (LOp.eqb (LOp.eql rfl rfl rfl) hc4) <|
        (TR.l (r := AV.b true) rfl rfl (LOp.pick_true rfl rfl rfl) <|
        (TR.l (r := AV.b true) rfl rfl (LOp.move rfl rfl) <|
        (TR.l (r := AV.ptr [AV.i64 a0, AV.i64 a1, AV.sl a2.length (a2.map AV.f32)]) rfl rfl (LOp.move rfl rfl) <|
        (TR.l (r := AV.ptr [AV.i64 a0, AV.i64 a1, AV.sl a2.length (a2.map AV.f32)]) rfl rfl (LOp.nilCheck_ptr rfl rfl) <|
        (TR.l (r := AV.ptr [AV.sl a2.length (a2.map AV.f32)]) rfl rfl (LOp.fap und27 rfl siz22 rfl rfl rfl) <|
        (TR.l (r := AV.sl a2.length (a2.map AV.f32)) rfl rfl (LOp.load1 agg22 rfl rfl) <|
        (TR.d (r := AV.b r3) (fs := []) rfl rfl (TOp.callB (CallAs.func ent88 rfl rfl) (Bors.cons (Bor.sl (fun _ => rfl)) Bors.nil) rfl rfl (s_l02Finite_ok a2 r3 hf5)) <|
        (TR.l (r := AV.b r3) rfl rfl (LOp.pick_true rfl rfl rfl) <|
        (TR.l (r := AV.b r3) rfl rfl (LOp.assign rfl rfl) <|
        TR.nil)))))))))))))))))))))))))))))))))) rfl (by kernel_rfl) rfl fills_nil rfl ?_
      iterate 34 refine ROps.dropS ?_
      refine ROps.drop0 ?_
      refine ROps.nil ?_
      refine RunC.ret ?_
      have hq := Option.some.inj h
      subst q0
      exact bodyQ.pure (.inr rfl) rfl (Res.one rfl (RV.tmp rfl))
    · refine RunC.region_draw (Γ' := []) 34 mixed 
        (TR.l (r := AV.ptr [AV.i64 a0, AV.i64 a1, AV.sl a2.length (a2.map AV.f32)]) rfl rfl (LOp.move rfl rfl) <|
        (TR.l (r := AV.ptr [AV.i64 a0, AV.i64 a1, AV.sl a2.length (a2.map AV.f32)]) rfl rfl (LOp.nilCheck_ptr rfl rfl) <|
        (TR.l (r := AV.ptr [AV.i64 a0, AV.i64 a1, AV.sl a2.length (a2.map AV.f32)]) rfl rfl (LOp.fap und27 rfl siz2 rfl rfl rfl) <|
        (TR.l (r := AV.i64 a0) rfl rfl (LOp.load1 agg2 rfl rfl) <|
        (TR.l (r := AV.ptr [AV.i64 a0, AV.i64 a1, AV.sl a2.length (a2.map AV.f32)]) rfl rfl (LOp.move rfl rfl) <|
        (TR.l (r := AV.ptr [AV.i64 a0, AV.i64 a1, AV.sl a2.length (a2.map AV.f32)]) rfl rfl (LOp.nilCheck_ptr rfl rfl) <|
        (TR.l (r := AV.ptr [AV.i64 a1, AV.sl a2.length (a2.map AV.f32)]) rfl rfl (LOp.fap und27 rfl siz2 rfl rfl rfl) <|
        (TR.l (r := AV.i64 a1) rfl rfl (LOp.load1 agg2 rfl rfl) <|
        (TR.d (r := AV.b true) (fs := []) rfl rfl (TOp.eqb (TOp.callB (CallAs.func ent87 rfl rfl) (Bors.cons (Bor.pure rfl) (Bors.cons (Bor.pure rfl) Bors.nil)) rfl rfl (s_l02Sides_ok a0 a1 r1 hf1)) hc2) <|
        (TR.l (r := AV.b true) rfl rfl (LOp.move rfl rfl) <|
        (TR.l (r := AV.ptr [AV.i64 a0, AV.i64 a1, AV.sl a2.length (a2.map AV.f32)]) rfl rfl (LOp.move rfl rfl) <|
        (TR.l (r := AV.ptr [AV.i64 a0, AV.i64 a1, AV.sl a2.length (a2.map AV.f32)]) rfl rfl (LOp.nilCheck_ptr rfl rfl) <|
        (TR.l (r := AV.ptr [AV.sl a2.length (a2.map AV.f32)]) rfl rfl (LOp.fap und27 rfl siz22 rfl rfl rfl) <|
        (TR.l (r := AV.sl a2.length (a2.map AV.f32)) rfl rfl (LOp.load1 agg22 rfl rfl) <|
        (TR.l (r := AV.i64 (a2.length : Int)) rfl rfl (LOp.len_sl und22 rfl rfl) <|
        (TR.l (r := AV.ptr [AV.i64 a0, AV.i64 a1, AV.sl a2.length (a2.map AV.f32)]) rfl rfl (LOp.move rfl rfl) <|
        (TR.l (r := AV.ptr [AV.i64 a0, AV.i64 a1, AV.sl a2.length (a2.map AV.f32)]) rfl rfl (LOp.nilCheck_ptr rfl rfl) <|
        (TR.l (r := AV.ptr [AV.i64 a0, AV.i64 a1, AV.sl a2.length (a2.map AV.f32)]) rfl rfl (LOp.fap und27 rfl siz2 rfl rfl rfl) <|
        (TR.l (r := AV.i64 a0) rfl rfl (LOp.load1 agg2 rfl rfl) <|
        (TR.l (r := AV.ptr [AV.i64 a0, AV.i64 a1, AV.sl a2.length (a2.map AV.f32)]) rfl rfl (LOp.move rfl rfl) <|
        (TR.l (r := AV.ptr [AV.i64 a0, AV.i64 a1, AV.sl a2.length (a2.map AV.f32)]) rfl rfl (LOp.nilCheck_ptr rfl rfl) <|
        (TR.l (r := AV.ptr [AV.i64 a1, AV.sl a2.length (a2.map AV.f32)]) rfl rfl (LOp.fap und27 rfl siz2 rfl rfl rfl) <|
        (TR.l (r := AV.i64 a1) rfl rfl (LOp.load1 agg2 rfl rfl) <|
        (TR.l (r := AV.i64 x2) rfl rfl (LOp.eqr (LOp.mul rfl rfl rfl) (congrArg (AV.ik .i64) hx3)) <|
        (TR.l (r := AV.b false) rfl rfl (LOp.eqb (LOp.eql rfl rfl rfl) hc4) <|
        (TR.l (r := AV.b false) rfl rfl (LOp.pick_true rfl rfl rfl) <|
        (TR.l (r := AV.b false) rfl rfl (LOp.move rfl rfl) <|
        (TR.s rfl rfl <|
        (TR.s rfl rfl <|
        (TR.s rfl rfl <|
        (TR.s rfl rfl <|
        (TR.s rfl rfl <|
        (TR.l (r := AV.b false) rfl rfl (LOp.pick_false rfl rfl rfl) <|
        (TR.l (r := AV.b false) rfl rfl (LOp.assign rfl rfl) <|
        TR.nil)))))))))))))))))))))))))))))))))) rfl (by kernel_rfl) rfl fills_nil rfl ?_
      iterate 34 refine ROps.dropS ?_
      refine ROps.drop0 ?_
      refine ROps.nil ?_
      refine RunC.ret ?_
      have hq := Option.some.inj h
      subst q0
      exact bodyQ.pure (.inr rfl) rfl (Res.one rfl (RV.tmp rfl))
  · refine RunC.region_draw (Γ' := []) 34 mixed 
      (TR.l (r := AV.ptr [AV.i64 a0, AV.i64 a1, AV.sl a2.length (a2.map AV.f32)]) rfl rfl (LOp.move rfl rfl) <|
      (TR.l (r := AV.ptr [AV.i64 a0, AV.i64 a1, AV.sl a2.length (a2.map AV.f32)]) rfl rfl (LOp.nilCheck_ptr rfl rfl) <|
      (TR.l (r := AV.ptr [AV.i64 a0, AV.i64 a1, AV.sl a2.length (a2.map AV.f32)]) rfl rfl (LOp.fap und27 rfl siz2 rfl rfl rfl) <|
      (TR.l (r := AV.i64 a0) rfl rfl (LOp.load1 agg2 rfl rfl) <|
      (TR.l (r := AV.ptr [AV.i64 a0, AV.i64 a1, AV.sl a2.length (a2.map AV.f32)]) rfl rfl (LOp.move rfl rfl) <|
      (TR.l (r := AV.ptr [AV.i64 a0, AV.i64 a1, AV.sl a2.length (a2.map AV.f32)]) rfl rfl (LOp.nilCheck_ptr rfl rfl) <|
      (TR.l (r := AV.ptr [AV.i64 a1, AV.sl a2.length (a2.map AV.f32)]) rfl rfl (LOp.fap und27 rfl siz2 rfl rfl rfl) <|
      (TR.l (r := AV.i64 a1) rfl rfl (LOp.load1 agg2 rfl rfl) <|
      (TR.d (r := AV.b false) (fs := []) rfl rfl (TOp.eqb (TOp.callB (CallAs.func ent87 rfl rfl) (Bors.cons (Bor.pure rfl) (Bors.cons (Bor.pure rfl) Bors.nil)) rfl rfl (s_l02Sides_ok a0 a1 r1 hf1)) hc2) <|
      (TR.l (r := AV.b false) rfl rfl (LOp.move rfl rfl) <|
      (TR.s rfl rfl <|
      (TR.s rfl rfl <|
      (TR.s rfl rfl <|
      (TR.s rfl rfl <|
      (TR.s rfl rfl <|
      (TR.s rfl rfl <|
      (TR.s rfl rfl <|
      (TR.s rfl rfl <|
      (TR.s rfl rfl <|
      (TR.s rfl rfl <|
      (TR.s rfl rfl <|
      (TR.s rfl rfl <|
      (TR.s rfl rfl <|
      (TR.s rfl rfl <|
      (TR.s rfl rfl <|
      (TR.l (r := AV.b false) rfl rfl (LOp.pick_false rfl rfl rfl) <|
      (TR.l (r := AV.b false) rfl rfl (LOp.move rfl rfl) <|
      (TR.s rfl rfl <|
      (TR.s rfl rfl <|
      (TR.s rfl rfl <|
      (TR.s rfl rfl <|
      (TR.s rfl rfl <|
      (TR.l (r := AV.b false) rfl rfl (LOp.pick_false rfl rfl rfl) <|
      (TR.l (r := AV.b false) rfl rfl (LOp.assign rfl rfl) <|
      TR.nil)))))))))))))))))))))))))))))))))) rfl (by kernel_rfl) rfl fills_nil rfl ?_
    iterate 34 refine ROps.dropS ?_
    refine ROps.drop0 ?_
    refine ROps.nil ?_
    refine RunC.ret ?_
    have hq := Option.some.inj h
    subst q0
    exact bodyQ.pure (.inr rfl) rfl (Res.one rfl (RV.tmp rfl))
noncomputable def s_l02Square (a0 : Int) (a1 : Int) (a2 : List F) : Option (Bool) :=
  obind (s_l02Is a0 a1 a2) fun (r1 : Bool) =>
  bsel r1 (
    some (decide (a0 = a1))) (
    some false)
theorem s_l02Square_ok (a0 : Int) (a1 : Int) (a2 : List F) (q0 : Bool) (h : s_l02Square a0 a1 a2 = some q0) : Ev Try.prog 55 [AV.ptr [AV.i64 a0, AV.i64 a1, AV.sl a2.length (a2.map AV.f32)]] [] (AV.b q0) [] := by
  refine Ev.start Try.func55 rfl rfl 0 (τ := [(0, AV.ptr [AV.i64 a0, AV.i64 a1, AV.sl a2.length (a2.map AV.f32)])]) rfl (Γ' := []) rfl (n := 16) rfl (g := 0) rfl ?_
  unfold s_l02Square at h
  refine RunC.seq ?_
  refine RunC.regionW ?_
  refine ROps.l (r := AV.b false) rfl rfl rfl (LOp.assign rfl rfl) ?_
  refine ROps.nil ?_
  refine RunC.seq ?_
  obtain ⟨r1, hf1, h⟩ := obind_some h
  rcases bsel_some h with ⟨hc2, h⟩ | ⟨hc2, h⟩
  · refine RunC.region_draw (Γ' := []) 14 mixed 
      (TR.l (r := AV.ptr [AV.i64 a0, AV.i64 a1, AV.sl a2.length (a2.map AV.f32)]) rfl rfl (LOp.move rfl rfl) <|
      (TR.d (r := AV.b true) (fs := []) rfl rfl (TOp.eqb (TOp.callB (CallAs.func ent37 rfl rfl) (Bors.cons (Bor.ptr (Bors.cons (Bor.pure rfl) (Bors.cons (Bor.pure rfl) (Bors.cons (Bor.sl (fun _ => rfl)) Bors.nil)))) Bors.nil) rfl rfl (s_l02Is_ok a0 a1 a2 r1 hf1)) hc2) <|
      (TR.l (r := AV.b true) rfl rfl (LOp.move rfl rfl) <|
      (TR.l (r := AV.ptr [AV.i64 a0, AV.i64 a1, AV.sl a2.length (a2.map AV.f32)]) rfl rfl (LOp.move rfl rfl) <|
      (TR.l (r := AV.ptr [AV.i64 a0, AV.i64 a1, AV.sl a2.length (a2.map AV.f32)]) rfl rfl (LOp.nilCheck_ptr rfl rfl) <|
      (TR.l (r := AV.ptr [AV.i64 a0, AV.i64 a1, AV.sl a2.length (a2.map AV.f32)]) rfl rfl (LOp.fap und27 rfl siz2 rfl rfl rfl) <|
      (TR.l (r := AV.i64 a0) rfl rfl (LOp.load1 agg2 rfl rfl) <|
      (TR.l (r := AV.ptr [AV.i64 a0, AV.i64 a1, AV.sl a2.length (a2.map AV.f32)]) rfl rfl (LOp.move rfl rfl) <|
      (TR.l (r := AV.ptr [AV.i64 a0, AV.i64 a1, AV.sl a2.length (a2.map AV.f32)]) rfl rfl (LOp.nilCheck_ptr rfl rfl) <|
      (TR.l (r := AV.ptr [AV.i64 a1, AV.sl a2.length (a2.map AV.f32)]) rfl rfl (LOp.fap und27 rfl siz2 rfl rfl rfl) <|
      (TR.l (r := AV.i64 a1) rfl rfl (LOp.load1 agg2 rfl rfl) <|
      (TR.l (r := AV.b (decide (a0 = a1))) rfl rfl (LOp.eql rfl rfl rfl) <|
      (TR.l (r := AV.b (decide (a0 = a1))) rfl rfl (LOp.pick_true rfl rfl rfl) <|
      (TR.l (r := AV.b (decide (a0 = a1))) rfl rfl (LOp.assign rfl rfl) <|
      TR.nil)))))))))))))) rfl (by kernel_rfl) rfl fills_nil rfl ?_
    iterate 14 refine ROps.dropS ?_
    refine ROps.drop0 ?_
    refine ROps.nil ?_
    refine RunC.ret ?_
    have hq := Option.some.inj h
    subst q0
    exact bodyQ.pure (.inr rfl) rfl (Res.one rfl (RV.tmp rfl))
  · refine RunC.region_draw (Γ' := []) 14 mixed 
      (TR.l (r := AV.ptr [AV.i64 a0, AV.i64 a1, AV.sl a2.length (a2.map AV.f32)]) rfl rfl (LOp.move rfl rfl) <|
      (TR.d (r := AV.b false) (fs := []) rfl rfl (TOp.eqb (TOp.callB (CallAs.func ent37 rfl rfl) (Bors.cons (Bor.ptr (Bors.cons (Bor.pure rfl) (Bors.cons (Bor.pure rfl) (Bors.cons (Bor.sl (fun _ => rfl)) Bors.nil)))) Bors.nil) rfl rfl (s_l02Is_ok a0 a1 a2 r1 hf1)) hc2) <|
      (TR.l (r := AV.b false) rfl rfl (LOp.move rfl rfl) <|
      (TR.s rfl rfl <|
      (TR.s rfl rfl <|
      (TR.s rfl rfl <|
      (TR.s rfl rfl <|
      (TR.s rfl rfl <|
      (TR.s rfl rfl <|
      (TR.s rfl rfl <|
      (TR.s rfl rfl <|
      (TR.s rfl rfl <|
      (TR.l (r := AV.b false) rfl rfl (LOp.pick_false rfl rfl rfl) <|
      (TR.l (r := AV.b false) rfl rfl (LOp.assign rfl rfl) <|
      TR.nil)))))))))))))) rfl (by kernel_rfl) rfl fills_nil rfl ?_
    iterate 14 refine ROps.dropS ?_
    refine ROps.drop0 ?_
    refine ROps.nil ?_
    refine RunC.ret ?_
    have hq := Option.some.inj h
    subst q0
    exact bodyQ.pure (.inr rfl) rfl (Res.one rfl (RV.tmp rfl))
noncomputable def s_l02Least (a0 : F) : Option (Bool) :=
  obind (s_l01Finite a0) fun (r1 : Bool) =>
  bsel r1 (
    some (fle .f32 (some 0) a0)) (
    some false)
theorem s_l02Least_ok (a0 : F) (q0 : Bool) (h : s_l02Least a0 = some q0) : Ev Try.prog 38 [AV.f32 a0] [] (AV.b q0) [] := by
  refine Ev.start Try.func38 rfl rfl 0 (τ := [(0, AV.f32 a0)]) rfl (Γ' := []) rfl (n := 9) rfl (g := 0) rfl ?_
  unfold s_l02Least at h
  refine RunC.seq ?_
  refine RunC.regionW ?_
  refine ROps.l (r := AV.b false) rfl rfl rfl (LOp.assign rfl rfl) ?_
  refine ROps.nil ?_
  refine RunC.seq ?_
  obtain ⟨r1, hf1, h⟩ := obind_some h
  rcases bsel_some h with ⟨hc2, h⟩ | ⟨hc2, h⟩
  · refine RunC.regionW ?_
    refine ROps.l (r := AV.f32 a0) rfl rfl rfl (LOp.move rfl rfl) ?_
    refine ROps.d (r := AV.b true) (fs := []) (Γ' := []) rfl rfl rfl (TOp.eqb (TOp.callB (CallAs.func ent58 rfl rfl) (Bors.cons (Bor.pure rfl) Bors.nil) rfl rfl (s_l01Finite_ok a0 r1 hf1)) hc2) rfl ?_
    refine ROps.l (r := AV.b true) rfl rfl rfl (LOp.move rfl rfl) ?_
    refine ROps.l (r := AV.f32 a0) rfl rfl rfl (LOp.move rfl rfl) ?_
    refine ROps.l (r := AV.b (fle .f32 (some 0) a0)) rfl rfl rfl (LOp.fge rfl (OpF.tmp rfl) (OpF.const rfl (by kernel_rfl) (by kernel_rfl))) ?_
    refine ROps.l (r := AV.b (fle .f32 (some 0) a0)) rfl rfl rfl (LOp.pick_true rfl rfl rfl) ?_
    refine ROps.l (r := AV.b (fle .f32 (some 0) a0)) rfl rfl rfl (LOp.assign rfl rfl) ?_
    refine ROps.nil ?_
    refine RunC.ret ?_
    have hq := Option.some.inj h
    subst q0
    exact bodyQ.pure (.inr rfl) rfl (Res.one rfl (RV.tmp rfl))
  · refine RunC.regionW ?_
    refine ROps.l (r := AV.f32 a0) rfl rfl rfl (LOp.move rfl rfl) ?_
    refine ROps.d (r := AV.b false) (fs := []) (Γ' := []) rfl rfl rfl (TOp.eqb (TOp.callB (CallAs.func ent58 rfl rfl) (Bors.cons (Bor.pure rfl) Bors.nil) rfl rfl (s_l01Finite_ok a0 r1 hf1)) hc2) rfl ?_
    refine ROps.l (r := AV.b false) rfl rfl rfl (LOp.move rfl rfl) ?_
    refine ROps.s rfl rfl rfl ?_
    refine ROps.s rfl rfl rfl ?_
    refine ROps.l (r := AV.b false) rfl rfl rfl (LOp.pick_false rfl rfl rfl) ?_
    refine ROps.l (r := AV.b false) rfl rfl rfl (LOp.assign rfl rfl) ?_
    refine ROps.nil ?_
    refine RunC.ret ?_
    have hq := Option.some.inj h
    subst q0
    exact bodyQ.pure (.inr rfl) rfl (Res.one rfl (RV.tmp rfl))
noncomputable def s_l02Own (a0 : Int) (a1 : Int) (a2 : List F) : Option (Int × Int × (List F)) :=
  need (apok 4 0 a2.length) <|
  some (a0, a1, (([] : List F) ++ a2))
theorem s_l02Own_ok (a0 : Int) (a1 : Int) (a2 : List F) (q0 : Int) (q1 : Int) (q2 : List F) (h : s_l02Own a0 a1 a2 = some (q0, q1, q2)) : Ev Try.prog 40 [AV.ptr [AV.i64 a0, AV.i64 a1, AV.sl a2.length (a2.map AV.f32)]] [] (AV.agg [AV.i64 q0, AV.i64 q1, AV.oref 0 0 0 q2.length]) [⟨0, some (q2.map AV.f32)⟩] := by
  refine Ev.start Try.func40 rfl rfl 2 (τ := [(0, AV.ptr [AV.i64 a0, AV.i64 a1, AV.sl a2.length (a2.map AV.f32)])]) rfl (Γ' := [⟨0, none⟩, ⟨0, none⟩]) rfl (n := 18) rfl (g := 0) rfl ?_
  unfold s_l02Own at h
  refine RunC.seq ?_
  refine RunC.regionW ?_
  refine ROps.d (r := AV.optr 0 1 0) (fs := [(0, [AV.i64 0, AV.i64 0, AV.nilsl])]) (Γ' := [⟨1, some [AV.i64 0, AV.i64 0, AV.nilsl]⟩, ⟨0, none⟩]) rfl rfl rfl (TOp.alloc_o (g := ⟨0, none⟩) 0 rfl zer27 zok27 rfl) rfl ?_
  refine ROps.nil ?_
  refine RunC.seq ?_
  obtain ⟨hm1, h⟩ := need_some h
  refine RunC.region_draw (Γ' := [⟨1, some [AV.i64 0, AV.i64 0, AV.nilsl]⟩, ⟨1, some (([] : List F).map AV.f32)⟩]) 13 mixed 
    (TR.loose (r := AV.ptr [AV.i64 a0, AV.i64 a1, AV.sl a2.length (a2.map AV.f32)]) rfl rfl (LOp.move rfl rfl) <|
    (TR.loose (r := AV.ptr [AV.i64 a0, AV.i64 a1, AV.sl a2.length (a2.map AV.f32)]) rfl rfl (LOp.nilCheck_ptr rfl rfl) <|
    (TR.loose (r := AV.ptr [AV.i64 a0, AV.i64 a1, AV.sl a2.length (a2.map AV.f32)]) rfl rfl (LOp.fap und27 rfl siz2 rfl rfl rfl) <|
    (TR.loose (r := AV.i64 a0) rfl rfl (LOp.load1 agg2 rfl rfl) <|
    (TR.loose (r := AV.ptr [AV.i64 a0, AV.i64 a1, AV.sl a2.length (a2.map AV.f32)]) rfl rfl (LOp.move rfl rfl) <|
    (TR.loose (r := AV.ptr [AV.i64 a0, AV.i64 a1, AV.sl a2.length (a2.map AV.f32)]) rfl rfl (LOp.nilCheck_ptr rfl rfl) <|
    (TR.loose (r := AV.ptr [AV.i64 a1, AV.sl a2.length (a2.map AV.f32)]) rfl rfl (LOp.fap und27 rfl siz2 rfl rfl rfl) <|
    (TR.loose (r := AV.i64 a1) rfl rfl (LOp.load1 agg2 rfl rfl) <|
    (TR.d (r := AV.oref 1 1 0 0) (fs := [(1, (([] : List F).map AV.f32))]) rfl rfl (TOp.buildSlice_o (g := ⟨0, none⟩) (za := AV.f32 (some 0)) (qs := []) 1 rfl und22 siz25 zer25 rfl zel25 rfl rfl trivial rfl) <|
    (TR.l (r := AV.ptr [AV.i64 a0, AV.i64 a1, AV.sl a2.length (a2.map AV.f32)]) rfl rfl (LOp.move rfl rfl) <|
    (TR.l (r := AV.ptr [AV.i64 a0, AV.i64 a1, AV.sl a2.length (a2.map AV.f32)]) rfl rfl (LOp.nilCheck_ptr rfl rfl) <|
    (TR.l (r := AV.ptr [AV.sl a2.length (a2.map AV.f32)]) rfl rfl (LOp.fap und27 rfl siz22 rfl rfl rfl) <|
    (TR.l (r := AV.sl a2.length (a2.map AV.f32)) rfl rfl (LOp.load1 agg22 rfl rfl) <|
    TR.nil))))))))))))) rfl (by kernel_rfl) rfl (fills_of (by show List.Nodup [1]; decide) ⟨⟨_, rfl⟩, trivial⟩) rfl ?_
  iterate 13 refine ROps.dropS ?_
  refine ROps.drop0 ?_
  refine ROps.app (f := AV.f32) (xs := ([] : List F)) (ys := a2) (Γ' := [⟨1, some [AV.i64 0, AV.i64 0, AV.nilsl]⟩, ⟨2, some ((([] : List F) ++ a2).map AV.f32)⟩]) rfl pun22 inf25 rfl rfl rfl rfl rfl rfl rfl rfl rfl (by simp) (ReadAs.sl (by simp)) (ones_map (fun _ => rfl)) (ap_by hm1) (ap_mx hm1) rfl ?_
  refine ROps.l (r := AV.agg [AV.i64 a0, AV.i64 a1, AV.oref 1 2 0 (0 + a2.length)]) rfl rfl rfl (LOp.build (qs := [(0, [AV.i64 a0]), (1, [AV.i64 a1]), (2, [AV.oref 1 2 0 (0 + a2.length)])]) zer27 zok27 und27 plc27 rfl ⟨rfl, ⟨_, ALe.refl _, rfl⟩, ⟨rfl, ⟨_, ALe.refl _, rfl⟩, ⟨rfl, ⟨_, ALe.refl _, rfl⟩, trivial⟩⟩⟩ rfl) ?_
  refine ROps.store_le (r := AV.agg [AV.i64 a0, AV.i64 a1, AV.oref 1 2 0 (0 + a2.length)]) (l' := [AV.i64 a0, AV.i64 a1, AV.oref 1 2 0 (0 + a2.length)]) (Γ' := [⟨1, some [AV.i64 a0, AV.i64 a1, AV.oref 1 2 0 (0 + a2.length)]⟩, ⟨2, some ((([] : List F) ++ a2).map AV.f32)⟩]) rfl siz27 rfl rfl rfl (ALe.refl _) rfl rfl rfl rfl (Nat.le_of_ble_eq_true rfl) rfl rfl ?_
  refine ROps.nil ?_
  refine RunC.ret ?_
  have hq := Option.some.inj h
  obtain ⟨hq0, hq⟩ := Prod.mk.inj hq
  obtain ⟨hq1, hq⟩ := Prod.mk.inj hq
  subst q0
  subst q1
  subst q2
  exact bodyQ.mk (r' := AV.agg [AV.i64 a0, AV.i64 a1, AV.oref 1 2 0 ((([] : List F) ++ a2).length)]) [(1, 2)] (.inr rfl) rfl (show List.Nodup [1] from by decide) rfl rfl (Res.eq (Res.one rfl (RV.cell agg27 siz27 rfl rfl rfl rfl)) (by rw [(show (([] : List F) ++ a2).length = (0 + a2.length) from (app_len rfl rfl))] <;> rfl)) (SelL.arr0 (f := AV.f32) (fun _ => rfl) rfl trivial)
noncomputable def s_l03Count_b1 (a0 : Int) (L3 : List Int) (v4 : Int) : Option (LR ((List Int) × Int) ((List Int)) ((List Int))) :=
  bsel (decide (v4 < a0)) (
    need (apok 8 L3.length 1) <|
    olet (IntKind.i64.wrap (v4 + 1)) fun (x5 : Int) =>
    some (LR.next ((L3 ++ ([v4] : List Int)), x5))) (
    some (LR.out L3))
noncomputable def s_l03Count_s1 (a0 : Int) : ((List Int) × Int) → Option (LR ((List Int) × Int) ((List Int)) ((List Int))) := fun s => s_l03Count_b1 a0 s.1 s.2
noncomputable def s_l03Count_k1 (L8 : List Int) : Option ((List Int)) :=
  some L8
noncomputable def s_l03Count (a0 : Int) : Option ((List Int)) :=
  obind (loopM (s_l03Count_s1 a0) (([] : List Int), 0)) fun z => osum z (fun e => s_l03Count_k1 e) (fun r => some r)
theorem s_l03Count_ok (a0 : Int) (q0 : List Int) (h : s_l03Count a0 = some q0) : Ev Try.prog 68 [AV.i64 a0] [] (AV.oref 0 0 0 q0.length) [⟨0, some (q0.map AV.i64)⟩] := by
  refine Ev.start Try.func68 rfl rfl 2 (τ := [(0, AV.i64 a0)]) rfl (Γ' := [⟨0, none⟩, ⟨0, none⟩]) rfl (n := 16) rfl (g := 0) rfl ?_
  unfold s_l03Count at h
  refine RunC.seq ?_
  refine RunC.regionW ?_
  refine ROps.l (r := AV.nilsl) rfl rfl rfl (LOp.assign rfl rfl) ?_
  refine ROps.nil ?_
  refine RunC.seq ?_
  refine RunC.regionW ?_
  refine ROps.d (r := AV.oref 0 1 0 0) (fs := [(0, (([] : List Int).map AV.i64))]) (Γ' := [⟨1, some (([] : List Int).map AV.i64)⟩, ⟨0, none⟩]) rfl rfl rfl (TOp.buildSlice_o (g := ⟨0, none⟩) (za := AV.i64 0) (qs := []) 0 rfl und28 siz2 zer2 rfl zel2 rfl rfl trivial rfl) rfl ?_
  refine ROps.l (r := AV.oref 0 1 0 0) rfl rfl rfl (LOp.assign rfl rfl) ?_
  refine ROps.nil ?_
  refine RunC.seq ?_
  refine RunC.seq ?_
  refine RunC.regionW ?_
  refine ROps.l (r := AV.i64 0) rfl rfl rfl (LOp.assign rfl rfl) ?_
  refine ROps.nil ?_
  obtain ⟨z2, hz_2, h⟩ := obind_some h
  refine RunC.cutN (fun τ Γ => ∃ (L8 : List Int) (u6 : Nat) (u7 : Nat), WeakLe τ [(3, AV.oref 0 u6 0 L8.length)] ∧ DeadLe Γ [⟨u6, some (L8.map AV.i64)⟩, ⟨u7, none⟩] ∧ z2 = .inl L8) ?_ ?_
  · refine RunC.block (RunC.loop (RunL.loopM (x := z2) (s_l03Count_s1 a0) (fun (s : (List Int) × Int) τ Γ => ∃ (u1 : Nat) (u2 : Nat), WeakLe τ [(0, AV.i64 a0), (3, AV.oref 0 u1 0 s.1.length), (4, AV.i64 s.2)] ∧ DeadLe Γ [⟨u1, some (s.1.map AV.i64)⟩, ⟨u2, none⟩]) ?_ _ _ _ hz_2 ⟨1, 0, ⟨(ALe.refl _), (ALe.refl _), (ALe.refl _), trivial⟩, ⟨⟨rfl, .inr rfl⟩, ⟨rfl, .inl rfl⟩, trivial⟩⟩))
    rintro ⟨L3, v4⟩ τ2 Γ2 y2_ ⟨u1, u2, hw2, hd2⟩ h2_ ho2 hr2
    refine RunC.wl (τ' := [(0, AV.i64 a0), (3, AV.oref 0 u1 0 L3.length), (4, AV.i64 v4)]) (Γ' := [⟨u1, some (L3.map AV.i64)⟩, ⟨u2, none⟩]) hw2 hd2 ?_
    replace h2_ : s_l03Count_b1 a0 L3 v4 = some y2_ := h2_
    unfold s_l03Count_b1 at h2_
    refine RunC.seq ?_
    refine RunC.seq ?_
    rcases bsel_some h2_ with ⟨hc1, h2_⟩ | ⟨hc1, h2_⟩
    · refine RunC.regionW ?_
      refine ROps.l (r := AV.i64 v4) rfl rfl rfl (LOp.move rfl rfl) ?_
      refine ROps.l (r := AV.i64 a0) rfl rfl rfl (LOp.move rfl rfl) ?_
      refine ROps.l (r := AV.b true) rfl rfl rfl (LOp.eqb (LOp.lss rfl rfl rfl) hc1) ?_
      refine ROps.nil ?_
      refine RunC.cond_true rfl rfl ?_
      refine RunC.skip ?_
      refine RunC.seq ?_
      refine RunC.block ?_
      obtain ⟨hm2, h2_⟩ := need_some h2_
      refine RunC.regionW ?_
      refine ROps.l (r := AV.oref 0 u1 0 L3.length) rfl rfl rfl (LOp.move rfl rfl) ?_
      refine ROps.l (r := AV.i64 v4) rfl rfl rfl (LOp.move rfl rfl) ?_
      refine ROps.d (r := AV.oref 1 (u2 + 1) 0 1) (fs := [(1, (([v4] : List Int).map AV.i64))]) (Γ' := [⟨u1, some (L3.map AV.i64)⟩, ⟨(u2 + 1), some (([v4] : List Int).map AV.i64)⟩]) rfl rfl rfl (TOp.buildSlice_o (g := ⟨u2, none⟩) (za := AV.i64 0) (qs := [(0, [AV.i64 v4])]) 1 rfl und28 siz2 zer2 rfl zel2 rfl rfl ⟨rfl, ⟨_, ALe.refl _, rfl⟩, trivial⟩ rfl) rfl ?_
      refine ROps.app (f := AV.i64) (xs := L3) (ys := ([v4] : List Int)) (Γ' := [⟨(u1 + 1), some ((L3 ++ ([v4] : List Int)).map AV.i64)⟩, ⟨(u2 + 1), some (([v4] : List Int).map AV.i64)⟩]) rfl pun28 inf2 rfl rfl rfl rfl rfl rfl rfl rfl rfl (by simp) (ReadAs.own rfl (by simp)) (ones_map (fun _ => rfl)) (ap_by hm2) (ap_mx hm2) rfl ?_
      refine ROps.l (r := AV.oref 0 (u1 + 1) 0 (L3.length + 1)) rfl rfl rfl (LOp.assign rfl rfl) ?_
      refine ROps.nil ?_
      refine RunC.wl (τ' := [(0, AV.i64 a0), (3, AV.oref 0 (u1 + 1) 0 (L3.length + 1)), (4, AV.i64 v4)]) (Γ' := [⟨(u1 + 1), some ((L3 ++ ([v4] : List Int)).map AV.i64)⟩, ⟨(u2 + 1), none⟩]) ⟨(ALe.refl _), (ALe.refl _), (ALe.refl _), trivial⟩ ⟨⟨rfl, .inr rfl⟩, ⟨rfl, .inl rfl⟩, trivial⟩ ?_
      obtain ⟨x5, hx3, h2_⟩ := olet_some h2_
      refine RunC.regionW ?_
      refine ROps.l (r := AV.i64 v4) rfl rfl rfl (LOp.move rfl rfl) ?_
      refine ROps.l (r := AV.i64 x5) rfl rfl rfl (LOp.eqr (LOp.add rfl rfl rfl) (congrArg (AV.ik .i64) hx3)) ?_
      refine ROps.l (r := AV.i64 x5) rfl rfl rfl (LOp.assign rfl rfl) ?_
      refine ROps.nil ?_
      cases Option.some.inj h2_
      exact ⟨_, rfl, (u1 + 1), (u2 + 1), ⟨(ALe.refl _), (ALe.eq (by rw [(app_len rfl rfl)] <;> rfl)), (ALe.refl _), trivial⟩, ⟨⟨rfl, .inr rfl⟩, ⟨rfl, .inl rfl⟩, trivial⟩⟩
    · refine RunC.regionW ?_
      refine ROps.l (r := AV.i64 v4) rfl rfl rfl (LOp.move rfl rfl) ?_
      refine ROps.l (r := AV.i64 a0) rfl rfl rfl (LOp.move rfl rfl) ?_
      refine ROps.l (r := AV.b false) rfl rfl rfl (LOp.eqb (LOp.lss rfl rfl rfl) hc1) ?_
      refine ROps.nil ?_
      refine RunC.cond_false rfl rfl ?_
      refine RunC.exit ?_
      cases Option.some.inj h2_
      have hx := ho2 _ rfl
      exact ⟨L3, u1, u2, ⟨(ALe.refl _), trivial⟩, ⟨⟨rfl, .inr rfl⟩, ⟨rfl, .inl rfl⟩, trivial⟩, hx⟩
  · rintro τ3 Γ3 ⟨L8, u6, u7, hw3, hd3, rfl⟩
    refine RunC.wl (τ' := [(3, AV.oref 0 u6 0 L8.length)]) (Γ' := [⟨u6, some (L8.map AV.i64)⟩, ⟨u7, none⟩]) hw3 hd3 ?_
    replace h : s_l03Count_k1 L8 = some q0 := h
    unfold s_l03Count_k1 at h
    refine RunC.seq ?_
    refine RunC.regionW ?_
    refine ROps.l (r := AV.oref 0 u6 0 L8.length) rfl rfl rfl (LOp.move rfl rfl) ?_
    refine ROps.l (r := AV.oref 0 u6 0 L8.length) rfl rfl rfl (LOp.assign rfl rfl) ?_
    refine ROps.nil ?_
    refine RunC.ret ?_
    have hq := Option.some.inj h
    subst q0
    exact bodyQ.mk (r' := AV.oref 0 u6 0 L8.length) [(0, u6)] (.inr rfl) rfl (show List.Nodup [0] from by decide) (by simp [AV.ren, AV.rens, sigma]) rfl (Res.one rfl (RV.tmp rfl)) (SelL.arr0 (f := AV.i64) (fun _ => rfl) rfl trivial)
noncomputable def s_l02At (a0 : Int) (a1 : Int) (a2 : List F) (a3 : Int) (a4 : Int) : Option (F) :=
  olet (IntKind.i64.wrap (a3 * a1)) fun (x1 : Int) =>
  olet (IntKind.i64.wrap (x1 + a4)) fun (x2 : Int) =>
  obind (at? a2 x2) fun (e3 : F) =>
  some e3
theorem s_l02At_ok (a0 : Int) (a1 : Int) (a2 : List F) (a3 : Int) (a4 : Int) (q0 : F) (h : s_l02At a0 a1 a2 a3 a4 = some q0) : Ev Try.prog 43 [AV.ptr [AV.i64 a0, AV.i64 a1, AV.sl a2.length (a2.map AV.f32)], AV.i64 a3, AV.i64 a4] [] (AV.f32 q0) [] := by
  refine Ev.start Try.func43 rfl rfl 0 (τ := [(0, AV.ptr [AV.i64 a0, AV.i64 a1, AV.sl a2.length (a2.map AV.f32)]), (1, AV.i64 a3), (2, AV.i64 a4)]) rfl (Γ' := []) rfl (n := 21) rfl (g := 0) rfl ?_
  unfold s_l02At at h
  refine RunC.seq ?_
  refine RunC.regionW ?_
  refine ROps.l (r := AV.f32 (some 0)) rfl rfl rfl (LOp.le (LOp.assign rfl rfl) (ALe.fl (by kernel_rfl) (by kernel_rfl))) ?_
  refine ROps.nil ?_
  refine RunC.seq ?_
  obtain ⟨x1, hx1, h⟩ := olet_some h
  obtain ⟨x2, hx2, h⟩ := olet_some h
  obtain ⟨e3, he3, h⟩ := obind_some h
  refine RunC.region_draw (Γ' := []) 15 mixed 
    (TR.l (r := AV.ptr [AV.i64 a0, AV.i64 a1, AV.sl a2.length (a2.map AV.f32)]) rfl rfl (LOp.move rfl rfl) <|
    (TR.l (r := AV.ptr [AV.i64 a0, AV.i64 a1, AV.sl a2.length (a2.map AV.f32)]) rfl rfl (LOp.nilCheck_ptr rfl rfl) <|
    (TR.l (r := AV.ptr [AV.sl a2.length (a2.map AV.f32)]) rfl rfl (LOp.fap und27 rfl siz22 rfl rfl rfl) <|
    (TR.l (r := AV.sl a2.length (a2.map AV.f32)) rfl rfl (LOp.load1 agg22 rfl rfl) <|
    (TR.l (r := AV.i64 a3) rfl rfl (LOp.move rfl rfl) <|
    (TR.l (r := AV.ptr [AV.i64 a0, AV.i64 a1, AV.sl a2.length (a2.map AV.f32)]) rfl rfl (LOp.move rfl rfl) <|
    (TR.l (r := AV.ptr [AV.i64 a0, AV.i64 a1, AV.sl a2.length (a2.map AV.f32)]) rfl rfl (LOp.nilCheck_ptr rfl rfl) <|
    (TR.l (r := AV.ptr [AV.i64 a1, AV.sl a2.length (a2.map AV.f32)]) rfl rfl (LOp.fap und27 rfl siz2 rfl rfl rfl) <|
    (TR.l (r := AV.i64 a1) rfl rfl (LOp.load1 agg2 rfl rfl) <|
    (TR.l (r := AV.i64 x1) rfl rfl (LOp.eqr (LOp.mul rfl rfl rfl) (congrArg (AV.ik .i64) hx1)) <|
    (TR.l (r := AV.i64 a4) rfl rfl (LOp.move rfl rfl) <|
    (TR.l (r := AV.i64 x2) rfl rfl (LOp.eqr (LOp.add rfl rfl rfl) (congrArg (AV.ik .i64) hx2)) <|
    (TR.l (r := AV.ptr [AV.f32 e3]) rfl rfl (LOp.le (LOp.ix (f := AV.f32) und22 siz25 rfl rfl rfl rfl he3) ALe.ptr) <|
    (TR.l (r := AV.f32 e3) rfl rfl (LOp.load1 agg25 rfl rfl) <|
    (TR.l (r := AV.f32 e3) rfl rfl (LOp.assign rfl rfl) <|
    TR.nil))))))))))))))) rfl (by kernel_rfl) rfl fills_nil rfl ?_
  iterate 15 refine ROps.dropS ?_
  refine ROps.drop0 ?_
  refine ROps.nil ?_
  refine RunC.ret ?_
  have hq := Option.some.inj h
  subst q0
  exact bodyQ.pure (.inr rfl) rfl (Res.one rfl (RV.tmp rfl))
noncomputable def s_l02Size (a0 : F) : Option (F) :=
  bsel (fle .f32 a0 (some 0)) (
    olet (fop .sub .f32 (some 0) a0) fun (x1 : F) =>
    some x1) (
    some a0)
theorem s_l02Size_ok (a0 : F) (q0 : F) (h : s_l02Size a0 = some q0) : Ev Try.prog 42 [AV.f32 a0] [] (AV.f32 q0) [] := by
  refine Ev.start Try.func42 rfl rfl 0 (τ := [(0, AV.f32 a0)]) rfl (Γ' := []) rfl (n := 8) rfl (g := 0) rfl ?_
  unfold s_l02Size at h
  refine RunC.seq ?_
  refine RunC.regionW ?_
  refine ROps.l (r := AV.f32 (some 0)) rfl rfl rfl (LOp.le (LOp.assign rfl rfl) (ALe.fl (by kernel_rfl) (by kernel_rfl))) ?_
  refine ROps.nil ?_
  refine RunC.seq ?_
  refine RunC.seq ?_
  rcases bsel_some h with ⟨hc1, h⟩ | ⟨hc1, h⟩
  · refine RunC.regionW ?_
    refine ROps.l (r := AV.f32 a0) rfl rfl rfl (LOp.move rfl rfl) ?_
    refine ROps.l (r := AV.b true) rfl rfl rfl (LOp.eqb (LOp.fle rfl (OpF.tmp rfl) (OpF.const rfl (by kernel_rfl) (by kernel_rfl))) hc1) ?_
    refine ROps.nil ?_
    refine RunC.cond_true rfl rfl ?_
    refine RunC.seq ?_
    obtain ⟨x1, hx2, h⟩ := olet_some h
    refine RunC.regionW ?_
    refine ROps.l (r := AV.f32 a0) rfl rfl rfl (LOp.move rfl rfl) ?_
    refine ROps.d (r := AV.f32 x1) (fs := []) (Γ' := []) rfl rfl rfl (TOp.eqr (TOp.fop (.inr (.inl rfl)) rfl (OpF.const rfl (by kernel_rfl) (by kernel_rfl)) (OpF.tmp rfl)) (congrArg (AV.f .f32) hx2)) rfl ?_
    refine ROps.l (r := AV.f32 x1) rfl rfl rfl (LOp.assign rfl rfl) ?_
    refine ROps.nil ?_
    refine RunC.ret ?_
    have hq := Option.some.inj h
    subst q0
    exact bodyQ.pure (.inr rfl) rfl (Res.one rfl (RV.tmp rfl))
  · refine RunC.regionW ?_
    refine ROps.l (r := AV.f32 a0) rfl rfl rfl (LOp.move rfl rfl) ?_
    refine ROps.l (r := AV.b false) rfl rfl rfl (LOp.eqb (LOp.fle rfl (OpF.tmp rfl) (OpF.const rfl (by kernel_rfl) (by kernel_rfl))) hc1) ?_
    refine ROps.nil ?_
    refine RunC.cond_false rfl rfl ?_
    refine RunC.skip ?_
    refine RunC.seq ?_
    refine RunC.regionW ?_
    refine ROps.l (r := AV.f32 a0) rfl rfl rfl (LOp.move rfl rfl) ?_
    refine ROps.l (r := AV.f32 a0) rfl rfl rfl (LOp.assign rfl rfl) ?_
    refine ROps.nil ?_
    refine RunC.ret ?_
    have hq := Option.some.inj h
    subst q0
    exact bodyQ.pure (.inr rfl) rfl (Res.one rfl (RV.tmp rfl))
noncomputable def s_l03Swap_0p0_C02o1_3o2_b1 (a0 : Int) (a1 : Int) (a3 : Int) (L1 : List F) (v3 : Int) : Option (LR ((List F) × Int) ((List F)) ((List F) × (List Int))) :=
  bsel (decide (v3 < a3)) (
    olet (IntKind.i64.wrap (a0 * a3)) fun (x4 : Int) =>
    olet (IntKind.i64.wrap (x4 + v3)) fun (x5 : Int) =>
    obind (at? L1 x5) fun (e6 : F) =>
    olet (IntKind.i64.wrap (a0 * a3)) fun (x7 : Int) =>
    olet (IntKind.i64.wrap (x7 + v3)) fun (x8 : Int) =>
    olet (IntKind.i64.wrap (a1 * a3)) fun (x9 : Int) =>
    olet (IntKind.i64.wrap (x9 + v3)) fun (x10 : Int) =>
    obind (at? L1 x10) fun (e11 : F) =>
    obind (setAt? L1 x8 e11) fun (L12 : List F) =>
    olet (IntKind.i64.wrap (a1 * a3)) fun (x13 : Int) =>
    olet (IntKind.i64.wrap (x13 + v3)) fun (x14 : Int) =>
    obind (setAt? L12 x14 e6) fun (L15 : List F) =>
    olet (IntKind.i64.wrap (v3 + 1)) fun (x16 : Int) =>
    some (LR.next (L15, x16))) (
    some (LR.out L1))
noncomputable def s_l03Swap_0p0_C02o1_3o2_s1 (a0 : Int) (a1 : Int) (a3 : Int) : ((List F) × Int) → Option (LR ((List F) × Int) ((List F)) ((List F) × (List Int))) := fun s => s_l03Swap_0p0_C02o1_3o2_b1 a0 a1 a3 s.1 s.2
noncomputable def s_l03Swap_0p0_C02o1_3o2_k1 (a5 : List Int) (L17 : List F) : Option ((List F) × (List Int)) :=
  some (L17, a5)
noncomputable def s_l03Swap_0p0_C02o1_3o2 (a0 : Int) (a1 : Int) (a2 : Int) (a3 : Int) (a4 : List F) (a5 : List Int) : Option ((List F) × (List Int)) :=
  obind (loopM (s_l03Swap_0p0_C02o1_3o2_s1 a0 a1 a3) (a4, 0)) fun z => osum z (fun e => s_l03Swap_0p0_C02o1_3o2_k1 a5 e) (fun r => some r)
theorem s_l03Swap_0p0_C02o1_3o2_ok (a0 : Int) (a1 : Int) (a2 : Int) (a3 : Int) (a4 : List F) (a5 : List Int) (q0 : List F) (q1 : List Int) (h : s_l03Swap_0p0_C02o1_3o2 a0 a1 a2 a3 a4 a5 = some (q0, q1)) : Ev Try.prog 70 [AV.optr 0 0 0, AV.i64 a0, AV.i64 a1] [⟨0, some [AV.i64 a2, AV.i64 a3, AV.oref 1 0 0 a4.length, AV.oref 2 0 0 a5.length]⟩, ⟨0, some (a4.map AV.f32)⟩, ⟨0, some (a5.map AV.i64)⟩] (AV.tup []) [⟨0, some [AV.i64 a2, AV.i64 a3, AV.oref 1 0 0 a4.length, AV.oref 2 0 0 a5.length]⟩, ⟨0, some (q0.map AV.f32)⟩, ⟨0, some (q1.map AV.i64)⟩] := by
  refine Ev.start Try.func70 rfl rfl 0 (τ := [(0, AV.optr 0 0 0), (1, AV.i64 a0), (2, AV.i64 a1)]) rfl (Γ' := [⟨0, some [AV.i64 a2, AV.i64 a3, AV.oref 1 0 0 a4.length, AV.oref 2 0 0 a5.length]⟩, ⟨0, some (a4.map AV.f32)⟩, ⟨0, some (a5.map AV.i64)⟩]) rfl (n := 71) rfl (g := 3) rfl ?_
  unfold s_l03Swap_0p0_C02o1_3o2 at h
  refine RunC.seq ?_
  refine RunC.regionW ?_
  refine ROps.l (r := AV.i64 0) rfl rfl rfl (LOp.assign rfl rfl) ?_
  refine ROps.nil ?_
  obtain ⟨z2, hz_2, h⟩ := obind_some h
  refine RunC.cutN (fun τ Γ => ∃ (L17 : List F), L17.length = a4.length ∧ WeakLe τ [] ∧ DeadLe Γ [⟨0, some [AV.i64 a2, AV.i64 a3, AV.oref 1 0 0 a4.length, AV.oref 2 0 0 a5.length]⟩, ⟨0, some (L17.map AV.f32)⟩, ⟨0, some (a5.map AV.i64)⟩] ∧ z2 = .inl L17) ?_ ?_
  · refine RunC.block (RunC.loop (RunL.loopM (x := z2) (s_l03Swap_0p0_C02o1_3o2_s1 a0 a1 a3) (fun (s : (List F) × Int) τ Γ => s.1.length = a4.length ∧ WeakLe τ [(0, AV.optr 0 0 0), (1, AV.i64 a0), (2, AV.i64 a1), (6, AV.i64 s.2)] ∧ DeadLe Γ [⟨0, some [AV.i64 a2, AV.i64 a3, AV.oref 1 0 0 a4.length, AV.oref 2 0 0 a5.length]⟩, ⟨0, some (s.1.map AV.f32)⟩, ⟨0, some (a5.map AV.i64)⟩]) ?_ _ _ _ hz_2 ⟨rfl, ⟨(ALe.refl _), (ALe.refl _), (ALe.refl _), (ALe.refl _), trivial⟩, ⟨⟨rfl, .inr rfl⟩, ⟨rfl, .inr rfl⟩, ⟨rfl, .inr rfl⟩, trivial⟩⟩))
    rintro ⟨L1, v3⟩ τ2 Γ2 y2_ ⟨hl2, hw2, hd2⟩ h2_ ho2 hr2
    refine RunC.wl (τ' := [(0, AV.optr 0 0 0), (1, AV.i64 a0), (2, AV.i64 a1), (6, AV.i64 v3)]) (Γ' := [⟨0, some [AV.i64 a2, AV.i64 a3, AV.oref 1 0 0 a4.length, AV.oref 2 0 0 a5.length]⟩, ⟨0, some (L1.map AV.f32)⟩, ⟨0, some (a5.map AV.i64)⟩]) hw2 hd2 ?_
    replace hl2 : L1.length = a4.length := hl2
    replace h2_ : s_l03Swap_0p0_C02o1_3o2_b1 a0 a1 a3 L1 v3 = some y2_ := h2_
    unfold s_l03Swap_0p0_C02o1_3o2_b1 at h2_
    refine RunC.seq ?_
    refine RunC.seq ?_
    rcases bsel_some h2_ with ⟨hc1, h2_⟩ | ⟨hc1, h2_⟩
    · refine RunC.regionW ?_
      refine ROps.l (r := AV.i64 v3) rfl rfl rfl (LOp.move rfl rfl) ?_
      refine ROps.l (r := AV.optr 0 0 0) rfl rfl rfl (LOp.move rfl rfl) ?_
      refine ROps.l (r := AV.optr 0 0 0) rfl rfl rfl (LOp.nilCheck_optr rfl rfl) ?_
      refine ROps.l (r := AV.optr 0 0 1) rfl rfl rfl (LOp.fao und27 rfl siz2 rfl rfl rfl) ?_
      refine ROps.d (r := AV.i64 a3) (fs := []) (Γ' := [⟨0, some [AV.i64 a2, AV.i64 a3, AV.oref 1 0 0 a4.length, AV.oref 2 0 0 a5.length]⟩, ⟨0, some (L1.map AV.f32)⟩, ⟨0, some (a5.map AV.i64)⟩]) rfl rfl rfl (TOp.load1_o rfl rfl agg2 rfl rfl) rfl ?_
      refine ROps.l (r := AV.b true) rfl rfl rfl (LOp.eqb (LOp.lss rfl rfl rfl) hc1) ?_
      refine ROps.nil ?_
      refine RunC.cond_true rfl rfl ?_
      refine RunC.skip ?_
      refine RunC.seq ?_
      refine RunC.block ?_
      refine RunC.seq ?_
      obtain ⟨x4, hx2, h2_⟩ := olet_some h2_
      obtain ⟨x5, hx3, h2_⟩ := olet_some h2_
      obtain ⟨e6, he4, h2_⟩ := obind_some h2_
      refine RunC.region_draw (Γ' := [⟨0, some [AV.i64 a2, AV.i64 a3, AV.oref 1 0 0 a4.length, AV.oref 2 0 0 a5.length]⟩, ⟨0, some (L1.map AV.f32)⟩, ⟨0, some (a5.map AV.i64)⟩]) 15 mixed 
        (TR.l (r := AV.optr 0 0 0) rfl rfl (LOp.move rfl rfl) <|
        (TR.l (r := AV.optr 0 0 0) rfl rfl (LOp.nilCheck_optr rfl rfl) <|
        (TR.l (r := AV.optr 0 0 2) rfl rfl (LOp.fao und27 rfl siz22 rfl rfl rfl) <|
        (TR.d (r := AV.oref 1 0 0 a4.length) (fs := []) rfl rfl (TOp.load1_o rfl rfl agg22 rfl rfl) <|
        (TR.l (r := AV.i64 a0) rfl rfl (LOp.move rfl rfl) <|
        (TR.l (r := AV.optr 0 0 0) rfl rfl (LOp.move rfl rfl) <|
        (TR.l (r := AV.optr 0 0 0) rfl rfl (LOp.nilCheck_optr rfl rfl) <|
        (TR.l (r := AV.optr 0 0 1) rfl rfl (LOp.fao und27 rfl siz2 rfl rfl rfl) <|
        (TR.d (r := AV.i64 a3) (fs := []) rfl rfl (TOp.load1_o rfl rfl agg2 rfl rfl) <|
        (TR.l (r := AV.i64 x4) rfl rfl (LOp.eqr (LOp.mul rfl rfl rfl) (congrArg (AV.ik .i64) hx2)) <|
        (TR.l (r := AV.i64 v3) rfl rfl (LOp.move rfl rfl) <|
        (TR.l (r := AV.i64 x5) rfl rfl (LOp.eqr (LOp.add rfl rfl rfl) (congrArg (AV.ik .i64) hx3)) <|
        (TR.d (r := AV.optr 1 0 x5.toNat) (fs := []) rfl rfl (TOp.ixo und22 siz25 rfl rfl rfl (at_in he4 hl2) rfl) <|
        (TR.d (r := AV.f32 e6) (fs := []) rfl rfl (TOp.load1_o rfl (at_cell he4) agg25 rfl rfl) <|
        (TR.l (r := AV.f32 e6) rfl rfl (LOp.assign rfl rfl) <|
        TR.nil))))))))))))))) rfl (by kernel_rfl) rfl fills_nil rfl ?_
      iterate 15 refine ROps.dropS ?_
      refine ROps.drop0 ?_
      refine ROps.nil ?_
      refine RunC.wl (τ' := [(0, AV.optr 0 0 0), (1, AV.i64 a0), (2, AV.i64 a1), (6, AV.i64 v3), (7, AV.f32 e6)]) (Γ' := [⟨0, some [AV.i64 a2, AV.i64 a3, AV.oref 1 0 0 a4.length, AV.oref 2 0 0 a5.length]⟩, ⟨0, some (L1.map AV.f32)⟩, ⟨0, some (a5.map AV.i64)⟩]) ⟨(ALe.refl _), (ALe.refl _), (ALe.refl _), (ALe.refl _), (ALe.refl _), trivial⟩ ⟨⟨rfl, .inr rfl⟩, ⟨rfl, .inr rfl⟩, ⟨rfl, .inr rfl⟩, trivial⟩ ?_
      refine RunC.seq ?_
      obtain ⟨x7, hx5, h2_⟩ := olet_some h2_
      obtain ⟨x8, hx6, h2_⟩ := olet_some h2_
      obtain ⟨x9, hx7, h2_⟩ := olet_some h2_
      obtain ⟨x10, hx8, h2_⟩ := olet_some h2_
      obtain ⟨e11, he9, h2_⟩ := obind_some h2_
      obtain ⟨L12, he10, h2_⟩ := obind_some h2_
      refine RunC.region_draw (Γ' := [⟨0, some [AV.i64 a2, AV.i64 a3, AV.oref 1 0 0 a4.length, AV.oref 2 0 0 a5.length]⟩, ⟨0, some (L1.map AV.f32)⟩, ⟨0, some (a5.map AV.i64)⟩]) 27 mixed 
        (TR.l (r := AV.optr 0 0 0) rfl rfl (LOp.move rfl rfl) <|
        (TR.l (r := AV.optr 0 0 0) rfl rfl (LOp.nilCheck_optr rfl rfl) <|
        (TR.l (r := AV.optr 0 0 2) rfl rfl (LOp.fao und27 rfl siz22 rfl rfl rfl) <|
        (TR.d (r := AV.oref 1 0 0 a4.length) (fs := []) rfl rfl (TOp.load1_o rfl rfl agg22 rfl rfl) <|
        (TR.l (r := AV.i64 a0) rfl rfl (LOp.move rfl rfl) <|
        (TR.l (r := AV.optr 0 0 0) rfl rfl (LOp.move rfl rfl) <|
        (TR.l (r := AV.optr 0 0 0) rfl rfl (LOp.nilCheck_optr rfl rfl) <|
        (TR.l (r := AV.optr 0 0 1) rfl rfl (LOp.fao und27 rfl siz2 rfl rfl rfl) <|
        (TR.d (r := AV.i64 a3) (fs := []) rfl rfl (TOp.load1_o rfl rfl agg2 rfl rfl) <|
        (TR.l (r := AV.i64 x7) rfl rfl (LOp.eqr (LOp.mul rfl rfl rfl) (congrArg (AV.ik .i64) hx5)) <|
        (TR.l (r := AV.i64 v3) rfl rfl (LOp.move rfl rfl) <|
        (TR.l (r := AV.i64 x8) rfl rfl (LOp.eqr (LOp.add rfl rfl rfl) (congrArg (AV.ik .i64) hx6)) <|
        (TR.l (r := AV.optr 0 0 0) rfl rfl (LOp.move rfl rfl) <|
        (TR.l (r := AV.optr 0 0 0) rfl rfl (LOp.nilCheck_optr rfl rfl) <|
        (TR.l (r := AV.optr 0 0 2) rfl rfl (LOp.fao und27 rfl siz22 rfl rfl rfl) <|
        (TR.d (r := AV.oref 1 0 0 a4.length) (fs := []) rfl rfl (TOp.load1_o rfl rfl agg22 rfl rfl) <|
        (TR.l (r := AV.i64 a1) rfl rfl (LOp.move rfl rfl) <|
        (TR.l (r := AV.optr 0 0 0) rfl rfl (LOp.move rfl rfl) <|
        (TR.l (r := AV.optr 0 0 0) rfl rfl (LOp.nilCheck_optr rfl rfl) <|
        (TR.l (r := AV.optr 0 0 1) rfl rfl (LOp.fao und27 rfl siz2 rfl rfl rfl) <|
        (TR.d (r := AV.i64 a3) (fs := []) rfl rfl (TOp.load1_o rfl rfl agg2 rfl rfl) <|
        (TR.l (r := AV.i64 x9) rfl rfl (LOp.eqr (LOp.mul rfl rfl rfl) (congrArg (AV.ik .i64) hx7)) <|
        (TR.l (r := AV.i64 v3) rfl rfl (LOp.move rfl rfl) <|
        (TR.l (r := AV.i64 x10) rfl rfl (LOp.eqr (LOp.add rfl rfl rfl) (congrArg (AV.ik .i64) hx8)) <|
        (TR.d (r := AV.optr 1 0 x10.toNat) (fs := []) rfl rfl (TOp.ixo und22 siz25 rfl rfl rfl (at_in he9 hl2) rfl) <|
        (TR.d (r := AV.f32 e11) (fs := []) rfl rfl (TOp.load1_o rfl (at_cell he9) agg25 rfl rfl) <|
        (TR.d (r := AV.optr 1 0 x8.toNat) (fs := []) rfl rfl (TOp.ixo und22 siz25 rfl rfl rfl (set_in he10 hl2) rfl) <|
        TR.nil))))))))))))))))))))))))))) rfl (by kernel_rfl) rfl fills_nil rfl ?_
      iterate 27 refine ROps.dropS ?_
      refine ROps.drop0 ?_
      refine ROps.st (f := AV.f32) (i := x8) (Γ' := [⟨0, some [AV.i64 a2, AV.i64 a3, AV.oref 1 0 0 a4.length, AV.oref 2 0 0 a5.length]⟩, ⟨0, some (L12.map AV.f32)⟩, ⟨0, some (a5.map AV.i64)⟩]) rfl siz25 rfl rfl rfl (ALe.refl _) rfl rfl rfl he10 rfl ?_
      refine ROps.nil ?_
      refine RunC.wl (τ' := [(0, AV.optr 0 0 0), (1, AV.i64 a0), (2, AV.i64 a1), (6, AV.i64 v3), (7, AV.f32 e6)]) (Γ' := [⟨0, some [AV.i64 a2, AV.i64 a3, AV.oref 1 0 0 a4.length, AV.oref 2 0 0 a5.length]⟩, ⟨0, some (L12.map AV.f32)⟩, ⟨0, some (a5.map AV.i64)⟩]) ⟨(ALe.refl _), (ALe.refl _), (ALe.refl _), (ALe.refl _), (ALe.refl _), trivial⟩ ⟨⟨rfl, .inr rfl⟩, ⟨rfl, .inr rfl⟩, ⟨rfl, .inr rfl⟩, trivial⟩ ?_
      obtain ⟨x13, hx11, h2_⟩ := olet_some h2_
      obtain ⟨x14, hx12, h2_⟩ := olet_some h2_
      obtain ⟨L15, he13, h2_⟩ := obind_some h2_
      refine RunC.region_draw (Γ' := [⟨0, some [AV.i64 a2, AV.i64 a3, AV.oref 1 0 0 a4.length, AV.oref 2 0 0 a5.length]⟩, ⟨0, some (L12.map AV.f32)⟩, ⟨0, some (a5.map AV.i64)⟩]) 14 mixed 
        (TR.l (r := AV.optr 0 0 0) rfl rfl (LOp.move rfl rfl) <|
        (TR.l (r := AV.optr 0 0 0) rfl rfl (LOp.nilCheck_optr rfl rfl) <|
        (TR.l (r := AV.optr 0 0 2) rfl rfl (LOp.fao und27 rfl siz22 rfl rfl rfl) <|
        (TR.d (r := AV.oref 1 0 0 a4.length) (fs := []) rfl rfl (TOp.load1_o rfl rfl agg22 rfl rfl) <|
        (TR.l (r := AV.i64 a1) rfl rfl (LOp.move rfl rfl) <|
        (TR.l (r := AV.optr 0 0 0) rfl rfl (LOp.move rfl rfl) <|
        (TR.l (r := AV.optr 0 0 0) rfl rfl (LOp.nilCheck_optr rfl rfl) <|
        (TR.l (r := AV.optr 0 0 1) rfl rfl (LOp.fao und27 rfl siz2 rfl rfl rfl) <|
        (TR.d (r := AV.i64 a3) (fs := []) rfl rfl (TOp.load1_o rfl rfl agg2 rfl rfl) <|
        (TR.l (r := AV.i64 x13) rfl rfl (LOp.eqr (LOp.mul rfl rfl rfl) (congrArg (AV.ik .i64) hx11)) <|
        (TR.l (r := AV.i64 v3) rfl rfl (LOp.move rfl rfl) <|
        (TR.l (r := AV.i64 x14) rfl rfl (LOp.eqr (LOp.add rfl rfl rfl) (congrArg (AV.ik .i64) hx12)) <|
        (TR.l (r := AV.f32 e6) rfl rfl (LOp.move rfl rfl) <|
        (TR.d (r := AV.optr 1 0 x14.toNat) (fs := []) rfl rfl (TOp.ixo und22 siz25 rfl rfl rfl (set_in he13 ((setAt?_len he10).trans hl2)) rfl) <|
        TR.nil)))))))))))))) rfl (by kernel_rfl) rfl fills_nil rfl ?_
      iterate 14 refine ROps.dropS ?_
      refine ROps.drop0 ?_
      refine ROps.st (f := AV.f32) (i := x14) (Γ' := [⟨0, some [AV.i64 a2, AV.i64 a3, AV.oref 1 0 0 a4.length, AV.oref 2 0 0 a5.length]⟩, ⟨0, some (L15.map AV.f32)⟩, ⟨0, some (a5.map AV.i64)⟩]) rfl siz25 rfl rfl rfl (ALe.refl _) rfl rfl rfl he13 rfl ?_
      refine ROps.nil ?_
      refine RunC.wl (τ' := [(0, AV.optr 0 0 0), (1, AV.i64 a0), (2, AV.i64 a1), (6, AV.i64 v3)]) (Γ' := [⟨0, some [AV.i64 a2, AV.i64 a3, AV.oref 1 0 0 a4.length, AV.oref 2 0 0 a5.length]⟩, ⟨0, some (L15.map AV.f32)⟩, ⟨0, some (a5.map AV.i64)⟩]) ⟨(ALe.refl _), (ALe.refl _), (ALe.refl _), (ALe.refl _), trivial⟩ ⟨⟨rfl, .inr rfl⟩, ⟨rfl, .inr rfl⟩, ⟨rfl, .inr rfl⟩, trivial⟩ ?_
      obtain ⟨x16, hx14, h2_⟩ := olet_some h2_
      refine RunC.regionW ?_
      refine ROps.l (r := AV.i64 v3) rfl rfl rfl (LOp.move rfl rfl) ?_
      refine ROps.l (r := AV.i64 x16) rfl rfl rfl (LOp.eqr (LOp.add rfl rfl rfl) (congrArg (AV.ik .i64) hx14)) ?_
      refine ROps.l (r := AV.i64 x16) rfl rfl rfl (LOp.assign rfl rfl) ?_
      refine ROps.nil ?_
      cases Option.some.inj h2_
      exact ⟨_, rfl, ((setAt?_len he13).trans ((setAt?_len he10).trans hl2)), ⟨(ALe.refl _), (ALe.refl _), (ALe.refl _), (ALe.refl _), trivial⟩, ⟨⟨rfl, .inr rfl⟩, ⟨rfl, .inr rfl⟩, ⟨rfl, .inr rfl⟩, trivial⟩⟩
    · refine RunC.regionW ?_
      refine ROps.l (r := AV.i64 v3) rfl rfl rfl (LOp.move rfl rfl) ?_
      refine ROps.l (r := AV.optr 0 0 0) rfl rfl rfl (LOp.move rfl rfl) ?_
      refine ROps.l (r := AV.optr 0 0 0) rfl rfl rfl (LOp.nilCheck_optr rfl rfl) ?_
      refine ROps.l (r := AV.optr 0 0 1) rfl rfl rfl (LOp.fao und27 rfl siz2 rfl rfl rfl) ?_
      refine ROps.d (r := AV.i64 a3) (fs := []) (Γ' := [⟨0, some [AV.i64 a2, AV.i64 a3, AV.oref 1 0 0 a4.length, AV.oref 2 0 0 a5.length]⟩, ⟨0, some (L1.map AV.f32)⟩, ⟨0, some (a5.map AV.i64)⟩]) rfl rfl rfl (TOp.load1_o rfl rfl agg2 rfl rfl) rfl ?_
      refine ROps.l (r := AV.b false) rfl rfl rfl (LOp.eqb (LOp.lss rfl rfl rfl) hc1) ?_
      refine ROps.nil ?_
      refine RunC.cond_false rfl rfl ?_
      refine RunC.exit ?_
      cases Option.some.inj h2_
      have hx := ho2 _ rfl
      exact ⟨L1, hl2, trivial, ⟨⟨rfl, .inr rfl⟩, ⟨rfl, .inr rfl⟩, ⟨rfl, .inr rfl⟩, trivial⟩, hx⟩
  · rintro τ3 Γ3 ⟨L17, hl18, hw3, hd3, rfl⟩
    replace h : s_l03Swap_0p0_C02o1_3o2_k1 a5 L17 = some (q0, q1) := h
    unfold s_l03Swap_0p0_C02o1_3o2_k1 at h
    refine bodyQ.wl hw3 hd3 ?_
    have hq := Option.some.inj h
    obtain ⟨hq0, hq⟩ := Prod.mk.inj hq
    subst q0
    subst q1
    exact bodyQ.mk (r' := AV.tup []) [(0, 0), (1, 0), (2, 0)] (.inl rfl) rfl (show List.Nodup [0, 1, 2] from by decide) rfl rfl (Res.zero rfl) (SelL.cells rfl (by first | rfl | simp [AV.ren, AV.rens, sigma, rens_f32, rens_f64, rens_i64, rens_ik, rens_str, rens_cp]) rfl (SelL.arr (f := AV.f32) (fun _ => rfl) rfl (SelL.arr (f := AV.i64) (fun _ => rfl) rfl trivial)))
noncomputable def s_l03Trade_0o (a0 : Int) (a1 : Int) (a2 : List Int) : Option ((List Int)) :=
  obind (at? a2 a0) fun (e1 : Int) =>
  obind (at? a2 a1) fun (e2 : Int) =>
  obind (setAt? a2 a0 e2) fun (L3 : List Int) =>
  obind (setAt? L3 a1 e1) fun (L4 : List Int) =>
  some L4
theorem s_l03Trade_0o_ok (a0 : Int) (a1 : Int) (a2 : List Int) (q0 : List Int) (h : s_l03Trade_0o a0 a1 a2 = some q0) : Ev Try.prog 71 [AV.oref 0 0 0 a2.length, AV.i64 a0, AV.i64 a1] [⟨0, some (a2.map AV.i64)⟩] (AV.tup []) [⟨0, some (q0.map AV.i64)⟩] := by
  refine Ev.start Try.func71 rfl rfl 0 (τ := [(0, AV.oref 0 0 0 a2.length), (1, AV.i64 a0), (2, AV.i64 a1)]) rfl (Γ' := [⟨0, some (a2.map AV.i64)⟩]) rfl (n := 22) rfl (g := 1) rfl ?_
  unfold s_l03Trade_0o at h
  refine RunC.seq ?_
  obtain ⟨e1, he1, h⟩ := obind_some h
  refine RunC.regionW ?_
  refine ROps.l (r := AV.oref 0 0 0 a2.length) rfl rfl rfl (LOp.move rfl rfl) ?_
  refine ROps.l (r := AV.i64 a0) rfl rfl rfl (LOp.move rfl rfl) ?_
  refine ROps.d (r := AV.optr 0 0 a0.toNat) (fs := []) (Γ' := [⟨0, some (a2.map AV.i64)⟩]) rfl rfl rfl (TOp.ixo und28 siz2 rfl rfl rfl (at_in he1 rfl) rfl) rfl ?_
  refine ROps.d (r := AV.i64 e1) (fs := []) (Γ' := [⟨0, some (a2.map AV.i64)⟩]) rfl rfl rfl (TOp.load1_o rfl (at_cell he1) agg2 rfl rfl) rfl ?_
  refine ROps.l (r := AV.i64 e1) rfl rfl rfl (LOp.assign rfl rfl) ?_
  refine ROps.nil ?_
  refine RunC.seq ?_
  obtain ⟨e2, he2, h⟩ := obind_some h
  obtain ⟨L3, he3, h⟩ := obind_some h
  refine RunC.regionW ?_
  refine ROps.l (r := AV.oref 0 0 0 a2.length) rfl rfl rfl (LOp.move rfl rfl) ?_
  refine ROps.l (r := AV.i64 a0) rfl rfl rfl (LOp.move rfl rfl) ?_
  refine ROps.l (r := AV.oref 0 0 0 a2.length) rfl rfl rfl (LOp.move rfl rfl) ?_
  refine ROps.l (r := AV.i64 a1) rfl rfl rfl (LOp.move rfl rfl) ?_
  refine ROps.d (r := AV.optr 0 0 a1.toNat) (fs := []) (Γ' := [⟨0, some (a2.map AV.i64)⟩]) rfl rfl rfl (TOp.ixo und28 siz2 rfl rfl rfl (at_in he2 rfl) rfl) rfl ?_
  refine ROps.d (r := AV.i64 e2) (fs := []) (Γ' := [⟨0, some (a2.map AV.i64)⟩]) rfl rfl rfl (TOp.load1_o rfl (at_cell he2) agg2 rfl rfl) rfl ?_
  refine ROps.d (r := AV.optr 0 0 a0.toNat) (fs := []) (Γ' := [⟨0, some (a2.map AV.i64)⟩]) rfl rfl rfl (TOp.ixo und28 siz2 rfl rfl rfl (set_in he3 rfl) rfl) rfl ?_
  refine ROps.st (f := AV.i64) (i := a0) (Γ' := [⟨0, some (L3.map AV.i64)⟩]) rfl siz2 rfl rfl rfl (ALe.refl _) rfl rfl rfl he3 rfl ?_
  refine ROps.nil ?_
  obtain ⟨L4, he4, h⟩ := obind_some h
  refine RunC.regionW ?_
  refine ROps.l (r := AV.oref 0 0 0 a2.length) rfl rfl rfl (LOp.move rfl rfl) ?_
  refine ROps.l (r := AV.i64 a1) rfl rfl rfl (LOp.move rfl rfl) ?_
  refine ROps.l (r := AV.i64 e1) rfl rfl rfl (LOp.move rfl rfl) ?_
  refine ROps.d (r := AV.optr 0 0 a1.toNat) (fs := []) (Γ' := [⟨0, some (L3.map AV.i64)⟩]) rfl rfl rfl (TOp.ixo und28 siz2 rfl rfl rfl (set_in he4 (setAt?_len he3)) rfl) rfl ?_
  refine ROps.st (f := AV.i64) (i := a1) (Γ' := [⟨0, some (L4.map AV.i64)⟩]) rfl siz2 rfl rfl rfl (ALe.refl _) rfl rfl rfl he4 rfl ?_
  refine ROps.nil ?_
  have hq := Option.some.inj h
  subst q0
  exact bodyQ.mk (r' := AV.tup []) [(0, 0)] (.inl rfl) rfl (show List.Nodup [0] from by decide) rfl rfl (Res.zero rfl) (SelL.arr (f := AV.i64) (fun _ => rfl) rfl trivial)
noncomputable def s_l03Clear_0p0_C02o1_3o2_b2 (a0 : Int) (a2 : Int) (a4 : List Int) (v4 : Int) (x11 : F) (L17 : List F) (v19 : Int) : Option (LR ((List F) × Int) ((List F)) (Bool × (List F) × (List Int))) :=
  bsel (decide (v19 < a2)) (
    olet (IntKind.i64.wrap (v4 * a2)) fun (x20 : Int) =>
    olet (IntKind.i64.wrap (x20 + v19)) fun (x21 : Int) =>
    obind (at? L17 x21) fun (e22 : F) =>
    olet (IntKind.i64.wrap (a0 * a2)) fun (x23 : Int) =>
    olet (IntKind.i64.wrap (x23 + v19)) fun (x24 : Int) =>
    obind (at? L17 x24) fun (e25 : F) =>
    olet (fop .mul .f32 x11 e25) fun (x26 : F) =>
    olet (fop .sub .f32 e22 x26) fun (x27 : F) =>
    olet (IntKind.i64.wrap (v4 * a2)) fun (x28 : Int) =>
    olet (IntKind.i64.wrap (x28 + v19)) fun (x29 : Int) =>
    obind (setAt? L17 x29 x27) fun (L30 : List F) =>
    obind (s_l01Finite x27) fun (r31 : Bool) =>
    bsel r31 (
      olet (IntKind.i64.wrap (v19 + 1)) fun (x32 : Int) =>
      some (LR.next (L30, x32))) (
      some (LR.ret (false, L30, a4)))) (
    some (LR.out L17))
noncomputable def s_l03Clear_0p0_C02o1_3o2_s2 (a0 : Int) (a2 : Int) (a4 : List Int) (v4 : Int) (x11 : F) : ((List F) × Int) → Option (LR ((List F) × Int) ((List F)) (Bool × (List F) × (List Int))) := fun s => s_l03Clear_0p0_C02o1_3o2_b2 a0 a2 a4 v4 x11 s.1 s.2
noncomputable def s_l03Clear_0p0_C02o1_3o2_k2 (v4 : Int) (L33 : List F) : Option (LR ((List F) × Int) ((List F)) (Bool × (List F) × (List Int))) :=
  olet (IntKind.i64.wrap (v4 + 1)) fun (x35 : Int) =>
  some (LR.next (L33, x35))
noncomputable def s_l03Clear_0p0_C02o1_3o2_b3 (a0 : Int) (a1 : Int) (a2 : Int) (a4 : List Int) (L2 : List F) (v4 : Int) : Option (LR ((List F) × Int) ((List F)) (Bool × (List F) × (List Int))) :=
  bsel (decide (v4 < a1)) (
    olet (IntKind.i64.wrap (v4 * a2)) fun (x5 : Int) =>
    olet (IntKind.i64.wrap (x5 + a0)) fun (x6 : Int) =>
    obind (at? L2 x6) fun (e7 : F) =>
    olet (IntKind.i64.wrap (a0 * a2)) fun (x8 : Int) =>
    olet (IntKind.i64.wrap (x8 + a0)) fun (x9 : Int) =>
    obind (at? L2 x9) fun (e10 : F) =>
    olet (fop .quo .f32 e7 e10) fun (x11 : F) =>
    olet (IntKind.i64.wrap (v4 * a2)) fun (x12 : Int) =>
    olet (IntKind.i64.wrap (x12 + a0)) fun (x13 : Int) =>
    obind (setAt? L2 x13 x11) fun (L14 : List F) =>
    obind (s_l01Finite x11) fun (r15 : Bool) =>
    bsel r15 (
      olet (IntKind.i64.wrap (a0 + 1)) fun (x16 : Int) =>
      obind (loopM (s_l03Clear_0p0_C02o1_3o2_s2 a0 a2 a4 v4 x11) (L14, x16)) fun z => osum z (fun e => s_l03Clear_0p0_C02o1_3o2_k2 v4 e) (fun r => some (LR.ret r))) (
      some (LR.ret (false, L14, a4)))) (
    some (LR.out L2))
noncomputable def s_l03Clear_0p0_C02o1_3o2_s3 (a0 : Int) (a1 : Int) (a2 : Int) (a4 : List Int) : ((List F) × Int) → Option (LR ((List F) × Int) ((List F)) (Bool × (List F) × (List Int))) := fun s => s_l03Clear_0p0_C02o1_3o2_b3 a0 a1 a2 a4 s.1 s.2
noncomputable def s_l03Clear_0p0_C02o1_3o2_k3 (a4 : List Int) (L36 : List F) : Option (Bool × (List F) × (List Int)) :=
  some (true, L36, a4)
noncomputable def s_l03Clear_0p0_C02o1_3o2 (a0 : Int) (a1 : Int) (a2 : Int) (a3 : List F) (a4 : List Int) : Option (Bool × (List F) × (List Int)) :=
  olet (IntKind.i64.wrap (a0 + 1)) fun (x1 : Int) =>
  obind (loopM (s_l03Clear_0p0_C02o1_3o2_s3 a0 a1 a2 a4) (a3, x1)) fun z => osum z (fun e => s_l03Clear_0p0_C02o1_3o2_k3 a4 e) (fun r => some r)
theorem s_l03Clear_0p0_C02o1_3o2_ok (a0 : Int) (a1 : Int) (a2 : Int) (a3 : List F) (a4 : List Int) (q0 : Bool) (q1 : List F) (q2 : List Int) (h : s_l03Clear_0p0_C02o1_3o2 a0 a1 a2 a3 a4 = some (q0, q1, q2)) : Ev Try.prog 72 [AV.optr 0 0 0, AV.i64 a0] [⟨0, some [AV.i64 a1, AV.i64 a2, AV.oref 1 0 0 a3.length, AV.oref 2 0 0 a4.length]⟩, ⟨0, some (a3.map AV.f32)⟩, ⟨0, some (a4.map AV.i64)⟩] (AV.b q0) [⟨0, some [AV.i64 a1, AV.i64 a2, AV.oref 1 0 0 a3.length, AV.oref 2 0 0 a4.length]⟩, ⟨0, some (q1.map AV.f32)⟩, ⟨0, some (q2.map AV.i64)⟩] := by
  refine Ev.start Try.func72 rfl rfl 0 (τ := [(0, AV.optr 0 0 0), (1, AV.i64 a0)]) rfl (Γ' := [⟨0, some [AV.i64 a1, AV.i64 a2, AV.oref 1 0 0 a3.length, AV.oref 2 0 0 a4.length]⟩, ⟨0, some (a3.map AV.f32)⟩, ⟨0, some (a4.map AV.i64)⟩]) rfl (n := 107) rfl (g := 3) rfl ?_
  unfold s_l03Clear_0p0_C02o1_3o2 at h
  refine RunC.seq ?_
  refine RunC.regionW ?_
  refine ROps.l (r := AV.b false) rfl rfl rfl (LOp.assign rfl rfl) ?_
  refine ROps.nil ?_
  refine RunC.seq ?_
  refine RunC.regionW ?_
  refine ROps.l (r := AV.optr 0 0 0) rfl rfl rfl (LOp.move rfl rfl) ?_
  refine ROps.l (r := AV.optr 0 0 0) rfl rfl rfl (LOp.nilCheck_optr rfl rfl) ?_
  refine ROps.l (r := AV.optr 0 0 1) rfl rfl rfl (LOp.fao und27 rfl siz2 rfl rfl rfl) ?_
  refine ROps.d (r := AV.i64 a2) (fs := []) (Γ' := [⟨0, some [AV.i64 a1, AV.i64 a2, AV.oref 1 0 0 a3.length, AV.oref 2 0 0 a4.length]⟩, ⟨0, some (a3.map AV.f32)⟩, ⟨0, some (a4.map AV.i64)⟩]) rfl rfl rfl (TOp.load1_o rfl rfl agg2 rfl rfl) rfl ?_
  refine ROps.l (r := AV.i64 a2) rfl rfl rfl (LOp.assign rfl rfl) ?_
  refine ROps.nil ?_
  refine RunC.seq ?_
  refine RunC.seq ?_
  obtain ⟨x1, hx1, h⟩ := olet_some h
  refine RunC.regionW ?_
  refine ROps.l (r := AV.i64 a0) rfl rfl rfl (LOp.move rfl rfl) ?_
  refine ROps.l (r := AV.i64 x1) rfl rfl rfl (LOp.eqr (LOp.add rfl rfl rfl) (congrArg (AV.ik .i64) hx1)) ?_
  refine ROps.l (r := AV.i64 x1) rfl rfl rfl (LOp.assign rfl rfl) ?_
  refine ROps.nil ?_
  obtain ⟨z4, hz_4, h⟩ := obind_some h
  refine RunC.cutN (fun τ Γ => ∃ (L36 : List F), L36.length = a3.length ∧ WeakLe τ [] ∧ DeadLe Γ [⟨0, some [AV.i64 a1, AV.i64 a2, AV.oref 1 0 0 a3.length, AV.oref 2 0 0 a4.length]⟩, ⟨0, some (L36.map AV.f32)⟩, ⟨0, some (a4.map AV.i64)⟩] ∧ z4 = .inl L36) ?_ ?_
  · refine RunC.block (RunC.loop (RunL.loopM (x := z4) (s_l03Clear_0p0_C02o1_3o2_s3 a0 a1 a2 a4) (fun (s : (List F) × Int) τ Γ => s.1.length = a3.length ∧ WeakLe τ [(0, AV.optr 0 0 0), (1, AV.i64 a0), (5, AV.i64 a2), (6, AV.i64 s.2)] ∧ DeadLe Γ [⟨0, some [AV.i64 a1, AV.i64 a2, AV.oref 1 0 0 a3.length, AV.oref 2 0 0 a4.length]⟩, ⟨0, some (s.1.map AV.f32)⟩, ⟨0, some (a4.map AV.i64)⟩]) ?_ _ _ _ hz_4 ⟨rfl, ⟨(ALe.refl _), (ALe.refl _), (ALe.refl _), (ALe.refl _), trivial⟩, ⟨⟨rfl, .inr rfl⟩, ⟨rfl, .inr rfl⟩, ⟨rfl, .inr rfl⟩, trivial⟩⟩))
    rintro ⟨L2, v4⟩ τ4 Γ4 y4_ ⟨hl3, hw4, hd4⟩ h4_ ho4 hr4
    refine RunC.wl (τ' := [(0, AV.optr 0 0 0), (1, AV.i64 a0), (5, AV.i64 a2), (6, AV.i64 v4)]) (Γ' := [⟨0, some [AV.i64 a1, AV.i64 a2, AV.oref 1 0 0 a3.length, AV.oref 2 0 0 a4.length]⟩, ⟨0, some (L2.map AV.f32)⟩, ⟨0, some (a4.map AV.i64)⟩]) hw4 hd4 ?_
    replace hl3 : L2.length = a3.length := hl3
    replace h4_ : s_l03Clear_0p0_C02o1_3o2_b3 a0 a1 a2 a4 L2 v4 = some y4_ := h4_
    unfold s_l03Clear_0p0_C02o1_3o2_b3 at h4_
    refine RunC.seq ?_
    refine RunC.seq ?_
    rcases bsel_some h4_ with ⟨hc2, h4_⟩ | ⟨hc2, h4_⟩
    · refine RunC.regionW ?_
      refine ROps.l (r := AV.i64 v4) rfl rfl rfl (LOp.move rfl rfl) ?_
      refine ROps.l (r := AV.optr 0 0 0) rfl rfl rfl (LOp.move rfl rfl) ?_
      refine ROps.l (r := AV.optr 0 0 0) rfl rfl rfl (LOp.nilCheck_optr rfl rfl) ?_
      refine ROps.l (r := AV.optr 0 0 0) rfl rfl rfl (LOp.fao und27 rfl siz2 rfl rfl rfl) ?_
      refine ROps.d (r := AV.i64 a1) (fs := []) (Γ' := [⟨0, some [AV.i64 a1, AV.i64 a2, AV.oref 1 0 0 a3.length, AV.oref 2 0 0 a4.length]⟩, ⟨0, some (L2.map AV.f32)⟩, ⟨0, some (a4.map AV.i64)⟩]) rfl rfl rfl (TOp.load1_o rfl rfl agg2 rfl rfl) rfl ?_
      refine ROps.l (r := AV.b true) rfl rfl rfl (LOp.eqb (LOp.lss rfl rfl rfl) hc2) ?_
      refine ROps.nil ?_
      refine RunC.cond_true rfl rfl ?_
      refine RunC.skip ?_
      refine RunC.seq ?_
      refine RunC.block ?_
      refine RunC.seq ?_
      obtain ⟨x5, hx3, h4_⟩ := olet_some h4_
      obtain ⟨x6, hx4, h4_⟩ := olet_some h4_
      obtain ⟨e7, he5, h4_⟩ := obind_some h4_
      obtain ⟨x8, hx6, h4_⟩ := olet_some h4_
      obtain ⟨x9, hx7, h4_⟩ := olet_some h4_
      obtain ⟨e10, he8, h4_⟩ := obind_some h4_
      obtain ⟨x11, hx9, h4_⟩ := olet_some h4_
      refine RunC.region_draw (Γ' := [⟨0, some [AV.i64 a1, AV.i64 a2, AV.oref 1 0 0 a3.length, AV.oref 2 0 0 a4.length]⟩, ⟨0, some (L2.map AV.f32)⟩, ⟨0, some (a4.map AV.i64)⟩]) 24 mixed 
        (TR.l (r := AV.optr 0 0 0) rfl rfl (LOp.move rfl rfl) <|
        (TR.l (r := AV.optr 0 0 0) rfl rfl (LOp.nilCheck_optr rfl rfl) <|
        (TR.l (r := AV.optr 0 0 2) rfl rfl (LOp.fao und27 rfl siz22 rfl rfl rfl) <|
        (TR.d (r := AV.oref 1 0 0 a3.length) (fs := []) rfl rfl (TOp.load1_o rfl rfl agg22 rfl rfl) <|
        (TR.l (r := AV.i64 v4) rfl rfl (LOp.move rfl rfl) <|
        (TR.l (r := AV.i64 a2) rfl rfl (LOp.move rfl rfl) <|
        (TR.l (r := AV.i64 x5) rfl rfl (LOp.eqr (LOp.mul rfl rfl rfl) (congrArg (AV.ik .i64) hx3)) <|
        (TR.l (r := AV.i64 a0) rfl rfl (LOp.move rfl rfl) <|
        (TR.l (r := AV.i64 x6) rfl rfl (LOp.eqr (LOp.add rfl rfl rfl) (congrArg (AV.ik .i64) hx4)) <|
        (TR.d (r := AV.optr 1 0 x6.toNat) (fs := []) rfl rfl (TOp.ixo und22 siz25 rfl rfl rfl (at_in he5 hl3) rfl) <|
        (TR.d (r := AV.f32 e7) (fs := []) rfl rfl (TOp.load1_o rfl (at_cell he5) agg25 rfl rfl) <|
        (TR.l (r := AV.optr 0 0 0) rfl rfl (LOp.move rfl rfl) <|
        (TR.l (r := AV.optr 0 0 0) rfl rfl (LOp.nilCheck_optr rfl rfl) <|
        (TR.l (r := AV.optr 0 0 2) rfl rfl (LOp.fao und27 rfl siz22 rfl rfl rfl) <|
        (TR.d (r := AV.oref 1 0 0 a3.length) (fs := []) rfl rfl (TOp.load1_o rfl rfl agg22 rfl rfl) <|
        (TR.l (r := AV.i64 a0) rfl rfl (LOp.move rfl rfl) <|
        (TR.l (r := AV.i64 a2) rfl rfl (LOp.move rfl rfl) <|
        (TR.l (r := AV.i64 x8) rfl rfl (LOp.eqr (LOp.mul rfl rfl rfl) (congrArg (AV.ik .i64) hx6)) <|
        (TR.l (r := AV.i64 a0) rfl rfl (LOp.move rfl rfl) <|
        (TR.l (r := AV.i64 x9) rfl rfl (LOp.eqr (LOp.add rfl rfl rfl) (congrArg (AV.ik .i64) hx7)) <|
        (TR.d (r := AV.optr 1 0 x9.toNat) (fs := []) rfl rfl (TOp.ixo und22 siz25 rfl rfl rfl (at_in he8 hl3) rfl) <|
        (TR.d (r := AV.f32 e10) (fs := []) rfl rfl (TOp.load1_o rfl (at_cell he8) agg25 rfl rfl) <|
        (TR.d (r := AV.f32 x11) (fs := []) rfl rfl (TOp.eqr (TOp.fop (.inr (.inr (.inr rfl))) rfl (OpF.tmp rfl) (OpF.tmp rfl)) (congrArg (AV.f .f32) hx9)) <|
        (TR.l (r := AV.f32 x11) rfl rfl (LOp.assign rfl rfl) <|
        TR.nil)))))))))))))))))))))))) rfl (by kernel_rfl) rfl fills_nil rfl ?_
      iterate 24 refine ROps.dropS ?_
      refine ROps.drop0 ?_
      refine ROps.nil ?_
      refine RunC.wl (τ' := [(0, AV.optr 0 0 0), (1, AV.i64 a0), (5, AV.i64 a2), (6, AV.i64 v4), (7, AV.f32 x11)]) (Γ' := [⟨0, some [AV.i64 a1, AV.i64 a2, AV.oref 1 0 0 a3.length, AV.oref 2 0 0 a4.length]⟩, ⟨0, some (L2.map AV.f32)⟩, ⟨0, some (a4.map AV.i64)⟩]) ⟨(ALe.refl _), (ALe.refl _), (ALe.refl _), (ALe.refl _), (ALe.refl _), trivial⟩ ⟨⟨rfl, .inr rfl⟩, ⟨rfl, .inr rfl⟩, ⟨rfl, .inr rfl⟩, trivial⟩ ?_
      refine RunC.seq ?_
      obtain ⟨x12, hx10, h4_⟩ := olet_some h4_
      obtain ⟨x13, hx11, h4_⟩ := olet_some h4_
      obtain ⟨L14, he12, h4_⟩ := obind_some h4_
      refine RunC.regionW ?_
      refine ROps.l (r := AV.optr 0 0 0) rfl rfl rfl (LOp.move rfl rfl) ?_
      refine ROps.l (r := AV.optr 0 0 0) rfl rfl rfl (LOp.nilCheck_optr rfl rfl) ?_
      refine ROps.l (r := AV.optr 0 0 2) rfl rfl rfl (LOp.fao und27 rfl siz22 rfl rfl rfl) ?_
      refine ROps.d (r := AV.oref 1 0 0 a3.length) (fs := []) (Γ' := [⟨0, some [AV.i64 a1, AV.i64 a2, AV.oref 1 0 0 a3.length, AV.oref 2 0 0 a4.length]⟩, ⟨0, some (L2.map AV.f32)⟩, ⟨0, some (a4.map AV.i64)⟩]) rfl rfl rfl (TOp.load1_o rfl rfl agg22 rfl rfl) rfl ?_
      refine ROps.l (r := AV.i64 v4) rfl rfl rfl (LOp.move rfl rfl) ?_
      refine ROps.l (r := AV.i64 a2) rfl rfl rfl (LOp.move rfl rfl) ?_
      refine ROps.l (r := AV.i64 x12) rfl rfl rfl (LOp.eqr (LOp.mul rfl rfl rfl) (congrArg (AV.ik .i64) hx10)) ?_
      refine ROps.l (r := AV.i64 a0) rfl rfl rfl (LOp.move rfl rfl) ?_
      refine ROps.l (r := AV.i64 x13) rfl rfl rfl (LOp.eqr (LOp.add rfl rfl rfl) (congrArg (AV.ik .i64) hx11)) ?_
      refine ROps.l (r := AV.f32 x11) rfl rfl rfl (LOp.move rfl rfl) ?_
      refine ROps.d (r := AV.optr 1 0 x13.toNat) (fs := []) (Γ' := [⟨0, some [AV.i64 a1, AV.i64 a2, AV.oref 1 0 0 a3.length, AV.oref 2 0 0 a4.length]⟩, ⟨0, some (L2.map AV.f32)⟩, ⟨0, some (a4.map AV.i64)⟩]) rfl rfl rfl (TOp.ixo und22 siz25 rfl rfl rfl (set_in he12 hl3) rfl) rfl ?_
      refine ROps.st (f := AV.f32) (i := x13) (Γ' := [⟨0, some [AV.i64 a1, AV.i64 a2, AV.oref 1 0 0 a3.length, AV.oref 2 0 0 a4.length]⟩, ⟨0, some (L14.map AV.f32)⟩, ⟨0, some (a4.map AV.i64)⟩]) rfl siz25 rfl rfl rfl (ALe.refl _) rfl rfl rfl he12 rfl ?_
      refine ROps.nil ?_
      refine RunC.seq ?_
      refine RunC.seq ?_
      obtain ⟨r15, hf13, h4_⟩ := obind_some h4_
      rcases bsel_some h4_ with ⟨hc14, h4_⟩ | ⟨hc14, h4_⟩
      · refine RunC.regionW ?_
        refine ROps.l (r := AV.f32 x11) rfl rfl rfl (LOp.move rfl rfl) ?_
        refine ROps.d (r := AV.b true) (fs := []) (Γ' := [⟨0, some [AV.i64 a1, AV.i64 a2, AV.oref 1 0 0 a3.length, AV.oref 2 0 0 a4.length]⟩, ⟨0, some (L14.map AV.f32)⟩, ⟨0, some (a4.map AV.i64)⟩]) rfl rfl rfl (TOp.eqb (TOp.callB (CallAs.func ent58 rfl rfl) (Bors.cons (Bor.pure rfl) Bors.nil) rfl rfl (s_l01Finite_ok x11 r15 hf13)) hc14) rfl ?_
        refine ROps.l (r := AV.b false) rfl rfl rfl (LOp.eqb (LOp.not rfl rfl) rfl) ?_
        refine ROps.nil ?_
        refine RunC.wl (τ' := [(0, AV.optr 0 0 0), (1, AV.i64 a0), (5, AV.i64 a2), (6, AV.i64 v4), (7, AV.f32 x11), (60, AV.b false)]) (Γ' := [⟨0, some [AV.i64 a1, AV.i64 a2, AV.oref 1 0 0 a3.length, AV.oref 2 0 0 a4.length]⟩, ⟨0, some (L14.map AV.f32)⟩, ⟨0, some (a4.map AV.i64)⟩]) ⟨(ALe.refl _), (ALe.refl _), (ALe.refl _), (ALe.refl _), (ALe.refl _), (ALe.refl _), trivial⟩ ⟨⟨rfl, .inr rfl⟩, ⟨rfl, .inr rfl⟩, ⟨rfl, .inr rfl⟩, trivial⟩ ?_
        refine RunC.cond_false rfl rfl ?_
        refine RunC.skip ?_
        refine RunC.seq ?_
        obtain ⟨x16, hx15, h4_⟩ := olet_some h4_
        refine RunC.regionW ?_
        refine ROps.l (r := AV.i64 a0) rfl rfl rfl (LOp.move rfl rfl) ?_
        refine ROps.l (r := AV.i64 x16) rfl rfl rfl (LOp.eqr (LOp.add rfl rfl rfl) (congrArg (AV.ik .i64) hx15)) ?_
        refine ROps.l (r := AV.i64 x16) rfl rfl rfl (LOp.assign rfl rfl) ?_
        refine ROps.nil ?_
        obtain ⟨z5, hz_5, h4_⟩ := obind_some h4_
        refine RunC.cutN (fun τ Γ => ∃ (L33 : List F), L33.length = a3.length ∧ WeakLe τ [(0, AV.optr 0 0 0), (1, AV.i64 a0), (5, AV.i64 a2), (6, AV.i64 v4)] ∧ DeadLe Γ [⟨0, some [AV.i64 a1, AV.i64 a2, AV.oref 1 0 0 a3.length, AV.oref 2 0 0 a4.length]⟩, ⟨0, some (L33.map AV.f32)⟩, ⟨0, some (a4.map AV.i64)⟩] ∧ z5 = .inl L33) ?_ ?_
        · refine RunC.block (RunC.loop (RunL.loopM (x := z5) (s_l03Clear_0p0_C02o1_3o2_s2 a0 a2 a4 v4 x11) (fun (s : (List F) × Int) τ Γ => s.1.length = a3.length ∧ WeakLe τ [(0, AV.optr 0 0 0), (1, AV.i64 a0), (5, AV.i64 a2), (6, AV.i64 v4), (7, AV.f32 x11), (8, AV.i64 s.2)] ∧ DeadLe Γ [⟨0, some [AV.i64 a1, AV.i64 a2, AV.oref 1 0 0 a3.length, AV.oref 2 0 0 a4.length]⟩, ⟨0, some (s.1.map AV.f32)⟩, ⟨0, some (a4.map AV.i64)⟩]) ?_ _ _ _ hz_5 ⟨((setAt?_len he12).trans hl3), ⟨(ALe.refl _), (ALe.refl _), (ALe.refl _), (ALe.refl _), (ALe.refl _), (ALe.refl _), trivial⟩, ⟨⟨rfl, .inr rfl⟩, ⟨rfl, .inr rfl⟩, ⟨rfl, .inr rfl⟩, trivial⟩⟩))
          rintro ⟨L17, v19⟩ τ5 Γ5 y5_ ⟨hl18, hw5, hd5⟩ h5_ ho5 hr5
          refine RunC.wl (τ' := [(0, AV.optr 0 0 0), (1, AV.i64 a0), (5, AV.i64 a2), (6, AV.i64 v4), (7, AV.f32 x11), (8, AV.i64 v19)]) (Γ' := [⟨0, some [AV.i64 a1, AV.i64 a2, AV.oref 1 0 0 a3.length, AV.oref 2 0 0 a4.length]⟩, ⟨0, some (L17.map AV.f32)⟩, ⟨0, some (a4.map AV.i64)⟩]) hw5 hd5 ?_
          replace hl18 : L17.length = a3.length := hl18
          replace h5_ : s_l03Clear_0p0_C02o1_3o2_b2 a0 a2 a4 v4 x11 L17 v19 = some y5_ := h5_
          unfold s_l03Clear_0p0_C02o1_3o2_b2 at h5_
          refine RunC.seq ?_
          refine RunC.seq ?_
          rcases bsel_some h5_ with ⟨hc16, h5_⟩ | ⟨hc16, h5_⟩
          · refine RunC.regionW ?_
            refine ROps.l (r := AV.i64 v19) rfl rfl rfl (LOp.move rfl rfl) ?_
            refine ROps.l (r := AV.i64 a2) rfl rfl rfl (LOp.move rfl rfl) ?_
            refine ROps.l (r := AV.b true) rfl rfl rfl (LOp.eqb (LOp.lss rfl rfl rfl) hc16) ?_
            refine ROps.nil ?_
            refine RunC.cond_true rfl rfl ?_
            refine RunC.skip ?_
            refine RunC.seq ?_
            refine RunC.block ?_
            refine RunC.seq ?_
            obtain ⟨x20, hx17, h5_⟩ := olet_some h5_
            obtain ⟨x21, hx18, h5_⟩ := olet_some h5_
            obtain ⟨e22, he19, h5_⟩ := obind_some h5_
            obtain ⟨x23, hx20, h5_⟩ := olet_some h5_
            obtain ⟨x24, hx21, h5_⟩ := olet_some h5_
            obtain ⟨e25, he22, h5_⟩ := obind_some h5_
            obtain ⟨x26, hx23, h5_⟩ := olet_some h5_
            obtain ⟨x27, hx24, h5_⟩ := olet_some h5_
            refine RunC.region_draw (Γ' := [⟨0, some [AV.i64 a1, AV.i64 a2, AV.oref 1 0 0 a3.length, AV.oref 2 0 0 a4.length]⟩, ⟨0, some (L17.map AV.f32)⟩, ⟨0, some (a4.map AV.i64)⟩]) 26 mixed 
              (TR.l (r := AV.optr 0 0 0) rfl rfl (LOp.move rfl rfl) <|
              (TR.l (r := AV.optr 0 0 0) rfl rfl (LOp.nilCheck_optr rfl rfl) <|
              (TR.l (r := AV.optr 0 0 2) rfl rfl (LOp.fao und27 rfl siz22 rfl rfl rfl) <|
              (TR.d (r := AV.oref 1 0 0 a3.length) (fs := []) rfl rfl (TOp.load1_o rfl rfl agg22 rfl rfl) <|
              (TR.l (r := AV.i64 v4) rfl rfl (LOp.move rfl rfl) <|
              (TR.l (r := AV.i64 a2) rfl rfl (LOp.move rfl rfl) <|
              (TR.l (r := AV.i64 x20) rfl rfl (LOp.eqr (LOp.mul rfl rfl rfl) (congrArg (AV.ik .i64) hx17)) <|
              (TR.l (r := AV.i64 v19) rfl rfl (LOp.move rfl rfl) <|
              (TR.l (r := AV.i64 x21) rfl rfl (LOp.eqr (LOp.add rfl rfl rfl) (congrArg (AV.ik .i64) hx18)) <|
              (TR.d (r := AV.optr 1 0 x21.toNat) (fs := []) rfl rfl (TOp.ixo und22 siz25 rfl rfl rfl (at_in he19 hl18) rfl) <|
              (TR.d (r := AV.f32 e22) (fs := []) rfl rfl (TOp.load1_o rfl (at_cell he19) agg25 rfl rfl) <|
              (TR.l (r := AV.f32 x11) rfl rfl (LOp.move rfl rfl) <|
              (TR.l (r := AV.optr 0 0 0) rfl rfl (LOp.move rfl rfl) <|
              (TR.l (r := AV.optr 0 0 0) rfl rfl (LOp.nilCheck_optr rfl rfl) <|
              (TR.l (r := AV.optr 0 0 2) rfl rfl (LOp.fao und27 rfl siz22 rfl rfl rfl) <|
              (TR.d (r := AV.oref 1 0 0 a3.length) (fs := []) rfl rfl (TOp.load1_o rfl rfl agg22 rfl rfl) <|
              (TR.l (r := AV.i64 a0) rfl rfl (LOp.move rfl rfl) <|
              (TR.l (r := AV.i64 a2) rfl rfl (LOp.move rfl rfl) <|
              (TR.l (r := AV.i64 x23) rfl rfl (LOp.eqr (LOp.mul rfl rfl rfl) (congrArg (AV.ik .i64) hx20)) <|
              (TR.l (r := AV.i64 v19) rfl rfl (LOp.move rfl rfl) <|
              (TR.l (r := AV.i64 x24) rfl rfl (LOp.eqr (LOp.add rfl rfl rfl) (congrArg (AV.ik .i64) hx21)) <|
              (TR.d (r := AV.optr 1 0 x24.toNat) (fs := []) rfl rfl (TOp.ixo und22 siz25 rfl rfl rfl (at_in he22 hl18) rfl) <|
              (TR.d (r := AV.f32 e25) (fs := []) rfl rfl (TOp.load1_o rfl (at_cell he22) agg25 rfl rfl) <|
              (TR.d (r := AV.f32 x26) (fs := []) rfl rfl (TOp.eqr (TOp.fop (.inr (.inr (.inl rfl))) rfl (OpF.tmp rfl) (OpF.tmp rfl)) (congrArg (AV.f .f32) hx23)) <|
              (TR.d (r := AV.f32 x27) (fs := []) rfl rfl (TOp.eqr (TOp.fop (.inr (.inl rfl)) rfl (OpF.tmp rfl) (OpF.tmp rfl)) (congrArg (AV.f .f32) hx24)) <|
              (TR.l (r := AV.f32 x27) rfl rfl (LOp.assign rfl rfl) <|
              TR.nil)))))))))))))))))))))))))) rfl (by kernel_rfl) rfl fills_nil rfl ?_
            iterate 26 refine ROps.dropS ?_
            refine ROps.drop0 ?_
            refine ROps.nil ?_
            refine RunC.wl (τ' := [(0, AV.optr 0 0 0), (1, AV.i64 a0), (5, AV.i64 a2), (6, AV.i64 v4), (7, AV.f32 x11), (8, AV.i64 v19), (9, AV.f32 x27)]) (Γ' := [⟨0, some [AV.i64 a1, AV.i64 a2, AV.oref 1 0 0 a3.length, AV.oref 2 0 0 a4.length]⟩, ⟨0, some (L17.map AV.f32)⟩, ⟨0, some (a4.map AV.i64)⟩]) ⟨(ALe.refl _), (ALe.refl _), (ALe.refl _), (ALe.refl _), (ALe.refl _), (ALe.refl _), (ALe.refl _), trivial⟩ ⟨⟨rfl, .inr rfl⟩, ⟨rfl, .inr rfl⟩, ⟨rfl, .inr rfl⟩, trivial⟩ ?_
            refine RunC.seq ?_
            obtain ⟨x28, hx25, h5_⟩ := olet_some h5_
            obtain ⟨x29, hx26, h5_⟩ := olet_some h5_
            obtain ⟨L30, he27, h5_⟩ := obind_some h5_
            refine RunC.regionW ?_
            refine ROps.l (r := AV.optr 0 0 0) rfl rfl rfl (LOp.move rfl rfl) ?_
            refine ROps.l (r := AV.optr 0 0 0) rfl rfl rfl (LOp.nilCheck_optr rfl rfl) ?_
            refine ROps.l (r := AV.optr 0 0 2) rfl rfl rfl (LOp.fao und27 rfl siz22 rfl rfl rfl) ?_
            refine ROps.d (r := AV.oref 1 0 0 a3.length) (fs := []) (Γ' := [⟨0, some [AV.i64 a1, AV.i64 a2, AV.oref 1 0 0 a3.length, AV.oref 2 0 0 a4.length]⟩, ⟨0, some (L17.map AV.f32)⟩, ⟨0, some (a4.map AV.i64)⟩]) rfl rfl rfl (TOp.load1_o rfl rfl agg22 rfl rfl) rfl ?_
            refine ROps.l (r := AV.i64 v4) rfl rfl rfl (LOp.move rfl rfl) ?_
            refine ROps.l (r := AV.i64 a2) rfl rfl rfl (LOp.move rfl rfl) ?_
            refine ROps.l (r := AV.i64 x28) rfl rfl rfl (LOp.eqr (LOp.mul rfl rfl rfl) (congrArg (AV.ik .i64) hx25)) ?_
            refine ROps.l (r := AV.i64 v19) rfl rfl rfl (LOp.move rfl rfl) ?_
            refine ROps.l (r := AV.i64 x29) rfl rfl rfl (LOp.eqr (LOp.add rfl rfl rfl) (congrArg (AV.ik .i64) hx26)) ?_
            refine ROps.l (r := AV.f32 x27) rfl rfl rfl (LOp.move rfl rfl) ?_
            refine ROps.d (r := AV.optr 1 0 x29.toNat) (fs := []) (Γ' := [⟨0, some [AV.i64 a1, AV.i64 a2, AV.oref 1 0 0 a3.length, AV.oref 2 0 0 a4.length]⟩, ⟨0, some (L17.map AV.f32)⟩, ⟨0, some (a4.map AV.i64)⟩]) rfl rfl rfl (TOp.ixo und22 siz25 rfl rfl rfl (set_in he27 hl18) rfl) rfl ?_
            refine ROps.st (f := AV.f32) (i := x29) (Γ' := [⟨0, some [AV.i64 a1, AV.i64 a2, AV.oref 1 0 0 a3.length, AV.oref 2 0 0 a4.length]⟩, ⟨0, some (L30.map AV.f32)⟩, ⟨0, some (a4.map AV.i64)⟩]) rfl siz25 rfl rfl rfl (ALe.refl _) rfl rfl rfl he27 rfl ?_
            refine ROps.nil ?_
            refine RunC.seq ?_
            obtain ⟨r31, hf28, h5_⟩ := obind_some h5_
            rcases bsel_some h5_ with ⟨hc29, h5_⟩ | ⟨hc29, h5_⟩
            · refine RunC.regionW ?_
              refine ROps.l (r := AV.f32 x27) rfl rfl rfl (LOp.move rfl rfl) ?_
              refine ROps.d (r := AV.b true) (fs := []) (Γ' := [⟨0, some [AV.i64 a1, AV.i64 a2, AV.oref 1 0 0 a3.length, AV.oref 2 0 0 a4.length]⟩, ⟨0, some (L30.map AV.f32)⟩, ⟨0, some (a4.map AV.i64)⟩]) rfl rfl rfl (TOp.eqb (TOp.callB (CallAs.func ent58 rfl rfl) (Bors.cons (Bor.pure rfl) Bors.nil) rfl rfl (s_l01Finite_ok x27 r31 hf28)) hc29) rfl ?_
              refine ROps.l (r := AV.b false) rfl rfl rfl (LOp.eqb (LOp.not rfl rfl) rfl) ?_
              refine ROps.nil ?_
              refine RunC.wl (τ' := [(0, AV.optr 0 0 0), (1, AV.i64 a0), (5, AV.i64 a2), (6, AV.i64 v4), (7, AV.f32 x11), (8, AV.i64 v19), (106, AV.b false)]) (Γ' := [⟨0, some [AV.i64 a1, AV.i64 a2, AV.oref 1 0 0 a3.length, AV.oref 2 0 0 a4.length]⟩, ⟨0, some (L30.map AV.f32)⟩, ⟨0, some (a4.map AV.i64)⟩]) ⟨(ALe.refl _), (ALe.refl _), (ALe.refl _), (ALe.refl _), (ALe.refl _), (ALe.refl _), (ALe.refl _), trivial⟩ ⟨⟨rfl, .inr rfl⟩, ⟨rfl, .inr rfl⟩, ⟨rfl, .inr rfl⟩, trivial⟩ ?_
              refine RunC.cond_false rfl rfl ?_
              refine RunC.skip ?_
              obtain ⟨x32, hx30, h5_⟩ := olet_some h5_
              refine RunC.regionW ?_
              refine ROps.l (r := AV.i64 v19) rfl rfl rfl (LOp.move rfl rfl) ?_
              refine ROps.l (r := AV.i64 x32) rfl rfl rfl (LOp.eqr (LOp.add rfl rfl rfl) (congrArg (AV.ik .i64) hx30)) ?_
              refine ROps.l (r := AV.i64 x32) rfl rfl rfl (LOp.assign rfl rfl) ?_
              refine ROps.nil ?_
              cases Option.some.inj h5_
              exact ⟨_, rfl, ((setAt?_len he27).trans hl18), ⟨(ALe.refl _), (ALe.refl _), (ALe.refl _), (ALe.refl _), (ALe.refl _), (ALe.refl _), trivial⟩, ⟨⟨rfl, .inr rfl⟩, ⟨rfl, .inr rfl⟩, ⟨rfl, .inr rfl⟩, trivial⟩⟩
            · refine RunC.regionW ?_
              refine ROps.l (r := AV.f32 x27) rfl rfl rfl (LOp.move rfl rfl) ?_
              refine ROps.d (r := AV.b false) (fs := []) (Γ' := [⟨0, some [AV.i64 a1, AV.i64 a2, AV.oref 1 0 0 a3.length, AV.oref 2 0 0 a4.length]⟩, ⟨0, some (L30.map AV.f32)⟩, ⟨0, some (a4.map AV.i64)⟩]) rfl rfl rfl (TOp.eqb (TOp.callB (CallAs.func ent58 rfl rfl) (Bors.cons (Bor.pure rfl) Bors.nil) rfl rfl (s_l01Finite_ok x27 r31 hf28)) hc29) rfl ?_
              refine ROps.l (r := AV.b true) rfl rfl rfl (LOp.eqb (LOp.not rfl rfl) rfl) ?_
              refine ROps.nil ?_
              refine RunC.wl (τ' := [(0, AV.optr 0 0 0), (1, AV.i64 a0), (5, AV.i64 a2), (6, AV.i64 v4), (7, AV.f32 x11), (8, AV.i64 v19), (106, AV.b true)]) (Γ' := [⟨0, some [AV.i64 a1, AV.i64 a2, AV.oref 1 0 0 a3.length, AV.oref 2 0 0 a4.length]⟩, ⟨0, some (L30.map AV.f32)⟩, ⟨0, some (a4.map AV.i64)⟩]) ⟨(ALe.refl _), (ALe.refl _), (ALe.refl _), (ALe.refl _), (ALe.refl _), (ALe.refl _), (ALe.refl _), trivial⟩ ⟨⟨rfl, .inr rfl⟩, ⟨rfl, .inr rfl⟩, ⟨rfl, .inr rfl⟩, trivial⟩ ?_
              refine RunC.cond_true rfl rfl ?_
              refine RunC.seq ?_
              refine RunC.regionW ?_
              refine ROps.l (r := AV.b false) rfl rfl rfl (LOp.assign rfl rfl) ?_
              refine ROps.nil ?_
              refine RunC.ret ?_
              cases Option.some.inj h5_
              have hx6_ := hr5 _ rfl
              subst hx6_
              cases Option.some.inj h4_
              have hx7_ := hr4 _ rfl
              subst hx7_
              have hq := Option.some.inj h
              obtain ⟨hq0, hq⟩ := Prod.mk.inj hq
              obtain ⟨hq1, hq⟩ := Prod.mk.inj hq
              subst q0
              subst q1
              subst q2
              exact bodyQ.mk (r' := AV.b false) [(0, 0), (1, 0), (2, 0)] (.inr rfl) rfl (show List.Nodup [0, 1, 2] from by decide) rfl rfl (Res.one rfl (RV.tmp rfl)) (SelL.cells rfl (by first | rfl | simp [AV.ren, AV.rens, sigma, rens_f32, rens_f64, rens_i64, rens_ik, rens_str, rens_cp]) rfl (SelL.arr (f := AV.f32) (fun _ => rfl) rfl (SelL.arr (f := AV.i64) (fun _ => rfl) rfl trivial)))
          · refine RunC.regionW ?_
            refine ROps.l (r := AV.i64 v19) rfl rfl rfl (LOp.move rfl rfl) ?_
            refine ROps.l (r := AV.i64 a2) rfl rfl rfl (LOp.move rfl rfl) ?_
            refine ROps.l (r := AV.b false) rfl rfl rfl (LOp.eqb (LOp.lss rfl rfl rfl) hc16) ?_
            refine ROps.nil ?_
            refine RunC.cond_false rfl rfl ?_
            refine RunC.exit ?_
            cases Option.some.inj h5_
            have hx := ho5 _ rfl
            exact ⟨L17, hl18, ⟨(ALe.refl _), (ALe.refl _), (ALe.refl _), (ALe.refl _), trivial⟩, ⟨⟨rfl, .inr rfl⟩, ⟨rfl, .inr rfl⟩, ⟨rfl, .inr rfl⟩, trivial⟩, hx⟩
        · rintro τ8 Γ8 ⟨L33, hl34, hw8, hd8, rfl⟩
          refine RunC.wl (τ' := [(0, AV.optr 0 0 0), (1, AV.i64 a0), (5, AV.i64 a2), (6, AV.i64 v4)]) (Γ' := [⟨0, some [AV.i64 a1, AV.i64 a2, AV.oref 1 0 0 a3.length, AV.oref 2 0 0 a4.length]⟩, ⟨0, some (L33.map AV.f32)⟩, ⟨0, some (a4.map AV.i64)⟩]) hw8 hd8 ?_
          replace h4_ : s_l03Clear_0p0_C02o1_3o2_k2 v4 L33 = some y4_ := h4_
          unfold s_l03Clear_0p0_C02o1_3o2_k2 at h4_
          obtain ⟨x35, hx31, h4_⟩ := olet_some h4_
          refine RunC.regionW ?_
          refine ROps.l (r := AV.i64 v4) rfl rfl rfl (LOp.move rfl rfl) ?_
          refine ROps.l (r := AV.i64 x35) rfl rfl rfl (LOp.eqr (LOp.add rfl rfl rfl) (congrArg (AV.ik .i64) hx31)) ?_
          refine ROps.l (r := AV.i64 x35) rfl rfl rfl (LOp.assign rfl rfl) ?_
          refine ROps.nil ?_
          cases Option.some.inj h4_
          exact ⟨_, rfl, hl34, ⟨(ALe.refl _), (ALe.refl _), (ALe.refl _), (ALe.refl _), trivial⟩, ⟨⟨rfl, .inr rfl⟩, ⟨rfl, .inr rfl⟩, ⟨rfl, .inr rfl⟩, trivial⟩⟩
      · refine RunC.regionW ?_
        refine ROps.l (r := AV.f32 x11) rfl rfl rfl (LOp.move rfl rfl) ?_
        refine ROps.d (r := AV.b false) (fs := []) (Γ' := [⟨0, some [AV.i64 a1, AV.i64 a2, AV.oref 1 0 0 a3.length, AV.oref 2 0 0 a4.length]⟩, ⟨0, some (L14.map AV.f32)⟩, ⟨0, some (a4.map AV.i64)⟩]) rfl rfl rfl (TOp.eqb (TOp.callB (CallAs.func ent58 rfl rfl) (Bors.cons (Bor.pure rfl) Bors.nil) rfl rfl (s_l01Finite_ok x11 r15 hf13)) hc14) rfl ?_
        refine ROps.l (r := AV.b true) rfl rfl rfl (LOp.eqb (LOp.not rfl rfl) rfl) ?_
        refine ROps.nil ?_
        refine RunC.wl (τ' := [(0, AV.optr 0 0 0), (1, AV.i64 a0), (5, AV.i64 a2), (6, AV.i64 v4), (7, AV.f32 x11), (60, AV.b true)]) (Γ' := [⟨0, some [AV.i64 a1, AV.i64 a2, AV.oref 1 0 0 a3.length, AV.oref 2 0 0 a4.length]⟩, ⟨0, some (L14.map AV.f32)⟩, ⟨0, some (a4.map AV.i64)⟩]) ⟨(ALe.refl _), (ALe.refl _), (ALe.refl _), (ALe.refl _), (ALe.refl _), (ALe.refl _), trivial⟩ ⟨⟨rfl, .inr rfl⟩, ⟨rfl, .inr rfl⟩, ⟨rfl, .inr rfl⟩, trivial⟩ ?_
        refine RunC.cond_true rfl rfl ?_
        refine RunC.seq ?_
        refine RunC.regionW ?_
        refine ROps.l (r := AV.b false) rfl rfl rfl (LOp.assign rfl rfl) ?_
        refine ROps.nil ?_
        refine RunC.ret ?_
        cases Option.some.inj h4_
        have hx9_ := hr4 _ rfl
        subst hx9_
        have hq := Option.some.inj h
        obtain ⟨hq0, hq⟩ := Prod.mk.inj hq
        obtain ⟨hq1, hq⟩ := Prod.mk.inj hq
        subst q0
        subst q1
        subst q2
        exact bodyQ.mk (r' := AV.b false) [(0, 0), (1, 0), (2, 0)] (.inr rfl) rfl (show List.Nodup [0, 1, 2] from by decide) rfl rfl (Res.one rfl (RV.tmp rfl)) (SelL.cells rfl (by first | rfl | simp [AV.ren, AV.rens, sigma, rens_f32, rens_f64, rens_i64, rens_ik, rens_str, rens_cp]) rfl (SelL.arr (f := AV.f32) (fun _ => rfl) rfl (SelL.arr (f := AV.i64) (fun _ => rfl) rfl trivial)))
    · refine RunC.regionW ?_
      refine ROps.l (r := AV.i64 v4) rfl rfl rfl (LOp.move rfl rfl) ?_
      refine ROps.l (r := AV.optr 0 0 0) rfl rfl rfl (LOp.move rfl rfl) ?_
      refine ROps.l (r := AV.optr 0 0 0) rfl rfl rfl (LOp.nilCheck_optr rfl rfl) ?_
      refine ROps.l (r := AV.optr 0 0 0) rfl rfl rfl (LOp.fao und27 rfl siz2 rfl rfl rfl) ?_
      refine ROps.d (r := AV.i64 a1) (fs := []) (Γ' := [⟨0, some [AV.i64 a1, AV.i64 a2, AV.oref 1 0 0 a3.length, AV.oref 2 0 0 a4.length]⟩, ⟨0, some (L2.map AV.f32)⟩, ⟨0, some (a4.map AV.i64)⟩]) rfl rfl rfl (TOp.load1_o rfl rfl agg2 rfl rfl) rfl ?_
      refine ROps.l (r := AV.b false) rfl rfl rfl (LOp.eqb (LOp.lss rfl rfl rfl) hc2) ?_
      refine ROps.nil ?_
      refine RunC.cond_false rfl rfl ?_
      refine RunC.exit ?_
      cases Option.some.inj h4_
      have hx := ho4 _ rfl
      exact ⟨L2, hl3, trivial, ⟨⟨rfl, .inr rfl⟩, ⟨rfl, .inr rfl⟩, ⟨rfl, .inr rfl⟩, trivial⟩, hx⟩
  · rintro τ10 Γ10 ⟨L36, hl37, hw10, hd10, rfl⟩
    refine RunC.wl (τ' := []) (Γ' := [⟨0, some [AV.i64 a1, AV.i64 a2, AV.oref 1 0 0 a3.length, AV.oref 2 0 0 a4.length]⟩, ⟨0, some (L36.map AV.f32)⟩, ⟨0, some (a4.map AV.i64)⟩]) hw10 hd10 ?_
    replace h : s_l03Clear_0p0_C02o1_3o2_k3 a4 L36 = some (q0, q1, q2) := h
    unfold s_l03Clear_0p0_C02o1_3o2_k3 at h
    refine RunC.seq ?_
    refine RunC.regionW ?_
    refine ROps.l (r := AV.b true) rfl rfl rfl (LOp.assign rfl rfl) ?_
    refine ROps.nil ?_
    refine RunC.ret ?_
    have hq := Option.some.inj h
    obtain ⟨hq0, hq⟩ := Prod.mk.inj hq
    obtain ⟨hq1, hq⟩ := Prod.mk.inj hq
    subst q0
    subst q1
    subst q2
    exact bodyQ.mk (r' := AV.b true) [(0, 0), (1, 0), (2, 0)] (.inr rfl) rfl (show List.Nodup [0, 1, 2] from by decide) rfl rfl (Res.one rfl (RV.tmp rfl)) (SelL.cells rfl (by first | rfl | simp [AV.ren, AV.rens, sigma, rens_f32, rens_f64, rens_i64, rens_ik, rens_str, rens_cp]) rfl (SelL.arr (f := AV.f32) (fun _ => rfl) rfl (SelL.arr (f := AV.i64) (fun _ => rfl) rfl trivial)))
noncomputable def s_FactorBoth_k21 (v21 : Int) (v26 : Int) (v27 : Int) : Option (LR (Int × Int × Int) (Int × Int) (Int × Int × Int × Bool × (List F) × (List Int) × (List Int))) :=
  olet (IntKind.i64.wrap (v21 + 1)) fun (x31 : Int) =>
  some (LR.next (v26, v27, x31))
noncomputable def s_FactorBoth_b22 (a0 : Int) (r3 : Int) (r4 : Int) (L8 : List F) (v18 : Int) (v19 : Int) (v20 : Int) (v21 : Int) : Option (LR (Int × Int × Int) (Int × Int) (Int × Int × Int × Bool × (List F) × (List Int) × (List Int))) :=
  bsel (decide (v21 < a0)) (
    obind (s_l02At r3 r4 L8 v18 v21) fun (r22 : F) =>
    obind (s_l02Size r22) fun (r23 : F) =>
    obind (s_l02At r3 r4 L8 v19 v20) fun (r24 : F) =>
    obind (s_l02Size r24) fun (r25 : F) =>
    bsel (flt .f32 r25 r23) (
      s_FactorBoth_k21 v21 v18 v21) (
      s_FactorBoth_k21 v21 v19 v20)) (
    some (LR.out (v19, v20)))
noncomputable def s_FactorBoth_s22 (a0 : Int) (r3 : Int) (r4 : Int) (L8 : List F) (v18 : Int) : (Int × Int × Int) → Option (LR (Int × Int × Int) (Int × Int) (Int × Int × Int × Bool × (List F) × (List Int) × (List Int))) := fun s => s_FactorBoth_b22 a0 r3 r4 L8 v18 s.1 s.2.1 s.2.2
noncomputable def s_FactorBoth_k22 (v18 : Int) (v35 : Int) (v36 : Int) : Option (LR (Int × Int × Int) (Int × Int) (Int × Int × Int × Bool × (List F) × (List Int) × (List Int))) :=
  olet (IntKind.i64.wrap (v18 + 1)) fun (x37 : Int) =>
  some (LR.next (v35, v36, x37))
noncomputable def s_FactorBoth_b23 (a0 : Int) (r3 : Int) (r4 : Int) (L8 : List F) (v15 : Int) (v16 : Int) (v17 : Int) (v18 : Int) : Option (LR (Int × Int × Int) (Int × Int) (Int × Int × Int × Bool × (List F) × (List Int) × (List Int))) :=
  bsel (decide (v18 < a0)) (
    obind (loopM (s_FactorBoth_s22 a0 r3 r4 L8 v18) (v16, v17, v15)) fun z => osum z (fun e => s_FactorBoth_k22 v18 e.1 e.2) (fun r => some (LR.ret r))) (
    some (LR.out (v16, v17)))
noncomputable def s_FactorBoth_s23 (a0 : Int) (r3 : Int) (r4 : Int) (L8 : List F) (v15 : Int) : (Int × Int × Int) → Option (LR (Int × Int × Int) (Int × Int) (Int × Int × Int × Bool × (List F) × (List Int) × (List Int))) := fun s => s_FactorBoth_b23 a0 r3 r4 L8 v15 s.1 s.2.1 s.2.2
noncomputable def s_FactorBoth_b24 (a0 : Int) (v15 : Int) (v42 : Int) (L48 : List F) (v50 : Int) : Option (LR ((List F) × Int) ((List F)) (Int × Int × Int × Bool × (List F) × (List Int) × (List Int))) :=
  bsel (decide (v50 < a0)) (
    olet (IntKind.i64.wrap (v50 * a0)) fun (x51 : Int) =>
    olet (IntKind.i64.wrap (x51 + v15)) fun (x52 : Int) =>
    obind (at? L48 x52) fun (e53 : F) =>
    olet (IntKind.i64.wrap (v50 * a0)) fun (x54 : Int) =>
    olet (IntKind.i64.wrap (x54 + v15)) fun (x55 : Int) =>
    olet (IntKind.i64.wrap (v50 * a0)) fun (x56 : Int) =>
    olet (IntKind.i64.wrap (x56 + v42)) fun (x57 : Int) =>
    obind (at? L48 x57) fun (e58 : F) =>
    obind (setAt? L48 x55 e58) fun (L59 : List F) =>
    olet (IntKind.i64.wrap (v50 * a0)) fun (x60 : Int) =>
    olet (IntKind.i64.wrap (x60 + v42)) fun (x61 : Int) =>
    obind (setAt? L59 x61 e53) fun (L62 : List F) =>
    olet (IntKind.i64.wrap (v50 + 1)) fun (x63 : Int) =>
    some (LR.next (L62, x63))) (
    some (LR.out L48))
noncomputable def s_FactorBoth_s24 (a0 : Int) (v15 : Int) (v42 : Int) : ((List F) × Int) → Option (LR ((List F) × Int) ((List F)) (Int × Int × Int × Bool × (List F) × (List Int) × (List Int))) := fun s => s_FactorBoth_b24 a0 v15 v42 s.1 s.2
noncomputable def s_FactorBoth_k24 (r3 : Int) (r4 : Int) (r5 : List F) (r6 : List Int) (r7 : List Int) (L12 : List Int) (v14 : Int) (v15 : Int) (v42 : Int) (r47 : List Int) (L64 : List F) : Option (LR ((List F) × (List Int) × (List Int) × Int × Int) ((List F) × (List Int) × (List Int) × Int) (Int × Int × Int × Bool × (List F) × (List Int) × (List Int))) :=
  obind (s_l03Trade_0o v15 v42 L12) fun (r68 : List Int) =>
  need (decide (r68.length = r7.length)) <|
  obind3 (s_l03Clear_0p0_C02o1_3o2 v15 r3 r4 L64 r47) fun (r69 : Bool) (r70 : List F) (r71 : List Int) =>
  need (decide (r70.length = r5.length)) <|
  need (decide (r71.length = r6.length)) <|
  bsel (!r69) (
    some (LR.ret (0, 0, 0, false, ([] : List F), ([] : List Int), ([] : List Int)))) (
    olet (IntKind.i64.wrap (v14 + 1)) fun (x72 : Int) =>
    olet (IntKind.i64.wrap (v15 + 1)) fun (x73 : Int) =>
    some (LR.next (r70, r71, r68, x72, x73)))
noncomputable def s_FactorBoth_k23 (a0 : Int) (a3 : F) (r3 : Int) (r4 : Int) (r5 : List F) (r6 : List Int) (r7 : List Int) (L8 : List F) (L10 : List Int) (L12 : List Int) (v14 : Int) (v15 : Int) (v41 : Int) (v42 : Int) : Option (LR ((List F) × (List Int) × (List Int) × Int × Int) ((List F) × (List Int) × (List Int) × Int) (Int × Int × Int × Bool × (List F) × (List Int) × (List Int))) :=
  obind (s_l02At r3 r4 L8 v41 v42) fun (r43 : F) =>
  obind (s_l02Size r43) fun (r44 : F) =>
  bsel (fle .f32 r44 a3) (
    some (LR.out (L8, L10, L12, v14))) (
    obind2 (s_l03Swap_0p0_C02o1_3o2 v15 v41 r3 r4 L8 L10) fun (r45 : List F) (r46 : List Int) =>
    need (decide (r45.length = r5.length)) <|
    need (decide (r46.length = r6.length)) <|
    obind (s_l03Trade_0o v15 v41 r46) fun (r47 : List Int) =>
    need (decide (r47.length = r6.length)) <|
    obind (loopM (s_FactorBoth_s24 a0 v15 v42) (r45, 0)) fun z => osum z (fun e => s_FactorBoth_k24 r3 r4 r5 r6 r7 L12 v14 v15 v42 r47 e) (fun r => some (LR.ret r)))
noncomputable def s_FactorBoth_b25 (a0 : Int) (a3 : F) (r3 : Int) (r4 : Int) (r5 : List F) (r6 : List Int) (r7 : List Int) (L8 : List F) (L10 : List Int) (L12 : List Int) (v14 : Int) (v15 : Int) : Option (LR ((List F) × (List Int) × (List Int) × Int × Int) ((List F) × (List Int) × (List Int) × Int) (Int × Int × Int × Bool × (List F) × (List Int) × (List Int))) :=
  bsel (decide (v15 < a0)) (
    obind (loopM (s_FactorBoth_s23 a0 r3 r4 L8 v15) (v15, v15, v15)) fun z => osum z (fun e => s_FactorBoth_k23 a0 a3 r3 r4 r5 r6 r7 L8 L10 L12 v14 v15 e.1 e.2) (fun r => some (LR.ret r))) (
    some (LR.out (L8, L10, L12, v14)))
noncomputable def s_FactorBoth_s25 (a0 : Int) (a3 : F) (r3 : Int) (r4 : Int) (r5 : List F) (r6 : List Int) (r7 : List Int) : ((List F) × (List Int) × (List Int) × Int × Int) → Option (LR ((List F) × (List Int) × (List Int) × Int × Int) ((List F) × (List Int) × (List Int) × Int) (Int × Int × Int × Bool × (List F) × (List Int) × (List Int))) := fun s => s_FactorBoth_b25 a0 a3 r3 r4 r5 r6 r7 s.1 s.2.1 s.2.2.1 s.2.2.2.1 s.2.2.2.2
noncomputable def s_FactorBoth_k25 (r3 : Int) (r4 : Int) (L74 : List F) (L76 : List Int) (L78 : List Int) (v80 : Int) : Option (Int × Int × Int × Bool × (List F) × (List Int) × (List Int)) :=
  some (r3, r4, v80, true, L74, L76, L78)
noncomputable def s_FactorBoth (a0 : Int) (a1 : Int) (a2 : List F) (a3 : F) : Option (Int × Int × Int × Bool × (List F) × (List Int) × (List Int)) :=
  obind (s_l02Square a0 a1 a2) fun (r1 : Bool) =>
  bsel r1 (
    obind (s_l02Least a3) fun (r2 : Bool) =>
    bsel r2 (
      obind3 (s_l02Own a0 a1 a2) fun (r3 : Int) (r4 : Int) (r5 : List F) =>
      obind (s_l03Count a0) fun (r6 : List Int) =>
      obind (s_l03Count a0) fun (r7 : List Int) =>
      obind (loopM (s_FactorBoth_s25 a0 a3 r3 r4 r5 r6 r7) (r5, r6, r7, 0, 0)) fun z => osum z (fun e => s_FactorBoth_k25 r3 r4 e.1 e.2.1 e.2.2.1 e.2.2.2) (fun r => some r)) (
      some (0, 0, 0, false, ([] : List F), ([] : List Int), ([] : List Int)))) (
    some (0, 0, 0, false, ([] : List F), ([] : List Int), ([] : List Int)))
theorem s_FactorBoth_ok (a0 : Int) (a1 : Int) (a2 : List F) (a3 : F) (q0 : Int) (q1 : Int) (q2 : Int) (q3 : Bool) (q4 : List F) (q5 : List Int) (q6 : List Int) (h : s_FactorBoth a0 a1 a2 a3 = some (q0, q1, q2, q3, q4, q5, q6)) : Ev Try.prog 32 [AV.agg [AV.i64 a0, AV.i64 a1, AV.sl a2.length (a2.map AV.f32)], AV.f32 a3] [] (AV.tup [AV.agg [AV.i64 q0, AV.i64 q1, AV.oref 0 0 0 q4.length, AV.oref 1 0 0 q5.length], AV.oref 2 0 0 q6.length, AV.i64 q2, AV.b q3]) [⟨0, some (q4.map AV.f32)⟩, ⟨0, some (q5.map AV.i64)⟩, ⟨0, some (q6.map AV.i64)⟩] := by
  refine Ev.start Try.func32 rfl rfl 8 (τ := [(0, AV.agg [AV.i64 a0, AV.i64 a1, AV.sl a2.length (a2.map AV.f32)]), (1, AV.f32 a3)]) rfl (Γ' := [⟨0, none⟩, ⟨0, none⟩, ⟨0, none⟩, ⟨0, none⟩, ⟨0, none⟩, ⟨0, none⟩, ⟨0, none⟩, ⟨0, none⟩]) rfl (n := 141) rfl (g := 0) rfl ?_
  unfold s_FactorBoth at h
  refine RunC.seq ?_
  refine RunC.regionW ?_
  refine ROps.d (r := AV.ptr [AV.i64 a0, AV.i64 a1, AV.sl a2.length (a2.map AV.f32)]) (fs := []) (Γ' := [⟨0, none⟩, ⟨0, none⟩, ⟨0, none⟩, ⟨0, none⟩, ⟨0, none⟩, ⟨0, none⟩, ⟨0, none⟩, ⟨0, none⟩]) rfl rfl rfl (TOp.box_s rfl rfl rfl) rfl ?_
  refine ROps.d (r := AV.optr 0 1 0) (fs := [(0, [AV.i64 0, AV.i64 0, AV.nilsl, AV.nilsl])]) (Γ' := [⟨1, some [AV.i64 0, AV.i64 0, AV.nilsl, AV.nilsl]⟩, ⟨0, none⟩, ⟨0, none⟩, ⟨0, none⟩, ⟨0, none⟩, ⟨0, none⟩, ⟨0, none⟩, ⟨0, none⟩]) rfl rfl rfl (TOp.alloc_o (g := ⟨0, none⟩) 0 rfl zer48 zok48 rfl) rfl ?_
  refine ROps.l (r := AV.nilsl) rfl rfl rfl (LOp.assign rfl rfl) ?_
  refine ROps.l (r := AV.i64 0) rfl rfl rfl (LOp.assign rfl rfl) ?_
  refine ROps.l (r := AV.b false) rfl rfl rfl (LOp.assign rfl rfl) ?_
  refine ROps.nil ?_
  refine RunC.seq ?_
  refine RunC.seq ?_
  obtain ⟨r1, hf1, h⟩ := obind_some h
  rcases bsel_some h with ⟨hc2, h⟩ | ⟨hc2, h⟩
  · obtain ⟨r2, hf3, h⟩ := obind_some h
    rcases bsel_some h with ⟨hc4, h⟩ | ⟨hc4, h⟩
    · refine RunC.regionW ?_
      refine ROps.d (r := AV.b true) (fs := []) (Γ' := [⟨1, some [AV.i64 0, AV.i64 0, AV.nilsl, AV.nilsl]⟩, ⟨0, none⟩, ⟨0, none⟩, ⟨0, none⟩, ⟨0, none⟩, ⟨0, none⟩, ⟨0, none⟩, ⟨0, none⟩]) rfl rfl rfl (TOp.eqb (TOp.callB (CallAs.func ent55 rfl rfl) (Bors.cons (Bor.ptr (Bors.cons (Bor.pure rfl) (Bors.cons (Bor.pure rfl) (Bors.cons (Bor.sl (fun _ => rfl)) Bors.nil)))) Bors.nil) rfl rfl (s_l02Square_ok a0 a1 a2 r1 hf1)) hc2) rfl ?_
      refine ROps.l (r := AV.b false) rfl rfl rfl (LOp.eqb (LOp.not rfl rfl) rfl) ?_
      refine ROps.l (r := AV.b false) rfl rfl rfl (LOp.move rfl rfl) ?_
      refine ROps.l (r := AV.f32 a3) rfl rfl rfl (LOp.move rfl rfl) ?_
      refine ROps.d (r := AV.b true) (fs := []) (Γ' := [⟨1, some [AV.i64 0, AV.i64 0, AV.nilsl, AV.nilsl]⟩, ⟨0, none⟩, ⟨0, none⟩, ⟨0, none⟩, ⟨0, none⟩, ⟨0, none⟩, ⟨0, none⟩, ⟨0, none⟩]) rfl rfl rfl (TOp.eqb (TOp.callB (CallAs.func ent38 rfl rfl) (Bors.cons (Bor.pure rfl) Bors.nil) rfl rfl (s_l02Least_ok a3 r2 hf3)) hc4) rfl ?_
      refine ROps.l (r := AV.b false) rfl rfl rfl (LOp.eqb (LOp.not rfl rfl) rfl) ?_
      refine ROps.l (r := AV.b false) rfl rfl rfl (LOp.pick_false rfl rfl rfl) ?_
      refine ROps.nil ?_
      refine RunC.cond_false rfl rfl ?_
      refine RunC.skip ?_
      refine RunC.seq ?_
      refine RunC.regionW ?_
      refine ROps.l (r := AV.ptr [AV.i64 a0, AV.i64 a1, AV.sl a2.length (a2.map AV.f32)]) rfl rfl rfl (LOp.fap und27 rfl siz2 rfl rfl rfl) ?_
      refine ROps.l (r := AV.i64 a0) rfl rfl rfl (LOp.load1 agg2 rfl rfl) ?_
      refine ROps.l (r := AV.i64 a0) rfl rfl rfl (LOp.assign rfl rfl) ?_
      refine ROps.nil ?_
      refine RunC.wl (τ' := [(1, AV.f32 a3), (2, AV.ptr [AV.i64 a0, AV.i64 a1, AV.sl a2.length (a2.map AV.f32)]), (4, AV.optr 0 1 0), (8, AV.i64 a0)]) (Γ' := [⟨1, some [AV.i64 0, AV.i64 0, AV.nilsl, AV.nilsl]⟩, ⟨0, none⟩, ⟨0, none⟩, ⟨0, none⟩, ⟨0, none⟩, ⟨0, none⟩, ⟨0, none⟩, ⟨0, none⟩]) ⟨(ALe.refl _), (ALe.refl _), (ALe.refl _), (ALe.refl _), trivial⟩ ⟨⟨rfl, .inr rfl⟩, ⟨rfl, .inr rfl⟩, ⟨rfl, .inr rfl⟩, ⟨rfl, .inr rfl⟩, ⟨rfl, .inr rfl⟩, ⟨rfl, .inr rfl⟩, ⟨rfl, .inr rfl⟩, ⟨rfl, .inr rfl⟩, trivial⟩ ?_
      refine RunC.seq ?_
      obtain ⟨r3, r4, r5, hf5, h⟩ := obind3_some h
      obtain ⟨r6, hf6, h⟩ := obind_some h
      refine RunC.regionW ?_
      refine ROps.d (r := AV.agg [AV.i64 r3, AV.i64 r4, AV.oref 1 1 0 r5.length]) (fs := [(1, (r5.map AV.f32))]) (Γ' := [⟨1, some [AV.i64 0, AV.i64 0, AV.nilsl, AV.nilsl]⟩, ⟨1, some (r5.map AV.f32)⟩, ⟨0, none⟩, ⟨0, none⟩, ⟨0, none⟩, ⟨0, none⟩, ⟨0, none⟩, ⟨0, none⟩]) rfl rfl rfl (TOp.callBN (ls := [(r5.map AV.f32)]) [1] (CallAs.func ent40 rfl rfl) (Bors.cons (Bor.ptr (Bors.cons (Bor.pure rfl) (Bors.cons (Bor.pure rfl) (Bors.cons (Bor.sl (fun _ => rfl)) Bors.nil)))) Bors.nil) rfl (s_l02Own_ok a0 a1 a2 r3 r4 r5 hf5) (and_all (lts0_map (f := AV.f32) (fun _ => rfl) _) rfl) (and_all (noss_map (f := AV.f32) (fun _ => rfl) _) rfl) rfl (by decide) (ns_of ⟨⟨_, rfl⟩, trivial⟩)) rfl ?_
      refine ROps.l (r := AV.i64 a0) rfl rfl rfl (LOp.move rfl rfl) ?_
      refine ROps.d (r := AV.oref 2 1 0 r6.length) (fs := [(2, (r6.map AV.i64))]) (Γ' := [⟨1, some [AV.i64 0, AV.i64 0, AV.nilsl, AV.nilsl]⟩, ⟨1, some (r5.map AV.f32)⟩, ⟨1, some (r6.map AV.i64)⟩, ⟨0, none⟩, ⟨0, none⟩, ⟨0, none⟩, ⟨0, none⟩, ⟨0, none⟩]) rfl rfl rfl (TOp.callBN (ls := [(r6.map AV.i64)]) [2] (CallAs.func ent68 rfl rfl) (Bors.cons (Bor.pure rfl) Bors.nil) rfl (s_l03Count_ok a0 r6 hf6) (and_all (lts0_map (f := AV.i64) (fun _ => rfl) _) rfl) (and_all (noss_map (f := AV.i64) (fun _ => rfl) _) rfl) rfl (by decide) (ns_of ⟨⟨_, rfl⟩, trivial⟩)) rfl ?_
      refine ROps.l (r := AV.agg [AV.i64 r3, AV.i64 r4, AV.oref 1 1 0 r5.length, AV.oref 2 1 0 r6.length]) rfl rfl rfl (LOp.build (qs := [(0, [AV.i64 r3, AV.i64 r4, AV.oref 1 1 0 r5.length]), (1, [AV.oref 2 1 0 r6.length])]) zer48 zok48 und48 plc48 rfl ⟨rfl, ⟨_, ALe.refl _, rfl⟩, ⟨rfl, ⟨_, ALe.refl _, rfl⟩, trivial⟩⟩ rfl) ?_
      refine ROps.d (r := AV.optr 3 1 0) (fs := [(3, [AV.i64 0, AV.i64 0, AV.nilsl, AV.nilsl])]) (Γ' := [⟨1, some [AV.i64 0, AV.i64 0, AV.nilsl, AV.nilsl]⟩, ⟨1, some (r5.map AV.f32)⟩, ⟨1, some (r6.map AV.i64)⟩, ⟨1, some [AV.i64 0, AV.i64 0, AV.nilsl, AV.nilsl]⟩, ⟨0, none⟩, ⟨0, none⟩, ⟨0, none⟩, ⟨0, none⟩]) rfl rfl rfl (TOp.alloc_o (g := ⟨0, none⟩) 3 rfl zer48 zok48 rfl) rfl ?_
      refine ROps.store_le (r := AV.agg [AV.i64 r3, AV.i64 r4, AV.oref 1 1 0 r5.length, AV.oref 2 1 0 r6.length]) (l' := [AV.i64 r3, AV.i64 r4, AV.oref 1 1 0 r5.length, AV.oref 2 1 0 r6.length]) (Γ' := [⟨1, some [AV.i64 0, AV.i64 0, AV.nilsl, AV.nilsl]⟩, ⟨1, some (r5.map AV.f32)⟩, ⟨1, some (r6.map AV.i64)⟩, ⟨1, some [AV.i64 r3, AV.i64 r4, AV.oref 1 1 0 r5.length, AV.oref 2 1 0 r6.length]⟩, ⟨0, none⟩, ⟨0, none⟩, ⟨0, none⟩, ⟨0, none⟩]) rfl siz48 rfl rfl rfl (ALe.refl _) rfl rfl rfl rfl (Nat.le_of_ble_eq_true rfl) rfl rfl ?_
      refine ROps.nil ?_
      refine RunC.seq ?_
      obtain ⟨r7, hf7, h⟩ := obind_some h
      refine RunC.regionW ?_
      refine ROps.l (r := AV.i64 a0) rfl rfl rfl (LOp.move rfl rfl) ?_
      refine ROps.d (r := AV.oref 4 1 0 r7.length) (fs := [(4, (r7.map AV.i64))]) (Γ' := [⟨1, some [AV.i64 0, AV.i64 0, AV.nilsl, AV.nilsl]⟩, ⟨1, some (r5.map AV.f32)⟩, ⟨1, some (r6.map AV.i64)⟩, ⟨1, some [AV.i64 r3, AV.i64 r4, AV.oref 1 1 0 r5.length, AV.oref 2 1 0 r6.length]⟩, ⟨1, some (r7.map AV.i64)⟩, ⟨0, none⟩, ⟨0, none⟩, ⟨0, none⟩]) rfl rfl rfl (TOp.callBN (ls := [(r7.map AV.i64)]) [4] (CallAs.func ent68 rfl rfl) (Bors.cons (Bor.pure rfl) Bors.nil) rfl (s_l03Count_ok a0 r7 hf7) (and_all (lts0_map (f := AV.i64) (fun _ => rfl) _) rfl) (and_all (noss_map (f := AV.i64) (fun _ => rfl) _) rfl) rfl (by decide) (ns_of ⟨⟨_, rfl⟩, trivial⟩)) rfl ?_
      refine ROps.l (r := AV.oref 4 1 0 r7.length) rfl rfl rfl (LOp.assign rfl rfl) ?_
      refine ROps.nil ?_
      refine RunC.seq ?_
      refine RunC.regionW ?_
      refine ROps.l (r := AV.i64 0) rfl rfl rfl (LOp.assign rfl rfl) ?_
      refine ROps.nil ?_
      refine RunC.seq ?_
      refine RunC.seq ?_
      refine RunC.regionW ?_
      refine ROps.l (r := AV.i64 0) rfl rfl rfl (LOp.assign rfl rfl) ?_
      refine ROps.nil ?_
      obtain ⟨z26, hz_26, h⟩ := obind_some h
      refine RunC.cutN (fun τ Γ => ∃ (L74 : List F) (L76 : List Int) (L78 : List Int) (v80 : Int), L74.length = r5.length ∧ L76.length = r6.length ∧ L78.length = r7.length ∧ WeakLe τ [(4, AV.optr 0 1 0), (9, AV.optr 3 1 0), (10, AV.oref 4 1 0 r7.length), (11, AV.i64 v80)] ∧ DeadLe Γ [⟨1, some [AV.i64 0, AV.i64 0, AV.nilsl, AV.nilsl]⟩, ⟨1, some (L74.map AV.f32)⟩, ⟨1, some (L76.map AV.i64)⟩, ⟨1, some [AV.i64 r3, AV.i64 r4, AV.oref 1 1 0 r5.length, AV.oref 2 1 0 r6.length]⟩, ⟨1, some (L78.map AV.i64)⟩, ⟨0, none⟩, ⟨0, none⟩, ⟨0, none⟩] ∧ z26 = .inl (L74, L76, L78, v80)) ?_ ?_
      · refine RunC.block (RunC.loop (RunL.loopM (x := z26) (s_FactorBoth_s25 a0 a3 r3 r4 r5 r6 r7) (fun (s : (List F) × (List Int) × (List Int) × Int × Int) τ Γ => s.1.length = r5.length ∧ s.2.1.length = r6.length ∧ s.2.2.1.length = r7.length ∧ WeakLe τ [(1, AV.f32 a3), (4, AV.optr 0 1 0), (8, AV.i64 a0), (9, AV.optr 3 1 0), (10, AV.oref 4 1 0 r7.length), (11, AV.i64 s.2.2.2.1), (12, AV.i64 s.2.2.2.2)] ∧ DeadLe Γ [⟨1, some [AV.i64 0, AV.i64 0, AV.nilsl, AV.nilsl]⟩, ⟨1, some (s.1.map AV.f32)⟩, ⟨1, some (s.2.1.map AV.i64)⟩, ⟨1, some [AV.i64 r3, AV.i64 r4, AV.oref 1 1 0 r5.length, AV.oref 2 1 0 r6.length]⟩, ⟨1, some (s.2.2.1.map AV.i64)⟩, ⟨0, none⟩, ⟨0, none⟩, ⟨0, none⟩]) ?_ _ _ _ hz_26 ⟨rfl, rfl, rfl, ⟨(ALe.refl _), (ALe.refl _), (ALe.refl _), (ALe.refl _), (ALe.refl _), (ALe.refl _), (ALe.refl _), trivial⟩, ⟨⟨rfl, .inr rfl⟩, ⟨rfl, .inr rfl⟩, ⟨rfl, .inr rfl⟩, ⟨rfl, .inr rfl⟩, ⟨rfl, .inr rfl⟩, ⟨rfl, .inr rfl⟩, ⟨rfl, .inr rfl⟩, ⟨rfl, .inr rfl⟩, trivial⟩⟩))
        rintro ⟨L8, L10, L12, v14, v15⟩ τ26 Γ26 y26_ ⟨hl9, hl11, hl13, hw26, hd26⟩ h26_ ho26 hr26
        refine RunC.wl (τ' := [(1, AV.f32 a3), (4, AV.optr 0 1 0), (8, AV.i64 a0), (9, AV.optr 3 1 0), (10, AV.oref 4 1 0 r7.length), (11, AV.i64 v14), (12, AV.i64 v15)]) (Γ' := [⟨1, some [AV.i64 0, AV.i64 0, AV.nilsl, AV.nilsl]⟩, ⟨1, some (L8.map AV.f32)⟩, ⟨1, some (L10.map AV.i64)⟩, ⟨1, some [AV.i64 r3, AV.i64 r4, AV.oref 1 1 0 r5.length, AV.oref 2 1 0 r6.length]⟩, ⟨1, some (L12.map AV.i64)⟩, ⟨0, none⟩, ⟨0, none⟩, ⟨0, none⟩]) hw26 hd26 ?_
        replace hl9 : L8.length = r5.length := hl9
        replace hl11 : L10.length = r6.length := hl11
        replace hl13 : L12.length = r7.length := hl13
        replace h26_ : s_FactorBoth_b25 a0 a3 r3 r4 r5 r6 r7 L8 L10 L12 v14 v15 = some y26_ := h26_
        unfold s_FactorBoth_b25 at h26_
        refine RunC.seq ?_
        refine RunC.seq ?_
        rcases bsel_some h26_ with ⟨hc8, h26_⟩ | ⟨hc8, h26_⟩
        · refine RunC.regionW ?_
          refine ROps.l (r := AV.i64 v15) rfl rfl rfl (LOp.move rfl rfl) ?_
          refine ROps.l (r := AV.i64 a0) rfl rfl rfl (LOp.move rfl rfl) ?_
          refine ROps.l (r := AV.b true) rfl rfl rfl (LOp.eqb (LOp.lss rfl rfl rfl) hc8) ?_
          refine ROps.nil ?_
          refine RunC.cond_true rfl rfl ?_
          refine RunC.skip ?_
          refine RunC.seq ?_
          refine RunC.block ?_
          refine RunC.seq ?_
          refine RunC.regionW ?_
          refine ROps.l (r := AV.i64 v15) rfl rfl rfl (LOp.move rfl rfl) ?_
          refine ROps.l (r := AV.i64 v15) rfl rfl rfl (LOp.assign rfl rfl) ?_
          refine ROps.nil ?_
          refine RunC.seq ?_
          refine RunC.regionW ?_
          refine ROps.l (r := AV.i64 v15) rfl rfl rfl (LOp.move rfl rfl) ?_
          refine ROps.l (r := AV.i64 v15) rfl rfl rfl (LOp.assign rfl rfl) ?_
          refine ROps.nil ?_
          refine RunC.seq ?_
          refine RunC.seq ?_
          refine RunC.regionW ?_
          refine ROps.l (r := AV.i64 v15) rfl rfl rfl (LOp.move rfl rfl) ?_
          refine ROps.l (r := AV.i64 v15) rfl rfl rfl (LOp.assign rfl rfl) ?_
          refine ROps.nil ?_
          obtain ⟨z27, hz_27, h26_⟩ := obind_some h26_
          refine RunC.cutN (fun τ Γ => ∃ (v41 : Int) (v42 : Int), L8.length = r5.length ∧ L10.length = r6.length ∧ L12.length = r7.length ∧ WeakLe τ [(1, AV.f32 a3), (4, AV.optr 0 1 0), (8, AV.i64 a0), (9, AV.optr 3 1 0), (10, AV.oref 4 1 0 r7.length), (11, AV.i64 v14), (12, AV.i64 v15), (13, AV.i64 v41), (14, AV.i64 v42)] ∧ DeadLe Γ [⟨1, some [AV.i64 0, AV.i64 0, AV.nilsl, AV.nilsl]⟩, ⟨1, some (L8.map AV.f32)⟩, ⟨1, some (L10.map AV.i64)⟩, ⟨1, some [AV.i64 r3, AV.i64 r4, AV.oref 1 1 0 r5.length, AV.oref 2 1 0 r6.length]⟩, ⟨1, some (L12.map AV.i64)⟩, ⟨0, none⟩, ⟨0, none⟩, ⟨0, none⟩] ∧ z27 = .inl (v41, v42)) ?_ ?_
          · refine RunC.block (RunC.loop (RunL.loopM (x := z27) (s_FactorBoth_s23 a0 r3 r4 L8 v15) (fun (s : Int × Int × Int) τ Γ => WeakLe τ [(1, AV.f32 a3), (4, AV.optr 0 1 0), (8, AV.i64 a0), (9, AV.optr 3 1 0), (10, AV.oref 4 1 0 r7.length), (11, AV.i64 v14), (12, AV.i64 v15), (13, AV.i64 s.1), (14, AV.i64 s.2.1), (15, AV.i64 s.2.2)] ∧ DeadLe Γ [⟨1, some [AV.i64 0, AV.i64 0, AV.nilsl, AV.nilsl]⟩, ⟨1, some (L8.map AV.f32)⟩, ⟨1, some (L10.map AV.i64)⟩, ⟨1, some [AV.i64 r3, AV.i64 r4, AV.oref 1 1 0 r5.length, AV.oref 2 1 0 r6.length]⟩, ⟨1, some (L12.map AV.i64)⟩, ⟨0, none⟩, ⟨0, none⟩, ⟨0, none⟩]) ?_ _ _ _ hz_27 ⟨⟨(ALe.refl _), (ALe.refl _), (ALe.refl _), (ALe.refl _), (ALe.refl _), (ALe.refl _), (ALe.refl _), (ALe.refl _), (ALe.refl _), (ALe.refl _), trivial⟩, ⟨⟨rfl, .inr rfl⟩, ⟨rfl, .inr rfl⟩, ⟨rfl, .inr rfl⟩, ⟨rfl, .inr rfl⟩, ⟨rfl, .inr rfl⟩, ⟨rfl, .inr rfl⟩, ⟨rfl, .inr rfl⟩, ⟨rfl, .inr rfl⟩, trivial⟩⟩))
            rintro ⟨v16, v17, v18⟩ τ27 Γ27 y27_ ⟨hw27, hd27⟩ h27_ ho27 hr27
            refine RunC.wl (τ' := [(1, AV.f32 a3), (4, AV.optr 0 1 0), (8, AV.i64 a0), (9, AV.optr 3 1 0), (10, AV.oref 4 1 0 r7.length), (11, AV.i64 v14), (12, AV.i64 v15), (13, AV.i64 v16), (14, AV.i64 v17), (15, AV.i64 v18)]) (Γ' := [⟨1, some [AV.i64 0, AV.i64 0, AV.nilsl, AV.nilsl]⟩, ⟨1, some (L8.map AV.f32)⟩, ⟨1, some (L10.map AV.i64)⟩, ⟨1, some [AV.i64 r3, AV.i64 r4, AV.oref 1 1 0 r5.length, AV.oref 2 1 0 r6.length]⟩, ⟨1, some (L12.map AV.i64)⟩, ⟨0, none⟩, ⟨0, none⟩, ⟨0, none⟩]) hw27 hd27 ?_
            replace h27_ : s_FactorBoth_b23 a0 r3 r4 L8 v15 v16 v17 v18 = some y27_ := h27_
            unfold s_FactorBoth_b23 at h27_
            refine RunC.seq ?_
            refine RunC.seq ?_
            rcases bsel_some h27_ with ⟨hc9, h27_⟩ | ⟨hc9, h27_⟩
            · refine RunC.regionW ?_
              refine ROps.l (r := AV.i64 v18) rfl rfl rfl (LOp.move rfl rfl) ?_
              refine ROps.l (r := AV.i64 a0) rfl rfl rfl (LOp.move rfl rfl) ?_
              refine ROps.l (r := AV.b true) rfl rfl rfl (LOp.eqb (LOp.lss rfl rfl rfl) hc9) ?_
              refine ROps.nil ?_
              refine RunC.cond_true rfl rfl ?_
              refine RunC.skip ?_
              refine RunC.seq ?_
              refine RunC.block ?_
              refine RunC.seq ?_
              refine RunC.regionW ?_
              refine ROps.l (r := AV.i64 v15) rfl rfl rfl (LOp.move rfl rfl) ?_
              refine ROps.l (r := AV.i64 v15) rfl rfl rfl (LOp.assign rfl rfl) ?_
              refine ROps.nil ?_
              obtain ⟨z28, hz_28, h27_⟩ := obind_some h27_
              refine RunC.cutN (fun τ Γ => ∃ (v35 : Int) (v36 : Int), L8.length = r5.length ∧ L10.length = r6.length ∧ L12.length = r7.length ∧ WeakLe τ [(1, AV.f32 a3), (4, AV.optr 0 1 0), (8, AV.i64 a0), (9, AV.optr 3 1 0), (10, AV.oref 4 1 0 r7.length), (11, AV.i64 v14), (12, AV.i64 v15), (13, AV.i64 v35), (14, AV.i64 v36), (15, AV.i64 v18)] ∧ DeadLe Γ [⟨1, some [AV.i64 0, AV.i64 0, AV.nilsl, AV.nilsl]⟩, ⟨1, some (L8.map AV.f32)⟩, ⟨1, some (L10.map AV.i64)⟩, ⟨1, some [AV.i64 r3, AV.i64 r4, AV.oref 1 1 0 r5.length, AV.oref 2 1 0 r6.length]⟩, ⟨1, some (L12.map AV.i64)⟩, ⟨0, none⟩, ⟨0, none⟩, ⟨0, none⟩] ∧ z28 = .inl (v35, v36)) ?_ ?_
              · refine RunC.block (RunC.loop (RunL.loopM (x := z28) (s_FactorBoth_s22 a0 r3 r4 L8 v18) (fun (s : Int × Int × Int) τ Γ => WeakLe τ [(1, AV.f32 a3), (4, AV.optr 0 1 0), (8, AV.i64 a0), (9, AV.optr 3 1 0), (10, AV.oref 4 1 0 r7.length), (11, AV.i64 v14), (12, AV.i64 v15), (13, AV.i64 s.1), (14, AV.i64 s.2.1), (15, AV.i64 v18), (16, AV.i64 s.2.2)] ∧ DeadLe Γ [⟨1, some [AV.i64 0, AV.i64 0, AV.nilsl, AV.nilsl]⟩, ⟨1, some (L8.map AV.f32)⟩, ⟨1, some (L10.map AV.i64)⟩, ⟨1, some [AV.i64 r3, AV.i64 r4, AV.oref 1 1 0 r5.length, AV.oref 2 1 0 r6.length]⟩, ⟨1, some (L12.map AV.i64)⟩, ⟨0, none⟩, ⟨0, none⟩, ⟨0, none⟩]) ?_ _ _ _ hz_28 ⟨⟨(ALe.refl _), (ALe.refl _), (ALe.refl _), (ALe.refl _), (ALe.refl _), (ALe.refl _), (ALe.refl _), (ALe.refl _), (ALe.refl _), (ALe.refl _), (ALe.refl _), trivial⟩, ⟨⟨rfl, .inr rfl⟩, ⟨rfl, .inr rfl⟩, ⟨rfl, .inr rfl⟩, ⟨rfl, .inr rfl⟩, ⟨rfl, .inr rfl⟩, ⟨rfl, .inr rfl⟩, ⟨rfl, .inr rfl⟩, ⟨rfl, .inr rfl⟩, trivial⟩⟩))
                rintro ⟨v19, v20, v21⟩ τ28 Γ28 y28_ ⟨hw28, hd28⟩ h28_ ho28 hr28
                refine RunC.wl (τ' := [(1, AV.f32 a3), (4, AV.optr 0 1 0), (8, AV.i64 a0), (9, AV.optr 3 1 0), (10, AV.oref 4 1 0 r7.length), (11, AV.i64 v14), (12, AV.i64 v15), (13, AV.i64 v19), (14, AV.i64 v20), (15, AV.i64 v18), (16, AV.i64 v21)]) (Γ' := [⟨1, some [AV.i64 0, AV.i64 0, AV.nilsl, AV.nilsl]⟩, ⟨1, some (L8.map AV.f32)⟩, ⟨1, some (L10.map AV.i64)⟩, ⟨1, some [AV.i64 r3, AV.i64 r4, AV.oref 1 1 0 r5.length, AV.oref 2 1 0 r6.length]⟩, ⟨1, some (L12.map AV.i64)⟩, ⟨0, none⟩, ⟨0, none⟩, ⟨0, none⟩]) hw28 hd28 ?_
                replace h28_ : s_FactorBoth_b22 a0 r3 r4 L8 v18 v19 v20 v21 = some y28_ := h28_
                unfold s_FactorBoth_b22 at h28_
                refine RunC.seq ?_
                refine RunC.seq ?_
                rcases bsel_some h28_ with ⟨hc10, h28_⟩ | ⟨hc10, h28_⟩
                · refine RunC.regionW ?_
                  refine ROps.l (r := AV.i64 v21) rfl rfl rfl (LOp.move rfl rfl) ?_
                  refine ROps.l (r := AV.i64 a0) rfl rfl rfl (LOp.move rfl rfl) ?_
                  refine ROps.l (r := AV.b true) rfl rfl rfl (LOp.eqb (LOp.lss rfl rfl rfl) hc10) ?_
                  refine ROps.nil ?_
                  refine RunC.cond_true rfl rfl ?_
                  refine RunC.skip ?_
                  refine RunC.seq ?_
                  refine RunC.cutN (fun τ Γ => ∃ (v26 : Int) (v27 : Int), L8.length = r5.length ∧ L10.length = r6.length ∧ L12.length = r7.length ∧ WeakLe τ [(1, AV.f32 a3), (4, AV.optr 0 1 0), (8, AV.i64 a0), (9, AV.optr 3 1 0), (10, AV.oref 4 1 0 r7.length), (11, AV.i64 v14), (12, AV.i64 v15), (13, AV.i64 v26), (14, AV.i64 v27), (15, AV.i64 v18), (16, AV.i64 v21)] ∧ DeadLe Γ [⟨1, some [AV.i64 0, AV.i64 0, AV.nilsl, AV.nilsl]⟩, ⟨1, some (L8.map AV.f32)⟩, ⟨1, some (L10.map AV.i64)⟩, ⟨1, some [AV.i64 r3, AV.i64 r4, AV.oref 1 1 0 r5.length, AV.oref 2 1 0 r6.length]⟩, ⟨1, some (L12.map AV.i64)⟩, ⟨0, none⟩, ⟨0, none⟩, ⟨0, none⟩] ∧ s_FactorBoth_k21 v21 v26 v27 = some y28_) ?_ ?_
                  · refine RunC.block ?_
                    refine RunC.seq ?_
                    obtain ⟨r22, hf11, h28_⟩ := obind_some h28_
                    obtain ⟨r23, hf12, h28_⟩ := obind_some h28_
                    obtain ⟨r24, hf13, h28_⟩ := obind_some h28_
                    obtain ⟨r25, hf14, h28_⟩ := obind_some h28_
                    rcases bsel_some h28_ with ⟨hc15, h28_⟩ | ⟨hc15, h28_⟩
                    · refine RunC.regionW ?_
                      refine ROps.l (r := AV.optr 3 1 0) rfl rfl rfl (LOp.fao und48 rfl siz27 rfl rfl rfl) ?_
                      refine ROps.l (r := AV.i64 v18) rfl rfl rfl (LOp.move rfl rfl) ?_
                      refine ROps.l (r := AV.i64 v21) rfl rfl rfl (LOp.move rfl rfl) ?_
                      refine ROps.d (r := AV.f32 r22) (fs := []) (Γ' := [⟨1, some [AV.i64 0, AV.i64 0, AV.nilsl, AV.nilsl]⟩, ⟨1, some (L8.map AV.f32)⟩, ⟨1, some (L10.map AV.i64)⟩, ⟨1, some [AV.i64 r3, AV.i64 r4, AV.oref 1 1 0 r5.length, AV.oref 2 1 0 r6.length]⟩, ⟨1, some (L12.map AV.i64)⟩, ⟨0, none⟩, ⟨0, none⟩, ⟨0, none⟩]) rfl rfl rfl (TOp.callB (CallAs.func ent43 rfl rfl) (Bors.cons (Bor.optrT 3 rfl (Bors.p (Bors.cons (Bor.pure rfl) (Bors.cons (Bor.pure rfl) (Bors.cons (Bor.own (f := AV.f32) (fun _ => rfl) rfl hl9) (Bors.cons (Bor.own (f := AV.i64) (fun _ => rfl) rfl hl11) Bors.nil))))) rfl) (Bors.cons (Bor.pure rfl) (Bors.cons (Bor.pure rfl) Bors.nil))) rfl rfl (s_l02At_ok r3 r4 L8 v18 v21 r22 hf11)) rfl ?_
                      refine ROps.d (r := AV.f32 r23) (fs := []) (Γ' := [⟨1, some [AV.i64 0, AV.i64 0, AV.nilsl, AV.nilsl]⟩, ⟨1, some (L8.map AV.f32)⟩, ⟨1, some (L10.map AV.i64)⟩, ⟨1, some [AV.i64 r3, AV.i64 r4, AV.oref 1 1 0 r5.length, AV.oref 2 1 0 r6.length]⟩, ⟨1, some (L12.map AV.i64)⟩, ⟨0, none⟩, ⟨0, none⟩, ⟨0, none⟩]) rfl rfl rfl (TOp.callB (CallAs.func ent42 rfl rfl) (Bors.cons (Bor.pure rfl) Bors.nil) rfl rfl (s_l02Size_ok r22 r23 hf12)) rfl ?_
                      refine ROps.l (r := AV.optr 3 1 0) rfl rfl rfl (LOp.fao und48 rfl siz27 rfl rfl rfl) ?_
                      refine ROps.l (r := AV.i64 v19) rfl rfl rfl (LOp.move rfl rfl) ?_
                      refine ROps.l (r := AV.i64 v20) rfl rfl rfl (LOp.move rfl rfl) ?_
                      refine ROps.d (r := AV.f32 r24) (fs := []) (Γ' := [⟨1, some [AV.i64 0, AV.i64 0, AV.nilsl, AV.nilsl]⟩, ⟨1, some (L8.map AV.f32)⟩, ⟨1, some (L10.map AV.i64)⟩, ⟨1, some [AV.i64 r3, AV.i64 r4, AV.oref 1 1 0 r5.length, AV.oref 2 1 0 r6.length]⟩, ⟨1, some (L12.map AV.i64)⟩, ⟨0, none⟩, ⟨0, none⟩, ⟨0, none⟩]) rfl rfl rfl (TOp.callB (CallAs.func ent43 rfl rfl) (Bors.cons (Bor.optrT 3 rfl (Bors.p (Bors.cons (Bor.pure rfl) (Bors.cons (Bor.pure rfl) (Bors.cons (Bor.own (f := AV.f32) (fun _ => rfl) rfl hl9) (Bors.cons (Bor.own (f := AV.i64) (fun _ => rfl) rfl hl11) Bors.nil))))) rfl) (Bors.cons (Bor.pure rfl) (Bors.cons (Bor.pure rfl) Bors.nil))) rfl rfl (s_l02At_ok r3 r4 L8 v19 v20 r24 hf13)) rfl ?_
                      refine ROps.d (r := AV.f32 r25) (fs := []) (Γ' := [⟨1, some [AV.i64 0, AV.i64 0, AV.nilsl, AV.nilsl]⟩, ⟨1, some (L8.map AV.f32)⟩, ⟨1, some (L10.map AV.i64)⟩, ⟨1, some [AV.i64 r3, AV.i64 r4, AV.oref 1 1 0 r5.length, AV.oref 2 1 0 r6.length]⟩, ⟨1, some (L12.map AV.i64)⟩, ⟨0, none⟩, ⟨0, none⟩, ⟨0, none⟩]) rfl rfl rfl (TOp.callB (CallAs.func ent42 rfl rfl) (Bors.cons (Bor.pure rfl) Bors.nil) rfl rfl (s_l02Size_ok r24 r25 hf14)) rfl ?_
                      refine ROps.l (r := AV.b true) rfl rfl rfl (LOp.eqb (LOp.fgt rfl (OpF.tmp rfl) (OpF.tmp rfl)) hc15) ?_
                      refine ROps.nil ?_
                      refine RunC.wl (τ' := [(1, AV.f32 a3), (4, AV.optr 0 1 0), (8, AV.i64 a0), (9, AV.optr 3 1 0), (10, AV.oref 4 1 0 r7.length), (11, AV.i64 v14), (12, AV.i64 v15), (13, AV.i64 v19), (14, AV.i64 v20), (15, AV.i64 v18), (16, AV.i64 v21), (64, AV.b true)]) (Γ' := [⟨1, some [AV.i64 0, AV.i64 0, AV.nilsl, AV.nilsl]⟩, ⟨1, some (L8.map AV.f32)⟩, ⟨1, some (L10.map AV.i64)⟩, ⟨1, some [AV.i64 r3, AV.i64 r4, AV.oref 1 1 0 r5.length, AV.oref 2 1 0 r6.length]⟩, ⟨1, some (L12.map AV.i64)⟩, ⟨0, none⟩, ⟨0, none⟩, ⟨0, none⟩]) ⟨(ALe.refl _), (ALe.refl _), (ALe.refl _), (ALe.refl _), (ALe.refl _), (ALe.refl _), (ALe.refl _), (ALe.refl _), (ALe.refl _), (ALe.refl _), (ALe.refl _), (ALe.refl _), trivial⟩ ⟨⟨rfl, .inr rfl⟩, ⟨rfl, .inr rfl⟩, ⟨rfl, .inr rfl⟩, ⟨rfl, .inr rfl⟩, ⟨rfl, .inr rfl⟩, ⟨rfl, .inr rfl⟩, ⟨rfl, .inr rfl⟩, ⟨rfl, .inr rfl⟩, trivial⟩ ?_
                      refine RunC.cond_true rfl rfl ?_
                      refine RunC.seq ?_
                      refine RunC.regionW ?_
                      refine ROps.l (r := AV.i64 v18) rfl rfl rfl (LOp.move rfl rfl) ?_
                      refine ROps.l (r := AV.i64 v18) rfl rfl rfl (LOp.assign rfl rfl) ?_
                      refine ROps.nil ?_
                      refine RunC.regionW ?_
                      refine ROps.l (r := AV.i64 v21) rfl rfl rfl (LOp.move rfl rfl) ?_
                      refine ROps.l (r := AV.i64 v21) rfl rfl rfl (LOp.assign rfl rfl) ?_
                      refine ROps.nil ?_
                      exact ⟨v18, v21, hl9, hl11, hl13, ⟨(ALe.refl _), (ALe.refl _), (ALe.refl _), (ALe.refl _), (ALe.refl _), (ALe.refl _), (ALe.refl _), (ALe.refl _), (ALe.refl _), (ALe.refl _), (ALe.refl _), trivial⟩, ⟨⟨rfl, .inr rfl⟩, ⟨rfl, .inr rfl⟩, ⟨rfl, .inr rfl⟩, ⟨rfl, .inr rfl⟩, ⟨rfl, .inr rfl⟩, ⟨rfl, .inr rfl⟩, ⟨rfl, .inr rfl⟩, ⟨rfl, .inr rfl⟩, trivial⟩, h28_⟩
                    · refine RunC.regionW ?_
                      refine ROps.l (r := AV.optr 3 1 0) rfl rfl rfl (LOp.fao und48 rfl siz27 rfl rfl rfl) ?_
                      refine ROps.l (r := AV.i64 v18) rfl rfl rfl (LOp.move rfl rfl) ?_
                      refine ROps.l (r := AV.i64 v21) rfl rfl rfl (LOp.move rfl rfl) ?_
                      refine ROps.d (r := AV.f32 r22) (fs := []) (Γ' := [⟨1, some [AV.i64 0, AV.i64 0, AV.nilsl, AV.nilsl]⟩, ⟨1, some (L8.map AV.f32)⟩, ⟨1, some (L10.map AV.i64)⟩, ⟨1, some [AV.i64 r3, AV.i64 r4, AV.oref 1 1 0 r5.length, AV.oref 2 1 0 r6.length]⟩, ⟨1, some (L12.map AV.i64)⟩, ⟨0, none⟩, ⟨0, none⟩, ⟨0, none⟩]) rfl rfl rfl (TOp.callB (CallAs.func ent43 rfl rfl) (Bors.cons (Bor.optrT 3 rfl (Bors.p (Bors.cons (Bor.pure rfl) (Bors.cons (Bor.pure rfl) (Bors.cons (Bor.own (f := AV.f32) (fun _ => rfl) rfl hl9) (Bors.cons (Bor.own (f := AV.i64) (fun _ => rfl) rfl hl11) Bors.nil))))) rfl) (Bors.cons (Bor.pure rfl) (Bors.cons (Bor.pure rfl) Bors.nil))) rfl rfl (s_l02At_ok r3 r4 L8 v18 v21 r22 hf11)) rfl ?_
                      refine ROps.d (r := AV.f32 r23) (fs := []) (Γ' := [⟨1, some [AV.i64 0, AV.i64 0, AV.nilsl, AV.nilsl]⟩, ⟨1, some (L8.map AV.f32)⟩, ⟨1, some (L10.map AV.i64)⟩, ⟨1, some [AV.i64 r3, AV.i64 r4, AV.oref 1 1 0 r5.length, AV.oref 2 1 0 r6.length]⟩, ⟨1, some (L12.map AV.i64)⟩, ⟨0, none⟩, ⟨0, none⟩, ⟨0, none⟩]) rfl rfl rfl (TOp.callB (CallAs.func ent42 rfl rfl) (Bors.cons (Bor.pure rfl) Bors.nil) rfl rfl (s_l02Size_ok r22 r23 hf12)) rfl ?_
                      refine ROps.l (r := AV.optr 3 1 0) rfl rfl rfl (LOp.fao und48 rfl siz27 rfl rfl rfl) ?_
                      refine ROps.l (r := AV.i64 v19) rfl rfl rfl (LOp.move rfl rfl) ?_
                      refine ROps.l (r := AV.i64 v20) rfl rfl rfl (LOp.move rfl rfl) ?_
                      refine ROps.d (r := AV.f32 r24) (fs := []) (Γ' := [⟨1, some [AV.i64 0, AV.i64 0, AV.nilsl, AV.nilsl]⟩, ⟨1, some (L8.map AV.f32)⟩, ⟨1, some (L10.map AV.i64)⟩, ⟨1, some [AV.i64 r3, AV.i64 r4, AV.oref 1 1 0 r5.length, AV.oref 2 1 0 r6.length]⟩, ⟨1, some (L12.map AV.i64)⟩, ⟨0, none⟩, ⟨0, none⟩, ⟨0, none⟩]) rfl rfl rfl (TOp.callB (CallAs.func ent43 rfl rfl) (Bors.cons (Bor.optrT 3 rfl (Bors.p (Bors.cons (Bor.pure rfl) (Bors.cons (Bor.pure rfl) (Bors.cons (Bor.own (f := AV.f32) (fun _ => rfl) rfl hl9) (Bors.cons (Bor.own (f := AV.i64) (fun _ => rfl) rfl hl11) Bors.nil))))) rfl) (Bors.cons (Bor.pure rfl) (Bors.cons (Bor.pure rfl) Bors.nil))) rfl rfl (s_l02At_ok r3 r4 L8 v19 v20 r24 hf13)) rfl ?_
                      refine ROps.d (r := AV.f32 r25) (fs := []) (Γ' := [⟨1, some [AV.i64 0, AV.i64 0, AV.nilsl, AV.nilsl]⟩, ⟨1, some (L8.map AV.f32)⟩, ⟨1, some (L10.map AV.i64)⟩, ⟨1, some [AV.i64 r3, AV.i64 r4, AV.oref 1 1 0 r5.length, AV.oref 2 1 0 r6.length]⟩, ⟨1, some (L12.map AV.i64)⟩, ⟨0, none⟩, ⟨0, none⟩, ⟨0, none⟩]) rfl rfl rfl (TOp.callB (CallAs.func ent42 rfl rfl) (Bors.cons (Bor.pure rfl) Bors.nil) rfl rfl (s_l02Size_ok r24 r25 hf14)) rfl ?_
                      refine ROps.l (r := AV.b false) rfl rfl rfl (LOp.eqb (LOp.fgt rfl (OpF.tmp rfl) (OpF.tmp rfl)) hc15) ?_
                      refine ROps.nil ?_
                      refine RunC.wl (τ' := [(1, AV.f32 a3), (4, AV.optr 0 1 0), (8, AV.i64 a0), (9, AV.optr 3 1 0), (10, AV.oref 4 1 0 r7.length), (11, AV.i64 v14), (12, AV.i64 v15), (13, AV.i64 v19), (14, AV.i64 v20), (15, AV.i64 v18), (16, AV.i64 v21), (64, AV.b false)]) (Γ' := [⟨1, some [AV.i64 0, AV.i64 0, AV.nilsl, AV.nilsl]⟩, ⟨1, some (L8.map AV.f32)⟩, ⟨1, some (L10.map AV.i64)⟩, ⟨1, some [AV.i64 r3, AV.i64 r4, AV.oref 1 1 0 r5.length, AV.oref 2 1 0 r6.length]⟩, ⟨1, some (L12.map AV.i64)⟩, ⟨0, none⟩, ⟨0, none⟩, ⟨0, none⟩]) ⟨(ALe.refl _), (ALe.refl _), (ALe.refl _), (ALe.refl _), (ALe.refl _), (ALe.refl _), (ALe.refl _), (ALe.refl _), (ALe.refl _), (ALe.refl _), (ALe.refl _), (ALe.refl _), trivial⟩ ⟨⟨rfl, .inr rfl⟩, ⟨rfl, .inr rfl⟩, ⟨rfl, .inr rfl⟩, ⟨rfl, .inr rfl⟩, ⟨rfl, .inr rfl⟩, ⟨rfl, .inr rfl⟩, ⟨rfl, .inr rfl⟩, ⟨rfl, .inr rfl⟩, trivial⟩ ?_
                      refine RunC.cond_false rfl rfl ?_
                      refine RunC.skip ?_
                      exact ⟨v19, v20, hl9, hl11, hl13, ⟨(ALe.refl _), (ALe.refl _), (ALe.refl _), (ALe.refl _), (ALe.refl _), (ALe.refl _), (ALe.refl _), (ALe.refl _), (ALe.refl _), (ALe.refl _), (ALe.refl _), trivial⟩, ⟨⟨rfl, .inr rfl⟩, ⟨rfl, .inr rfl⟩, ⟨rfl, .inr rfl⟩, ⟨rfl, .inr rfl⟩, ⟨rfl, .inr rfl⟩, ⟨rfl, .inr rfl⟩, ⟨rfl, .inr rfl⟩, ⟨rfl, .inr rfl⟩, trivial⟩, h28_⟩
                  · rintro τ29 Γ29 ⟨v26, v27, hl28, hl29, hl30, hw29, hd29, h28_⟩
                    refine RunC.wl (τ' := [(1, AV.f32 a3), (4, AV.optr 0 1 0), (8, AV.i64 a0), (9, AV.optr 3 1 0), (10, AV.oref 4 1 0 r7.length), (11, AV.i64 v14), (12, AV.i64 v15), (13, AV.i64 v26), (14, AV.i64 v27), (15, AV.i64 v18), (16, AV.i64 v21)]) (Γ' := [⟨1, some [AV.i64 0, AV.i64 0, AV.nilsl, AV.nilsl]⟩, ⟨1, some (L8.map AV.f32)⟩, ⟨1, some (L10.map AV.i64)⟩, ⟨1, some [AV.i64 r3, AV.i64 r4, AV.oref 1 1 0 r5.length, AV.oref 2 1 0 r6.length]⟩, ⟨1, some (L12.map AV.i64)⟩, ⟨0, none⟩, ⟨0, none⟩, ⟨0, none⟩]) hw29 hd29 ?_
                    unfold s_FactorBoth_k21 at h28_
                    obtain ⟨x31, hx16, h28_⟩ := olet_some h28_
                    refine RunC.regionW ?_
                    refine ROps.l (r := AV.i64 v21) rfl rfl rfl (LOp.move rfl rfl) ?_
                    refine ROps.l (r := AV.i64 x31) rfl rfl rfl (LOp.eqr (LOp.add rfl rfl rfl) (congrArg (AV.ik .i64) hx16)) ?_
                    refine ROps.l (r := AV.i64 x31) rfl rfl rfl (LOp.assign rfl rfl) ?_
                    refine ROps.nil ?_
                    cases Option.some.inj h28_
                    exact ⟨_, rfl, ⟨(ALe.refl _), (ALe.refl _), (ALe.refl _), (ALe.refl _), (ALe.refl _), (ALe.refl _), (ALe.refl _), (ALe.refl _), (ALe.refl _), (ALe.refl _), (ALe.refl _), trivial⟩, ⟨⟨rfl, .inr rfl⟩, ⟨rfl, .inr rfl⟩, ⟨rfl, .inr rfl⟩, ⟨rfl, .inr rfl⟩, ⟨rfl, .inr rfl⟩, ⟨rfl, .inr rfl⟩, ⟨rfl, .inr rfl⟩, ⟨rfl, .inr rfl⟩, trivial⟩⟩
                · refine RunC.regionW ?_
                  refine ROps.l (r := AV.i64 v21) rfl rfl rfl (LOp.move rfl rfl) ?_
                  refine ROps.l (r := AV.i64 a0) rfl rfl rfl (LOp.move rfl rfl) ?_
                  refine ROps.l (r := AV.b false) rfl rfl rfl (LOp.eqb (LOp.lss rfl rfl rfl) hc10) ?_
                  refine ROps.nil ?_
                  refine RunC.cond_false rfl rfl ?_
                  refine RunC.exit ?_
                  cases Option.some.inj h28_
                  have hx := ho28 _ rfl
                  exact ⟨v19, v20, hl9, hl11, hl13, ⟨(ALe.refl _), (ALe.refl _), (ALe.refl _), (ALe.refl _), (ALe.refl _), (ALe.refl _), (ALe.refl _), (ALe.refl _), (ALe.refl _), (ALe.refl _), trivial⟩, ⟨⟨rfl, .inr rfl⟩, ⟨rfl, .inr rfl⟩, ⟨rfl, .inr rfl⟩, ⟨rfl, .inr rfl⟩, ⟨rfl, .inr rfl⟩, ⟨rfl, .inr rfl⟩, ⟨rfl, .inr rfl⟩, ⟨rfl, .inr rfl⟩, trivial⟩, hx⟩
              · rintro τ30 Γ30 ⟨v35, v36, hl32, hl33, hl34, hw30, hd30, rfl⟩
                refine RunC.wl (τ' := [(1, AV.f32 a3), (4, AV.optr 0 1 0), (8, AV.i64 a0), (9, AV.optr 3 1 0), (10, AV.oref 4 1 0 r7.length), (11, AV.i64 v14), (12, AV.i64 v15), (13, AV.i64 v35), (14, AV.i64 v36), (15, AV.i64 v18)]) (Γ' := [⟨1, some [AV.i64 0, AV.i64 0, AV.nilsl, AV.nilsl]⟩, ⟨1, some (L8.map AV.f32)⟩, ⟨1, some (L10.map AV.i64)⟩, ⟨1, some [AV.i64 r3, AV.i64 r4, AV.oref 1 1 0 r5.length, AV.oref 2 1 0 r6.length]⟩, ⟨1, some (L12.map AV.i64)⟩, ⟨0, none⟩, ⟨0, none⟩, ⟨0, none⟩]) hw30 hd30 ?_
                replace h27_ : s_FactorBoth_k22 v18 v35 v36 = some y27_ := h27_
                unfold s_FactorBoth_k22 at h27_
                obtain ⟨x37, hx17, h27_⟩ := olet_some h27_
                refine RunC.regionW ?_
                refine ROps.l (r := AV.i64 v18) rfl rfl rfl (LOp.move rfl rfl) ?_
                refine ROps.l (r := AV.i64 x37) rfl rfl rfl (LOp.eqr (LOp.add rfl rfl rfl) (congrArg (AV.ik .i64) hx17)) ?_
                refine ROps.l (r := AV.i64 x37) rfl rfl rfl (LOp.assign rfl rfl) ?_
                refine ROps.nil ?_
                cases Option.some.inj h27_
                exact ⟨_, rfl, ⟨(ALe.refl _), (ALe.refl _), (ALe.refl _), (ALe.refl _), (ALe.refl _), (ALe.refl _), (ALe.refl _), (ALe.refl _), (ALe.refl _), (ALe.refl _), trivial⟩, ⟨⟨rfl, .inr rfl⟩, ⟨rfl, .inr rfl⟩, ⟨rfl, .inr rfl⟩, ⟨rfl, .inr rfl⟩, ⟨rfl, .inr rfl⟩, ⟨rfl, .inr rfl⟩, ⟨rfl, .inr rfl⟩, ⟨rfl, .inr rfl⟩, trivial⟩⟩
            · refine RunC.regionW ?_
              refine ROps.l (r := AV.i64 v18) rfl rfl rfl (LOp.move rfl rfl) ?_
              refine ROps.l (r := AV.i64 a0) rfl rfl rfl (LOp.move rfl rfl) ?_
              refine ROps.l (r := AV.b false) rfl rfl rfl (LOp.eqb (LOp.lss rfl rfl rfl) hc9) ?_
              refine ROps.nil ?_
              refine RunC.cond_false rfl rfl ?_
              refine RunC.exit ?_
              cases Option.some.inj h27_
              have hx := ho27 _ rfl
              exact ⟨v16, v17, hl9, hl11, hl13, ⟨(ALe.refl _), (ALe.refl _), (ALe.refl _), (ALe.refl _), (ALe.refl _), (ALe.refl _), (ALe.refl _), (ALe.refl _), (ALe.refl _), trivial⟩, ⟨⟨rfl, .inr rfl⟩, ⟨rfl, .inr rfl⟩, ⟨rfl, .inr rfl⟩, ⟨rfl, .inr rfl⟩, ⟨rfl, .inr rfl⟩, ⟨rfl, .inr rfl⟩, ⟨rfl, .inr rfl⟩, ⟨rfl, .inr rfl⟩, trivial⟩, hx⟩
          · rintro τ31 Γ31 ⟨v41, v42, hl38, hl39, hl40, hw31, hd31, rfl⟩
            refine RunC.wl (τ' := [(1, AV.f32 a3), (4, AV.optr 0 1 0), (8, AV.i64 a0), (9, AV.optr 3 1 0), (10, AV.oref 4 1 0 r7.length), (11, AV.i64 v14), (12, AV.i64 v15), (13, AV.i64 v41), (14, AV.i64 v42)]) (Γ' := [⟨1, some [AV.i64 0, AV.i64 0, AV.nilsl, AV.nilsl]⟩, ⟨1, some (L8.map AV.f32)⟩, ⟨1, some (L10.map AV.i64)⟩, ⟨1, some [AV.i64 r3, AV.i64 r4, AV.oref 1 1 0 r5.length, AV.oref 2 1 0 r6.length]⟩, ⟨1, some (L12.map AV.i64)⟩, ⟨0, none⟩, ⟨0, none⟩, ⟨0, none⟩]) hw31 hd31 ?_
            replace h26_ : s_FactorBoth_k23 a0 a3 r3 r4 r5 r6 r7 L8 L10 L12 v14 v15 v41 v42 = some y26_ := h26_
            unfold s_FactorBoth_k23 at h26_
            refine RunC.seq ?_
            refine RunC.seq ?_
            obtain ⟨r43, hf18, h26_⟩ := obind_some h26_
            obtain ⟨r44, hf19, h26_⟩ := obind_some h26_
            rcases bsel_some h26_ with ⟨hc20, h26_⟩ | ⟨hc20, h26_⟩
            · refine RunC.regionW ?_
              refine ROps.l (r := AV.optr 3 1 0) rfl rfl rfl (LOp.fao und48 rfl siz27 rfl rfl rfl) ?_
              refine ROps.l (r := AV.i64 v41) rfl rfl rfl (LOp.move rfl rfl) ?_
              refine ROps.l (r := AV.i64 v42) rfl rfl rfl (LOp.move rfl rfl) ?_
              refine ROps.d (r := AV.f32 r43) (fs := []) (Γ' := [⟨1, some [AV.i64 0, AV.i64 0, AV.nilsl, AV.nilsl]⟩, ⟨1, some (L8.map AV.f32)⟩, ⟨1, some (L10.map AV.i64)⟩, ⟨1, some [AV.i64 r3, AV.i64 r4, AV.oref 1 1 0 r5.length, AV.oref 2 1 0 r6.length]⟩, ⟨1, some (L12.map AV.i64)⟩, ⟨0, none⟩, ⟨0, none⟩, ⟨0, none⟩]) rfl rfl rfl (TOp.callB (CallAs.func ent43 rfl rfl) (Bors.cons (Bor.optrT 3 rfl (Bors.p (Bors.cons (Bor.pure rfl) (Bors.cons (Bor.pure rfl) (Bors.cons (Bor.own (f := AV.f32) (fun _ => rfl) rfl hl38) (Bors.cons (Bor.own (f := AV.i64) (fun _ => rfl) rfl hl39) Bors.nil))))) rfl) (Bors.cons (Bor.pure rfl) (Bors.cons (Bor.pure rfl) Bors.nil))) rfl rfl (s_l02At_ok r3 r4 L8 v41 v42 r43 hf18)) rfl ?_
              refine ROps.d (r := AV.f32 r44) (fs := []) (Γ' := [⟨1, some [AV.i64 0, AV.i64 0, AV.nilsl, AV.nilsl]⟩, ⟨1, some (L8.map AV.f32)⟩, ⟨1, some (L10.map AV.i64)⟩, ⟨1, some [AV.i64 r3, AV.i64 r4, AV.oref 1 1 0 r5.length, AV.oref 2 1 0 r6.length]⟩, ⟨1, some (L12.map AV.i64)⟩, ⟨0, none⟩, ⟨0, none⟩, ⟨0, none⟩]) rfl rfl rfl (TOp.callB (CallAs.func ent42 rfl rfl) (Bors.cons (Bor.pure rfl) Bors.nil) rfl rfl (s_l02Size_ok r43 r44 hf19)) rfl ?_
              refine ROps.l (r := AV.f32 a3) rfl rfl rfl (LOp.move rfl rfl) ?_
              refine ROps.l (r := AV.b true) rfl rfl rfl (LOp.eqb (LOp.fle rfl (OpF.tmp rfl) (OpF.tmp rfl)) hc20) ?_
              refine ROps.nil ?_
              refine RunC.cond_true rfl rfl ?_
              refine RunC.exit ?_
              cases Option.some.inj h26_
              have hx := ho26 _ rfl
              exact ⟨L8, L10, L12, v14, hl38, hl39, hl40, ⟨(ALe.refl _), (ALe.refl _), (ALe.refl _), (ALe.refl _), trivial⟩, ⟨⟨rfl, .inr rfl⟩, ⟨rfl, .inr rfl⟩, ⟨rfl, .inr rfl⟩, ⟨rfl, .inr rfl⟩, ⟨rfl, .inr rfl⟩, ⟨rfl, .inr rfl⟩, ⟨rfl, .inr rfl⟩, ⟨rfl, .inr rfl⟩, trivial⟩, hx⟩
            · refine RunC.regionW ?_
              refine ROps.l (r := AV.optr 3 1 0) rfl rfl rfl (LOp.fao und48 rfl siz27 rfl rfl rfl) ?_
              refine ROps.l (r := AV.i64 v41) rfl rfl rfl (LOp.move rfl rfl) ?_
              refine ROps.l (r := AV.i64 v42) rfl rfl rfl (LOp.move rfl rfl) ?_
              refine ROps.d (r := AV.f32 r43) (fs := []) (Γ' := [⟨1, some [AV.i64 0, AV.i64 0, AV.nilsl, AV.nilsl]⟩, ⟨1, some (L8.map AV.f32)⟩, ⟨1, some (L10.map AV.i64)⟩, ⟨1, some [AV.i64 r3, AV.i64 r4, AV.oref 1 1 0 r5.length, AV.oref 2 1 0 r6.length]⟩, ⟨1, some (L12.map AV.i64)⟩, ⟨0, none⟩, ⟨0, none⟩, ⟨0, none⟩]) rfl rfl rfl (TOp.callB (CallAs.func ent43 rfl rfl) (Bors.cons (Bor.optrT 3 rfl (Bors.p (Bors.cons (Bor.pure rfl) (Bors.cons (Bor.pure rfl) (Bors.cons (Bor.own (f := AV.f32) (fun _ => rfl) rfl hl38) (Bors.cons (Bor.own (f := AV.i64) (fun _ => rfl) rfl hl39) Bors.nil))))) rfl) (Bors.cons (Bor.pure rfl) (Bors.cons (Bor.pure rfl) Bors.nil))) rfl rfl (s_l02At_ok r3 r4 L8 v41 v42 r43 hf18)) rfl ?_
              refine ROps.d (r := AV.f32 r44) (fs := []) (Γ' := [⟨1, some [AV.i64 0, AV.i64 0, AV.nilsl, AV.nilsl]⟩, ⟨1, some (L8.map AV.f32)⟩, ⟨1, some (L10.map AV.i64)⟩, ⟨1, some [AV.i64 r3, AV.i64 r4, AV.oref 1 1 0 r5.length, AV.oref 2 1 0 r6.length]⟩, ⟨1, some (L12.map AV.i64)⟩, ⟨0, none⟩, ⟨0, none⟩, ⟨0, none⟩]) rfl rfl rfl (TOp.callB (CallAs.func ent42 rfl rfl) (Bors.cons (Bor.pure rfl) Bors.nil) rfl rfl (s_l02Size_ok r43 r44 hf19)) rfl ?_
              refine ROps.l (r := AV.f32 a3) rfl rfl rfl (LOp.move rfl rfl) ?_
              refine ROps.l (r := AV.b false) rfl rfl rfl (LOp.eqb (LOp.fle rfl (OpF.tmp rfl) (OpF.tmp rfl)) hc20) ?_
              refine ROps.nil ?_
              refine RunC.cond_false rfl rfl ?_
              refine RunC.skip ?_
              refine RunC.seq ?_
              obtain ⟨r45, r46, hf21, h26_⟩ := obind2_some h26_
              obtain ⟨hn22, h26_⟩ := need_some h26_
              obtain ⟨hn23, h26_⟩ := need_some h26_
              refine RunC.regionW ?_
              refine ROps.l (r := AV.optr 3 1 0) rfl rfl rfl (LOp.fao und48 rfl siz27 rfl rfl rfl) ?_
              refine ROps.l (r := AV.i64 v15) rfl rfl rfl (LOp.move rfl rfl) ?_
              refine ROps.l (r := AV.i64 v41) rfl rfl rfl (LOp.move rfl rfl) ?_
              refine ROps.callO (A := [AV.optr 3 1 0, AV.i64 v15, AV.i64 v41]) (args := [AV.optr 0 0 0, AV.i64 v15, AV.i64 v41]) (Γc := [⟨0, some [AV.i64 r3, AV.i64 r4, AV.oref 1 0 0 L8.length, AV.oref 2 0 0 L10.length]⟩, ⟨0, some (L8.map AV.f32)⟩, ⟨0, some (L10.map AV.i64)⟩]) (Γc' := [⟨0, some [AV.i64 r3, AV.i64 r4, AV.oref 1 0 0 L8.length, AV.oref 2 0 0 L10.length]⟩, ⟨0, some (r45.map AV.f32)⟩, ⟨0, some (r46.map AV.i64)⟩]) (r' := AV.tup []) (Γ' := [⟨1, some [AV.i64 0, AV.i64 0, AV.nilsl, AV.nilsl]⟩, ⟨1, some (r45.map AV.f32)⟩, ⟨1, some (r46.map AV.i64)⟩, ⟨1, some [AV.i64 r3, AV.i64 r4, AV.oref 1 1 0 r5.length, AV.oref 2 1 0 r6.length]⟩, ⟨1, some (L12.map AV.i64)⟩, ⟨0, none⟩, ⟨0, none⟩, ⟨0, none⟩]) [(3, 1), (1, 1), (2, 1)] [] rfl (CallAs.func ent70 rfl rfl) rfl rfl (SelOk.of (show List.Nodup [3, 1, 2] from by decide) (SelL.cells0 rfl (by simp [AV.ren, AV.rens, sigma, rens_f32, rens_f64, rens_i64, rens_ik, rens_str, rens_cp, hl38, hl39]) rfl (SelL.arr0 (f := AV.f32) (fun _ => rfl) rfl (SelL.arr0 (f := AV.i64) (fun _ => rfl) rfl trivial)))) (live_of ⟨⟨_, _, rfl⟩, ⟨_, _, rfl⟩, ⟨_, _, rfl⟩, trivial⟩) (by simp [AV.ren, AV.rens, sigma, rens_f32, rens_f64, rens_i64, rens_ik, rens_str, rens_cp, hl38, hl39]) rfl (s_l03Swap_0p0_C02o1_3o2_ok v15 v41 r3 r4 L8 L10 r45 r46 hf21) rfl (news_of trivial) (show List.Nodup [3, 1, 2] from by decide) (by simp [AV.ren, AV.rens, sigma, of_decide_eq_true hn22, of_decide_eq_true hn23]) (by simp [backOb, sigma, AV.ren, AV.rens, rens_f32, rens_f64, rens_i64, rens_ik, rens_str, rens_cp, hl38, hl39, of_decide_eq_true hn22, of_decide_eq_true hn23]) ?_
              refine ROps.nil ?_
              refine RunC.seq ?_
              obtain ⟨r47, hf24, h26_⟩ := obind_some h26_
              obtain ⟨hn25, h26_⟩ := need_some h26_
              refine RunC.regionW ?_
              refine ROps.l (r := AV.optr 3 1 3) rfl rfl rfl (LOp.fao und48 rfl siz28 rfl rfl rfl) ?_
              refine ROps.d (r := AV.oref 2 1 0 r6.length) (fs := []) (Γ' := [⟨1, some [AV.i64 0, AV.i64 0, AV.nilsl, AV.nilsl]⟩, ⟨1, some (r45.map AV.f32)⟩, ⟨1, some (r46.map AV.i64)⟩, ⟨1, some [AV.i64 r3, AV.i64 r4, AV.oref 1 1 0 r5.length, AV.oref 2 1 0 r6.length]⟩, ⟨1, some (L12.map AV.i64)⟩, ⟨0, none⟩, ⟨0, none⟩, ⟨0, none⟩]) rfl rfl rfl (TOp.load1_o rfl rfl agg28 rfl rfl) rfl ?_
              refine ROps.l (r := AV.i64 v15) rfl rfl rfl (LOp.move rfl rfl) ?_
              refine ROps.l (r := AV.i64 v41) rfl rfl rfl (LOp.move rfl rfl) ?_
              refine ROps.callO (A := [AV.oref 2 1 0 r6.length, AV.i64 v15, AV.i64 v41]) (args := [AV.oref 0 0 0 r46.length, AV.i64 v15, AV.i64 v41]) (Γc := [⟨0, some (r46.map AV.i64)⟩]) (Γc' := [⟨0, some (r47.map AV.i64)⟩]) (r' := AV.tup []) (Γ' := [⟨1, some [AV.i64 0, AV.i64 0, AV.nilsl, AV.nilsl]⟩, ⟨1, some (r45.map AV.f32)⟩, ⟨1, some (r47.map AV.i64)⟩, ⟨1, some [AV.i64 r3, AV.i64 r4, AV.oref 1 1 0 r5.length, AV.oref 2 1 0 r6.length]⟩, ⟨1, some (L12.map AV.i64)⟩, ⟨0, none⟩, ⟨0, none⟩, ⟨0, none⟩]) [(2, 1)] [] rfl (CallAs.func ent71 rfl rfl) rfl rfl (SelOk.of (show List.Nodup [2] from by decide) (SelL.arr0 (f := AV.i64) (fun _ => rfl) rfl trivial)) (live_of ⟨⟨_, _, rfl⟩, trivial⟩) (by simp [AV.ren, AV.rens, sigma, rens_f32, rens_f64, rens_i64, rens_ik, rens_str, rens_cp, (of_decide_eq_true hn23)]) rfl (s_l03Trade_0o_ok v15 v41 r46 r47 hf24) rfl (news_of trivial) (show List.Nodup [2] from by decide) (by simp [AV.ren, AV.rens, sigma, of_decide_eq_true hn25]) (by simp [backOb, sigma, AV.ren, AV.rens, rens_f32, rens_f64, rens_i64, rens_ik, rens_str, rens_cp]) ?_
              refine ROps.nil ?_
              refine RunC.wl (τ' := [(1, AV.f32 a3), (4, AV.optr 0 1 0), (8, AV.i64 a0), (9, AV.optr 3 1 0), (10, AV.oref 4 1 0 r7.length), (11, AV.i64 v14), (12, AV.i64 v15), (14, AV.i64 v42)]) (Γ' := [⟨1, some [AV.i64 0, AV.i64 0, AV.nilsl, AV.nilsl]⟩, ⟨1, some (r45.map AV.f32)⟩, ⟨1, some (r47.map AV.i64)⟩, ⟨1, some [AV.i64 r3, AV.i64 r4, AV.oref 1 1 0 r5.length, AV.oref 2 1 0 r6.length]⟩, ⟨1, some (L12.map AV.i64)⟩, ⟨0, none⟩, ⟨0, none⟩, ⟨0, none⟩]) ⟨(ALe.refl _), (ALe.refl _), (ALe.refl _), (ALe.refl _), (ALe.refl _), (ALe.refl _), (ALe.refl _), (ALe.refl _), trivial⟩ ⟨⟨rfl, .inr rfl⟩, ⟨rfl, .inr rfl⟩, ⟨rfl, .inr rfl⟩, ⟨rfl, .inr rfl⟩, ⟨rfl, .inr rfl⟩, ⟨rfl, .inr rfl⟩, ⟨rfl, .inr rfl⟩, ⟨rfl, .inr rfl⟩, trivial⟩ ?_
              refine RunC.seq ?_
              refine RunC.seq ?_
              refine RunC.regionW ?_
              refine ROps.l (r := AV.i64 0) rfl rfl rfl (LOp.assign rfl rfl) ?_
              refine ROps.nil ?_
              obtain ⟨z32, hz_32, h26_⟩ := obind_some h26_
              refine RunC.cutN (fun τ Γ => ∃ (L64 : List F), L64.length = r5.length ∧ r47.length = r6.length ∧ L12.length = r7.length ∧ WeakLe τ [(1, AV.f32 a3), (4, AV.optr 0 1 0), (8, AV.i64 a0), (9, AV.optr 3 1 0), (10, AV.oref 4 1 0 r7.length), (11, AV.i64 v14), (12, AV.i64 v15), (14, AV.i64 v42)] ∧ DeadLe Γ [⟨1, some [AV.i64 0, AV.i64 0, AV.nilsl, AV.nilsl]⟩, ⟨1, some (L64.map AV.f32)⟩, ⟨1, some (r47.map AV.i64)⟩, ⟨1, some [AV.i64 r3, AV.i64 r4, AV.oref 1 1 0 r5.length, AV.oref 2 1 0 r6.length]⟩, ⟨1, some (L12.map AV.i64)⟩, ⟨0, none⟩, ⟨0, none⟩, ⟨0, none⟩] ∧ z32 = .inl L64) ?_ ?_
              · refine RunC.block (RunC.loop (RunL.loopM (x := z32) (s_FactorBoth_s24 a0 v15 v42) (fun (s : (List F) × Int) τ Γ => s.1.length = r5.length ∧ WeakLe τ [(1, AV.f32 a3), (4, AV.optr 0 1 0), (8, AV.i64 a0), (9, AV.optr 3 1 0), (10, AV.oref 4 1 0 r7.length), (11, AV.i64 v14), (12, AV.i64 v15), (14, AV.i64 v42), (17, AV.i64 s.2)] ∧ DeadLe Γ [⟨1, some [AV.i64 0, AV.i64 0, AV.nilsl, AV.nilsl]⟩, ⟨1, some (s.1.map AV.f32)⟩, ⟨1, some (r47.map AV.i64)⟩, ⟨1, some [AV.i64 r3, AV.i64 r4, AV.oref 1 1 0 r5.length, AV.oref 2 1 0 r6.length]⟩, ⟨1, some (L12.map AV.i64)⟩, ⟨0, none⟩, ⟨0, none⟩, ⟨0, none⟩]) ?_ _ _ _ hz_32 ⟨(of_decide_eq_true hn22), ⟨(ALe.refl _), (ALe.refl _), (ALe.refl _), (ALe.refl _), (ALe.refl _), (ALe.refl _), (ALe.refl _), (ALe.refl _), (ALe.refl _), trivial⟩, ⟨⟨rfl, .inr rfl⟩, ⟨rfl, .inr rfl⟩, ⟨rfl, .inr rfl⟩, ⟨rfl, .inr rfl⟩, ⟨rfl, .inr rfl⟩, ⟨rfl, .inr rfl⟩, ⟨rfl, .inr rfl⟩, ⟨rfl, .inr rfl⟩, trivial⟩⟩))
                rintro ⟨L48, v50⟩ τ32 Γ32 y32_ ⟨hl49, hw32, hd32⟩ h32_ ho32 hr32
                refine RunC.wl (τ' := [(1, AV.f32 a3), (4, AV.optr 0 1 0), (8, AV.i64 a0), (9, AV.optr 3 1 0), (10, AV.oref 4 1 0 r7.length), (11, AV.i64 v14), (12, AV.i64 v15), (14, AV.i64 v42), (17, AV.i64 v50)]) (Γ' := [⟨1, some [AV.i64 0, AV.i64 0, AV.nilsl, AV.nilsl]⟩, ⟨1, some (L48.map AV.f32)⟩, ⟨1, some (r47.map AV.i64)⟩, ⟨1, some [AV.i64 r3, AV.i64 r4, AV.oref 1 1 0 r5.length, AV.oref 2 1 0 r6.length]⟩, ⟨1, some (L12.map AV.i64)⟩, ⟨0, none⟩, ⟨0, none⟩, ⟨0, none⟩]) hw32 hd32 ?_
                replace hl49 : L48.length = r5.length := hl49
                replace h32_ : s_FactorBoth_b24 a0 v15 v42 L48 v50 = some y32_ := h32_
                unfold s_FactorBoth_b24 at h32_
                refine RunC.seq ?_
                refine RunC.seq ?_
                rcases bsel_some h32_ with ⟨hc26, h32_⟩ | ⟨hc26, h32_⟩
                · refine RunC.regionW ?_
                  refine ROps.l (r := AV.i64 v50) rfl rfl rfl (LOp.move rfl rfl) ?_
                  refine ROps.l (r := AV.i64 a0) rfl rfl rfl (LOp.move rfl rfl) ?_
                  refine ROps.l (r := AV.b true) rfl rfl rfl (LOp.eqb (LOp.lss rfl rfl rfl) hc26) ?_
                  refine ROps.nil ?_
                  refine RunC.cond_true rfl rfl ?_
                  refine RunC.skip ?_
                  refine RunC.seq ?_
                  refine RunC.block ?_
                  refine RunC.seq ?_
                  obtain ⟨x51, hx27, h32_⟩ := olet_some h32_
                  obtain ⟨x52, hx28, h32_⟩ := olet_some h32_
                  obtain ⟨e53, he29, h32_⟩ := obind_some h32_
                  refine RunC.regionW ?_
                  refine ROps.l (r := AV.optr 3 1 0) rfl rfl rfl (LOp.fao und48 rfl siz27 rfl rfl rfl) ?_
                  refine ROps.l (r := AV.optr 3 1 2) rfl rfl rfl (LOp.fao und27 rfl siz22 rfl rfl rfl) ?_
                  refine ROps.d (r := AV.oref 1 1 0 r5.length) (fs := []) (Γ' := [⟨1, some [AV.i64 0, AV.i64 0, AV.nilsl, AV.nilsl]⟩, ⟨1, some (L48.map AV.f32)⟩, ⟨1, some (r47.map AV.i64)⟩, ⟨1, some [AV.i64 r3, AV.i64 r4, AV.oref 1 1 0 r5.length, AV.oref 2 1 0 r6.length]⟩, ⟨1, some (L12.map AV.i64)⟩, ⟨0, none⟩, ⟨0, none⟩, ⟨0, none⟩]) rfl rfl rfl (TOp.load1_o rfl rfl agg22 rfl rfl) rfl ?_
                  refine ROps.l (r := AV.i64 v50) rfl rfl rfl (LOp.move rfl rfl) ?_
                  refine ROps.l (r := AV.i64 a0) rfl rfl rfl (LOp.move rfl rfl) ?_
                  refine ROps.l (r := AV.i64 x51) rfl rfl rfl (LOp.eqr (LOp.mul rfl rfl rfl) (congrArg (AV.ik .i64) hx27)) ?_
                  refine ROps.l (r := AV.i64 v15) rfl rfl rfl (LOp.move rfl rfl) ?_
                  refine ROps.l (r := AV.i64 x52) rfl rfl rfl (LOp.eqr (LOp.add rfl rfl rfl) (congrArg (AV.ik .i64) hx28)) ?_
                  refine ROps.d (r := AV.optr 1 1 x52.toNat) (fs := []) (Γ' := [⟨1, some [AV.i64 0, AV.i64 0, AV.nilsl, AV.nilsl]⟩, ⟨1, some (L48.map AV.f32)⟩, ⟨1, some (r47.map AV.i64)⟩, ⟨1, some [AV.i64 r3, AV.i64 r4, AV.oref 1 1 0 r5.length, AV.oref 2 1 0 r6.length]⟩, ⟨1, some (L12.map AV.i64)⟩, ⟨0, none⟩, ⟨0, none⟩, ⟨0, none⟩]) rfl rfl rfl (TOp.ixo und22 siz25 rfl rfl rfl (at_in he29 hl49) rfl) rfl ?_
                  refine ROps.d (r := AV.f32 e53) (fs := []) (Γ' := [⟨1, some [AV.i64 0, AV.i64 0, AV.nilsl, AV.nilsl]⟩, ⟨1, some (L48.map AV.f32)⟩, ⟨1, some (r47.map AV.i64)⟩, ⟨1, some [AV.i64 r3, AV.i64 r4, AV.oref 1 1 0 r5.length, AV.oref 2 1 0 r6.length]⟩, ⟨1, some (L12.map AV.i64)⟩, ⟨0, none⟩, ⟨0, none⟩, ⟨0, none⟩]) rfl rfl rfl (TOp.load1_o rfl (at_cell he29) agg25 rfl rfl) rfl ?_
                  refine ROps.l (r := AV.f32 e53) rfl rfl rfl (LOp.assign rfl rfl) ?_
                  refine ROps.nil ?_
                  refine RunC.wl (τ' := [(1, AV.f32 a3), (4, AV.optr 0 1 0), (8, AV.i64 a0), (9, AV.optr 3 1 0), (10, AV.oref 4 1 0 r7.length), (11, AV.i64 v14), (12, AV.i64 v15), (14, AV.i64 v42), (17, AV.i64 v50), (18, AV.f32 e53)]) (Γ' := [⟨1, some [AV.i64 0, AV.i64 0, AV.nilsl, AV.nilsl]⟩, ⟨1, some (L48.map AV.f32)⟩, ⟨1, some (r47.map AV.i64)⟩, ⟨1, some [AV.i64 r3, AV.i64 r4, AV.oref 1 1 0 r5.length, AV.oref 2 1 0 r6.length]⟩, ⟨1, some (L12.map AV.i64)⟩, ⟨0, none⟩, ⟨0, none⟩, ⟨0, none⟩]) ⟨(ALe.refl _), (ALe.refl _), (ALe.refl _), (ALe.refl _), (ALe.refl _), (ALe.refl _), (ALe.refl _), (ALe.refl _), (ALe.refl _), (ALe.refl _), trivial⟩ ⟨⟨rfl, .inr rfl⟩, ⟨rfl, .inr rfl⟩, ⟨rfl, .inr rfl⟩, ⟨rfl, .inr rfl⟩, ⟨rfl, .inr rfl⟩, ⟨rfl, .inr rfl⟩, ⟨rfl, .inr rfl⟩, ⟨rfl, .inr rfl⟩, trivial⟩ ?_
                  refine RunC.seq ?_
                  obtain ⟨x54, hx30, h32_⟩ := olet_some h32_
                  obtain ⟨x55, hx31, h32_⟩ := olet_some h32_
                  obtain ⟨x56, hx32, h32_⟩ := olet_some h32_
                  obtain ⟨x57, hx33, h32_⟩ := olet_some h32_
                  obtain ⟨e58, he34, h32_⟩ := obind_some h32_
                  obtain ⟨L59, he35, h32_⟩ := obind_some h32_
                  refine RunC.region_draw (Γ' := [⟨1, some [AV.i64 0, AV.i64 0, AV.nilsl, AV.nilsl]⟩, ⟨1, some (L48.map AV.f32)⟩, ⟨1, some (r47.map AV.i64)⟩, ⟨1, some [AV.i64 r3, AV.i64 r4, AV.oref 1 1 0 r5.length, AV.oref 2 1 0 r6.length]⟩, ⟨1, some (L12.map AV.i64)⟩, ⟨0, none⟩, ⟨0, none⟩, ⟨0, none⟩]) 19 mixed 
                    (TR.l (r := AV.optr 3 1 0) rfl rfl (LOp.fao und48 rfl siz27 rfl rfl rfl) <|
                    (TR.l (r := AV.optr 3 1 2) rfl rfl (LOp.fao und27 rfl siz22 rfl rfl rfl) <|
                    (TR.d (r := AV.oref 1 1 0 r5.length) (fs := []) rfl rfl (TOp.load1_o rfl rfl agg22 rfl rfl) <|
                    (TR.l (r := AV.i64 v50) rfl rfl (LOp.move rfl rfl) <|
                    (TR.l (r := AV.i64 a0) rfl rfl (LOp.move rfl rfl) <|
                    (TR.l (r := AV.i64 x54) rfl rfl (LOp.eqr (LOp.mul rfl rfl rfl) (congrArg (AV.ik .i64) hx30)) <|
                    (TR.l (r := AV.i64 v15) rfl rfl (LOp.move rfl rfl) <|
                    (TR.l (r := AV.i64 x55) rfl rfl (LOp.eqr (LOp.add rfl rfl rfl) (congrArg (AV.ik .i64) hx31)) <|
                    (TR.l (r := AV.optr 3 1 0) rfl rfl (LOp.fao und48 rfl siz27 rfl rfl rfl) <|
                    (TR.l (r := AV.optr 3 1 2) rfl rfl (LOp.fao und27 rfl siz22 rfl rfl rfl) <|
                    (TR.d (r := AV.oref 1 1 0 r5.length) (fs := []) rfl rfl (TOp.load1_o rfl rfl agg22 rfl rfl) <|
                    (TR.l (r := AV.i64 v50) rfl rfl (LOp.move rfl rfl) <|
                    (TR.l (r := AV.i64 a0) rfl rfl (LOp.move rfl rfl) <|
                    (TR.l (r := AV.i64 x56) rfl rfl (LOp.eqr (LOp.mul rfl rfl rfl) (congrArg (AV.ik .i64) hx32)) <|
                    (TR.l (r := AV.i64 v42) rfl rfl (LOp.move rfl rfl) <|
                    (TR.l (r := AV.i64 x57) rfl rfl (LOp.eqr (LOp.add rfl rfl rfl) (congrArg (AV.ik .i64) hx33)) <|
                    (TR.d (r := AV.optr 1 1 x57.toNat) (fs := []) rfl rfl (TOp.ixo und22 siz25 rfl rfl rfl (at_in he34 hl49) rfl) <|
                    (TR.d (r := AV.f32 e58) (fs := []) rfl rfl (TOp.load1_o rfl (at_cell he34) agg25 rfl rfl) <|
                    (TR.d (r := AV.optr 1 1 x55.toNat) (fs := []) rfl rfl (TOp.ixo und22 siz25 rfl rfl rfl (set_in he35 hl49) rfl) <|
                    TR.nil))))))))))))))))))) rfl (by kernel_rfl) rfl fills_nil rfl ?_
                  iterate 19 refine ROps.dropS ?_
                  refine ROps.drop0 ?_
                  refine ROps.st (f := AV.f32) (i := x55) (Γ' := [⟨1, some [AV.i64 0, AV.i64 0, AV.nilsl, AV.nilsl]⟩, ⟨1, some (L59.map AV.f32)⟩, ⟨1, some (r47.map AV.i64)⟩, ⟨1, some [AV.i64 r3, AV.i64 r4, AV.oref 1 1 0 r5.length, AV.oref 2 1 0 r6.length]⟩, ⟨1, some (L12.map AV.i64)⟩, ⟨0, none⟩, ⟨0, none⟩, ⟨0, none⟩]) rfl siz25 rfl rfl rfl (ALe.refl _) rfl rfl rfl he35 rfl ?_
                  refine ROps.nil ?_
                  refine RunC.wl (τ' := [(1, AV.f32 a3), (4, AV.optr 0 1 0), (8, AV.i64 a0), (9, AV.optr 3 1 0), (10, AV.oref 4 1 0 r7.length), (11, AV.i64 v14), (12, AV.i64 v15), (14, AV.i64 v42), (17, AV.i64 v50), (18, AV.f32 e53)]) (Γ' := [⟨1, some [AV.i64 0, AV.i64 0, AV.nilsl, AV.nilsl]⟩, ⟨1, some (L59.map AV.f32)⟩, ⟨1, some (r47.map AV.i64)⟩, ⟨1, some [AV.i64 r3, AV.i64 r4, AV.oref 1 1 0 r5.length, AV.oref 2 1 0 r6.length]⟩, ⟨1, some (L12.map AV.i64)⟩, ⟨0, none⟩, ⟨0, none⟩, ⟨0, none⟩]) ⟨(ALe.refl _), (ALe.refl _), (ALe.refl _), (ALe.refl _), (ALe.refl _), (ALe.refl _), (ALe.refl _), (ALe.refl _), (ALe.refl _), (ALe.refl _), trivial⟩ ⟨⟨rfl, .inr rfl⟩, ⟨rfl, .inr rfl⟩, ⟨rfl, .inr rfl⟩, ⟨rfl, .inr rfl⟩, ⟨rfl, .inr rfl⟩, ⟨rfl, .inr rfl⟩, ⟨rfl, .inr rfl⟩, ⟨rfl, .inr rfl⟩, trivial⟩ ?_
                  obtain ⟨x60, hx36, h32_⟩ := olet_some h32_
                  obtain ⟨x61, hx37, h32_⟩ := olet_some h32_
                  obtain ⟨L62, he38, h32_⟩ := obind_some h32_
                  refine RunC.regionW ?_
                  refine ROps.l (r := AV.optr 3 1 0) rfl rfl rfl (LOp.fao und48 rfl siz27 rfl rfl rfl) ?_
                  refine ROps.l (r := AV.optr 3 1 2) rfl rfl rfl (LOp.fao und27 rfl siz22 rfl rfl rfl) ?_
                  refine ROps.d (r := AV.oref 1 1 0 r5.length) (fs := []) (Γ' := [⟨1, some [AV.i64 0, AV.i64 0, AV.nilsl, AV.nilsl]⟩, ⟨1, some (L59.map AV.f32)⟩, ⟨1, some (r47.map AV.i64)⟩, ⟨1, some [AV.i64 r3, AV.i64 r4, AV.oref 1 1 0 r5.length, AV.oref 2 1 0 r6.length]⟩, ⟨1, some (L12.map AV.i64)⟩, ⟨0, none⟩, ⟨0, none⟩, ⟨0, none⟩]) rfl rfl rfl (TOp.load1_o rfl rfl agg22 rfl rfl) rfl ?_
                  refine ROps.l (r := AV.i64 v50) rfl rfl rfl (LOp.move rfl rfl) ?_
                  refine ROps.l (r := AV.i64 a0) rfl rfl rfl (LOp.move rfl rfl) ?_
                  refine ROps.l (r := AV.i64 x60) rfl rfl rfl (LOp.eqr (LOp.mul rfl rfl rfl) (congrArg (AV.ik .i64) hx36)) ?_
                  refine ROps.l (r := AV.i64 v42) rfl rfl rfl (LOp.move rfl rfl) ?_
                  refine ROps.l (r := AV.i64 x61) rfl rfl rfl (LOp.eqr (LOp.add rfl rfl rfl) (congrArg (AV.ik .i64) hx37)) ?_
                  refine ROps.l (r := AV.f32 e53) rfl rfl rfl (LOp.move rfl rfl) ?_
                  refine ROps.d (r := AV.optr 1 1 x61.toNat) (fs := []) (Γ' := [⟨1, some [AV.i64 0, AV.i64 0, AV.nilsl, AV.nilsl]⟩, ⟨1, some (L59.map AV.f32)⟩, ⟨1, some (r47.map AV.i64)⟩, ⟨1, some [AV.i64 r3, AV.i64 r4, AV.oref 1 1 0 r5.length, AV.oref 2 1 0 r6.length]⟩, ⟨1, some (L12.map AV.i64)⟩, ⟨0, none⟩, ⟨0, none⟩, ⟨0, none⟩]) rfl rfl rfl (TOp.ixo und22 siz25 rfl rfl rfl (set_in he38 ((setAt?_len he35).trans hl49)) rfl) rfl ?_
                  refine ROps.st (f := AV.f32) (i := x61) (Γ' := [⟨1, some [AV.i64 0, AV.i64 0, AV.nilsl, AV.nilsl]⟩, ⟨1, some (L62.map AV.f32)⟩, ⟨1, some (r47.map AV.i64)⟩, ⟨1, some [AV.i64 r3, AV.i64 r4, AV.oref 1 1 0 r5.length, AV.oref 2 1 0 r6.length]⟩, ⟨1, some (L12.map AV.i64)⟩, ⟨0, none⟩, ⟨0, none⟩, ⟨0, none⟩]) rfl siz25 rfl rfl rfl (ALe.refl _) rfl rfl rfl he38 rfl ?_
                  refine ROps.nil ?_
                  obtain ⟨x63, hx39, h32_⟩ := olet_some h32_
                  refine RunC.regionW ?_
                  refine ROps.l (r := AV.i64 v50) rfl rfl rfl (LOp.move rfl rfl) ?_
                  refine ROps.l (r := AV.i64 x63) rfl rfl rfl (LOp.eqr (LOp.add rfl rfl rfl) (congrArg (AV.ik .i64) hx39)) ?_
                  refine ROps.l (r := AV.i64 x63) rfl rfl rfl (LOp.assign rfl rfl) ?_
                  refine ROps.nil ?_
                  cases Option.some.inj h32_
                  exact ⟨_, rfl, ((setAt?_len he38).trans ((setAt?_len he35).trans hl49)), ⟨(ALe.refl _), (ALe.refl _), (ALe.refl _), (ALe.refl _), (ALe.refl _), (ALe.refl _), (ALe.refl _), (ALe.refl _), (ALe.refl _), trivial⟩, ⟨⟨rfl, .inr rfl⟩, ⟨rfl, .inr rfl⟩, ⟨rfl, .inr rfl⟩, ⟨rfl, .inr rfl⟩, ⟨rfl, .inr rfl⟩, ⟨rfl, .inr rfl⟩, ⟨rfl, .inr rfl⟩, ⟨rfl, .inr rfl⟩, trivial⟩⟩
                · refine RunC.regionW ?_
                  refine ROps.l (r := AV.i64 v50) rfl rfl rfl (LOp.move rfl rfl) ?_
                  refine ROps.l (r := AV.i64 a0) rfl rfl rfl (LOp.move rfl rfl) ?_
                  refine ROps.l (r := AV.b false) rfl rfl rfl (LOp.eqb (LOp.lss rfl rfl rfl) hc26) ?_
                  refine ROps.nil ?_
                  refine RunC.cond_false rfl rfl ?_
                  refine RunC.exit ?_
                  cases Option.some.inj h32_
                  have hx := ho32 _ rfl
                  exact ⟨L48, hl49, (of_decide_eq_true hn25), hl40, ⟨(ALe.refl _), (ALe.refl _), (ALe.refl _), (ALe.refl _), (ALe.refl _), (ALe.refl _), (ALe.refl _), (ALe.refl _), trivial⟩, ⟨⟨rfl, .inr rfl⟩, ⟨rfl, .inr rfl⟩, ⟨rfl, .inr rfl⟩, ⟨rfl, .inr rfl⟩, ⟨rfl, .inr rfl⟩, ⟨rfl, .inr rfl⟩, ⟨rfl, .inr rfl⟩, ⟨rfl, .inr rfl⟩, trivial⟩, hx⟩
              · rintro τ33 Γ33 ⟨L64, hl65, hl66, hl67, hw33, hd33, rfl⟩
                refine RunC.wl (τ' := [(1, AV.f32 a3), (4, AV.optr 0 1 0), (8, AV.i64 a0), (9, AV.optr 3 1 0), (10, AV.oref 4 1 0 r7.length), (11, AV.i64 v14), (12, AV.i64 v15), (14, AV.i64 v42)]) (Γ' := [⟨1, some [AV.i64 0, AV.i64 0, AV.nilsl, AV.nilsl]⟩, ⟨1, some (L64.map AV.f32)⟩, ⟨1, some (r47.map AV.i64)⟩, ⟨1, some [AV.i64 r3, AV.i64 r4, AV.oref 1 1 0 r5.length, AV.oref 2 1 0 r6.length]⟩, ⟨1, some (L12.map AV.i64)⟩, ⟨0, none⟩, ⟨0, none⟩, ⟨0, none⟩]) hw33 hd33 ?_
                replace h26_ : s_FactorBoth_k24 r3 r4 r5 r6 r7 L12 v14 v15 v42 r47 L64 = some y26_ := h26_
                unfold s_FactorBoth_k24 at h26_
                refine RunC.seq ?_
                obtain ⟨r68, hf40, h26_⟩ := obind_some h26_
                obtain ⟨hn41, h26_⟩ := need_some h26_
                refine RunC.regionW ?_
                refine ROps.l (r := AV.oref 4 1 0 r7.length) rfl rfl rfl (LOp.move rfl rfl) ?_
                refine ROps.l (r := AV.i64 v15) rfl rfl rfl (LOp.move rfl rfl) ?_
                refine ROps.l (r := AV.i64 v42) rfl rfl rfl (LOp.move rfl rfl) ?_
                refine ROps.callO (A := [AV.oref 4 1 0 r7.length, AV.i64 v15, AV.i64 v42]) (args := [AV.oref 0 0 0 L12.length, AV.i64 v15, AV.i64 v42]) (Γc := [⟨0, some (L12.map AV.i64)⟩]) (Γc' := [⟨0, some (r68.map AV.i64)⟩]) (r' := AV.tup []) (Γ' := [⟨1, some [AV.i64 0, AV.i64 0, AV.nilsl, AV.nilsl]⟩, ⟨1, some (L64.map AV.f32)⟩, ⟨1, some (r47.map AV.i64)⟩, ⟨1, some [AV.i64 r3, AV.i64 r4, AV.oref 1 1 0 r5.length, AV.oref 2 1 0 r6.length]⟩, ⟨1, some (r68.map AV.i64)⟩, ⟨0, none⟩, ⟨0, none⟩, ⟨0, none⟩]) [(4, 1)] [] rfl (CallAs.func ent71 rfl rfl) rfl rfl (SelOk.of (show List.Nodup [4] from by decide) (SelL.arr0 (f := AV.i64) (fun _ => rfl) rfl trivial)) (live_of ⟨⟨_, _, rfl⟩, trivial⟩) (by simp [AV.ren, AV.rens, sigma, rens_f32, rens_f64, rens_i64, rens_ik, rens_str, rens_cp, hl67]) rfl (s_l03Trade_0o_ok v15 v42 L12 r68 hf40) rfl (news_of trivial) (show List.Nodup [4] from by decide) (by simp [AV.ren, AV.rens, sigma, of_decide_eq_true hn41]) (by simp [backOb, sigma, AV.ren, AV.rens, rens_f32, rens_f64, rens_i64, rens_ik, rens_str, rens_cp]) ?_
                refine ROps.nil ?_
                refine RunC.seq ?_
                refine RunC.seq ?_
                obtain ⟨r69, r70, r71, hf42, h26_⟩ := obind3_some h26_
                obtain ⟨hn43, h26_⟩ := need_some h26_
                obtain ⟨hn44, h26_⟩ := need_some h26_
                rcases bsel_some h26_ with ⟨hc45, h26_⟩ | ⟨hc45, h26_⟩
                · refine RunC.regionW ?_
                  refine ROps.l (r := AV.optr 3 1 0) rfl rfl rfl (LOp.fao und48 rfl siz27 rfl rfl rfl) ?_
                  refine ROps.l (r := AV.i64 v15) rfl rfl rfl (LOp.move rfl rfl) ?_
                  refine ROps.callO (A := [AV.optr 3 1 0, AV.i64 v15]) (args := [AV.optr 0 0 0, AV.i64 v15]) (Γc := [⟨0, some [AV.i64 r3, AV.i64 r4, AV.oref 1 0 0 L64.length, AV.oref 2 0 0 r47.length]⟩, ⟨0, some (L64.map AV.f32)⟩, ⟨0, some (r47.map AV.i64)⟩]) (Γc' := [⟨0, some [AV.i64 r3, AV.i64 r4, AV.oref 1 0 0 L64.length, AV.oref 2 0 0 r47.length]⟩, ⟨0, some (r70.map AV.f32)⟩, ⟨0, some (r71.map AV.i64)⟩]) (r' := AV.b r69) (Γ' := [⟨1, some [AV.i64 0, AV.i64 0, AV.nilsl, AV.nilsl]⟩, ⟨1, some (r70.map AV.f32)⟩, ⟨1, some (r71.map AV.i64)⟩, ⟨1, some [AV.i64 r3, AV.i64 r4, AV.oref 1 1 0 r5.length, AV.oref 2 1 0 r6.length]⟩, ⟨1, some (r68.map AV.i64)⟩, ⟨0, none⟩, ⟨0, none⟩, ⟨0, none⟩]) [(3, 1), (1, 1), (2, 1)] [] rfl (CallAs.func ent72 rfl rfl) rfl rfl (SelOk.of (show List.Nodup [3, 1, 2] from by decide) (SelL.cells0 rfl (by simp [AV.ren, AV.rens, sigma, rens_f32, rens_f64, rens_i64, rens_ik, rens_str, rens_cp, hl65, hl66]) rfl (SelL.arr0 (f := AV.f32) (fun _ => rfl) rfl (SelL.arr0 (f := AV.i64) (fun _ => rfl) rfl trivial)))) (live_of ⟨⟨_, _, rfl⟩, ⟨_, _, rfl⟩, ⟨_, _, rfl⟩, trivial⟩) (by simp [AV.ren, AV.rens, sigma, rens_f32, rens_f64, rens_i64, rens_ik, rens_str, rens_cp, hl65, hl66]) rfl (s_l03Clear_0p0_C02o1_3o2_ok v15 r3 r4 L64 r47 r69 r70 r71 hf42) rfl (news_of trivial) (show List.Nodup [3, 1, 2] from by decide) (by simp [AV.ren, AV.rens, sigma, of_decide_eq_true hn43, of_decide_eq_true hn44]) (by simp [backOb, sigma, AV.ren, AV.rens, rens_f32, rens_f64, rens_i64, rens_ik, rens_str, rens_cp, hl65, hl66, of_decide_eq_true hn43, of_decide_eq_true hn44]) ?_
                  refine ROps.l (r := AV.b true) rfl rfl rfl (LOp.eqb (LOp.not rfl rfl) hc45) ?_
                  refine ROps.nil ?_
                  refine RunC.cond_true rfl rfl ?_
                  refine RunC.seq ?_
                  refine RunC.regionW ?_
                  refine ROps.l (r := AV.agg [AV.i64 0, AV.i64 0, AV.nilsl, AV.nilsl]) rfl rfl rfl (LOp.build (qs := []) zer48 zok48 und48 plc48 rfl trivial rfl) ?_
                  refine ROps.store_le (r := AV.agg [AV.i64 0, AV.i64 0, AV.nilsl, AV.nilsl]) (l' := [AV.i64 0, AV.i64 0, AV.nilsl, AV.nilsl]) (Γ' := [⟨1, some [AV.i64 0, AV.i64 0, AV.nilsl, AV.nilsl]⟩, ⟨1, some (r70.map AV.f32)⟩, ⟨1, some (r71.map AV.i64)⟩, ⟨1, some [AV.i64 r3, AV.i64 r4, AV.oref 1 1 0 r5.length, AV.oref 2 1 0 r6.length]⟩, ⟨1, some (r68.map AV.i64)⟩, ⟨0, none⟩, ⟨0, none⟩, ⟨0, none⟩]) rfl siz48 rfl rfl rfl (ALe.refl _) rfl rfl rfl rfl (Nat.le_of_ble_eq_true rfl) rfl rfl ?_
                  refine ROps.l (r := AV.nilsl) rfl rfl rfl (LOp.assign rfl rfl) ?_
                  refine ROps.l (r := AV.i64 0) rfl rfl rfl (LOp.assign rfl rfl) ?_
                  refine ROps.l (r := AV.b false) rfl rfl rfl (LOp.assign rfl rfl) ?_
                  refine ROps.nil ?_
                  refine RunC.nil_cell (l' := [AV.i64 0, AV.i64 0, AV.oref 5 1 0 0, AV.nilsl]) (Γ' := [⟨1, some [AV.i64 0, AV.i64 0, AV.oref 5 1 0 0, AV.nilsl]⟩, ⟨1, some (r70.map AV.f32)⟩, ⟨1, some (r71.map AV.i64)⟩, ⟨1, some [AV.i64 r3, AV.i64 r4, AV.oref 1 1 0 r5.length, AV.oref 2 1 0 r6.length]⟩, ⟨1, some (r68.map AV.i64)⟩, ⟨1, some (([] : List F).map AV.f32)⟩, ⟨0, none⟩, ⟨0, none⟩]) 0 2 5 rfl rfl rfl rfl rfl ?_
                  refine RunC.nil_cell (l' := [AV.i64 0, AV.i64 0, AV.oref 5 1 0 0, AV.oref 6 1 0 0]) (Γ' := [⟨1, some [AV.i64 0, AV.i64 0, AV.oref 5 1 0 0, AV.oref 6 1 0 0]⟩, ⟨1, some (r70.map AV.f32)⟩, ⟨1, some (r71.map AV.i64)⟩, ⟨1, some [AV.i64 r3, AV.i64 r4, AV.oref 1 1 0 r5.length, AV.oref 2 1 0 r6.length]⟩, ⟨1, some (r68.map AV.i64)⟩, ⟨1, some (([] : List F).map AV.f32)⟩, ⟨1, some (([] : List Int).map AV.i64)⟩, ⟨0, none⟩]) 0 3 6 rfl rfl rfl rfl rfl ?_
                  refine RunC.nil_slot (Γ' := [⟨1, some [AV.i64 0, AV.i64 0, AV.oref 5 1 0 0, AV.oref 6 1 0 0]⟩, ⟨1, some (r70.map AV.f32)⟩, ⟨1, some (r71.map AV.i64)⟩, ⟨1, some [AV.i64 r3, AV.i64 r4, AV.oref 1 1 0 r5.length, AV.oref 2 1 0 r6.length]⟩, ⟨1, some (r68.map AV.i64)⟩, ⟨1, some (([] : List F).map AV.f32)⟩, ⟨1, some (([] : List Int).map AV.i64)⟩, ⟨1, some (([] : List Int).map AV.i64)⟩]) 5 7 rfl rfl rfl ?_
                  refine RunC.ret ?_
                  cases Option.some.inj h26_
                  have hx34_ := hr26 _ rfl
                  subst hx34_
                  have hq := Option.some.inj h
                  obtain ⟨hq0, hq⟩ := Prod.mk.inj hq
                  obtain ⟨hq1, hq⟩ := Prod.mk.inj hq
                  obtain ⟨hq2, hq⟩ := Prod.mk.inj hq
                  obtain ⟨hq3, hq⟩ := Prod.mk.inj hq
                  obtain ⟨hq4, hq⟩ := Prod.mk.inj hq
                  obtain ⟨hq5, hq⟩ := Prod.mk.inj hq
                  subst q0
                  subst q1
                  subst q2
                  subst q3
                  subst q4
                  subst q5
                  subst q6
                  exact bodyQ.mk (r' := AV.tup [AV.agg [AV.i64 0, AV.i64 0, AV.oref 5 1 0 (([] : List F).length), AV.oref 6 1 0 (([] : List Int).length)], AV.oref 7 1 0 (([] : List Int).length), AV.i64 0, AV.b false]) [(5, 1), (6, 1), (7, 1)] (.inr rfl) rfl (show List.Nodup [5, 6, 7] from by decide) rfl rfl (Res.eq (Res.four rfl (RV.cell agg48 siz48 rfl rfl rfl rfl) (RV.tmp rfl) (RV.tmp rfl) (RV.tmp rfl)) (by rw [(show ([] : List F).length = 0 from rfl), (show ([] : List Int).length = 0 from rfl)] <;> rfl)) (SelL.arr0 (f := AV.f32) (fun _ => rfl) rfl (SelL.arr0 (f := AV.i64) (fun _ => rfl) rfl (SelL.arr0 (f := AV.i64) (fun _ => rfl) rfl trivial)))
                · refine RunC.regionW ?_
                  refine ROps.l (r := AV.optr 3 1 0) rfl rfl rfl (LOp.fao und48 rfl siz27 rfl rfl rfl) ?_
                  refine ROps.l (r := AV.i64 v15) rfl rfl rfl (LOp.move rfl rfl) ?_
                  refine ROps.callO (A := [AV.optr 3 1 0, AV.i64 v15]) (args := [AV.optr 0 0 0, AV.i64 v15]) (Γc := [⟨0, some [AV.i64 r3, AV.i64 r4, AV.oref 1 0 0 L64.length, AV.oref 2 0 0 r47.length]⟩, ⟨0, some (L64.map AV.f32)⟩, ⟨0, some (r47.map AV.i64)⟩]) (Γc' := [⟨0, some [AV.i64 r3, AV.i64 r4, AV.oref 1 0 0 L64.length, AV.oref 2 0 0 r47.length]⟩, ⟨0, some (r70.map AV.f32)⟩, ⟨0, some (r71.map AV.i64)⟩]) (r' := AV.b r69) (Γ' := [⟨1, some [AV.i64 0, AV.i64 0, AV.nilsl, AV.nilsl]⟩, ⟨1, some (r70.map AV.f32)⟩, ⟨1, some (r71.map AV.i64)⟩, ⟨1, some [AV.i64 r3, AV.i64 r4, AV.oref 1 1 0 r5.length, AV.oref 2 1 0 r6.length]⟩, ⟨1, some (r68.map AV.i64)⟩, ⟨0, none⟩, ⟨0, none⟩, ⟨0, none⟩]) [(3, 1), (1, 1), (2, 1)] [] rfl (CallAs.func ent72 rfl rfl) rfl rfl (SelOk.of (show List.Nodup [3, 1, 2] from by decide) (SelL.cells0 rfl (by simp [AV.ren, AV.rens, sigma, rens_f32, rens_f64, rens_i64, rens_ik, rens_str, rens_cp, hl65, hl66]) rfl (SelL.arr0 (f := AV.f32) (fun _ => rfl) rfl (SelL.arr0 (f := AV.i64) (fun _ => rfl) rfl trivial)))) (live_of ⟨⟨_, _, rfl⟩, ⟨_, _, rfl⟩, ⟨_, _, rfl⟩, trivial⟩) (by simp [AV.ren, AV.rens, sigma, rens_f32, rens_f64, rens_i64, rens_ik, rens_str, rens_cp, hl65, hl66]) rfl (s_l03Clear_0p0_C02o1_3o2_ok v15 r3 r4 L64 r47 r69 r70 r71 hf42) rfl (news_of trivial) (show List.Nodup [3, 1, 2] from by decide) (by simp [AV.ren, AV.rens, sigma, of_decide_eq_true hn43, of_decide_eq_true hn44]) (by simp [backOb, sigma, AV.ren, AV.rens, rens_f32, rens_f64, rens_i64, rens_ik, rens_str, rens_cp, hl65, hl66, of_decide_eq_true hn43, of_decide_eq_true hn44]) ?_
                  refine ROps.l (r := AV.b false) rfl rfl rfl (LOp.eqb (LOp.not rfl rfl) hc45) ?_
                  refine ROps.nil ?_
                  refine RunC.cond_false rfl rfl ?_
                  refine RunC.skip ?_
                  obtain ⟨x72, hx46, h26_⟩ := olet_some h26_
                  refine RunC.regionW ?_
                  refine ROps.l (r := AV.i64 v14) rfl rfl rfl (LOp.move rfl rfl) ?_
                  refine ROps.l (r := AV.i64 x72) rfl rfl rfl (LOp.eqr (LOp.add rfl rfl rfl) (congrArg (AV.ik .i64) hx46)) ?_
                  refine ROps.l (r := AV.i64 x72) rfl rfl rfl (LOp.assign rfl rfl) ?_
                  refine ROps.nil ?_
                  obtain ⟨x73, hx47, h26_⟩ := olet_some h26_
                  refine RunC.regionW ?_
                  refine ROps.l (r := AV.i64 v15) rfl rfl rfl (LOp.move rfl rfl) ?_
                  refine ROps.l (r := AV.i64 x73) rfl rfl rfl (LOp.eqr (LOp.add rfl rfl rfl) (congrArg (AV.ik .i64) hx47)) ?_
                  refine ROps.l (r := AV.i64 x73) rfl rfl rfl (LOp.assign rfl rfl) ?_
                  refine ROps.nil ?_
                  cases Option.some.inj h26_
                  exact ⟨_, rfl, (of_decide_eq_true hn43), (of_decide_eq_true hn44), (of_decide_eq_true hn41), ⟨(ALe.refl _), (ALe.refl _), (ALe.refl _), (ALe.refl _), (ALe.refl _), (ALe.refl _), (ALe.refl _), trivial⟩, ⟨⟨rfl, .inr rfl⟩, ⟨rfl, .inr rfl⟩, ⟨rfl, .inr rfl⟩, ⟨rfl, .inr rfl⟩, ⟨rfl, .inr rfl⟩, ⟨rfl, .inr rfl⟩, ⟨rfl, .inr rfl⟩, ⟨rfl, .inr rfl⟩, trivial⟩⟩
        · refine RunC.regionW ?_
          refine ROps.l (r := AV.i64 v15) rfl rfl rfl (LOp.move rfl rfl) ?_
          refine ROps.l (r := AV.i64 a0) rfl rfl rfl (LOp.move rfl rfl) ?_
          refine ROps.l (r := AV.b false) rfl rfl rfl (LOp.eqb (LOp.lss rfl rfl rfl) hc8) ?_
          refine ROps.nil ?_
          refine RunC.cond_false rfl rfl ?_
          refine RunC.exit ?_
          cases Option.some.inj h26_
          have hx := ho26 _ rfl
          exact ⟨L8, L10, L12, v14, hl9, hl11, hl13, ⟨(ALe.refl _), (ALe.refl _), (ALe.refl _), (ALe.refl _), trivial⟩, ⟨⟨rfl, .inr rfl⟩, ⟨rfl, .inr rfl⟩, ⟨rfl, .inr rfl⟩, ⟨rfl, .inr rfl⟩, ⟨rfl, .inr rfl⟩, ⟨rfl, .inr rfl⟩, ⟨rfl, .inr rfl⟩, ⟨rfl, .inr rfl⟩, trivial⟩, hx⟩
      · rintro τ35 Γ35 ⟨L74, L76, L78, v80, hl75, hl77, hl79, hw35, hd35, rfl⟩
        refine RunC.wl (τ' := [(4, AV.optr 0 1 0), (9, AV.optr 3 1 0), (10, AV.oref 4 1 0 r7.length), (11, AV.i64 v80)]) (Γ' := [⟨1, some [AV.i64 0, AV.i64 0, AV.nilsl, AV.nilsl]⟩, ⟨1, some (L74.map AV.f32)⟩, ⟨1, some (L76.map AV.i64)⟩, ⟨1, some [AV.i64 r3, AV.i64 r4, AV.oref 1 1 0 r5.length, AV.oref 2 1 0 r6.length]⟩, ⟨1, some (L78.map AV.i64)⟩, ⟨0, none⟩, ⟨0, none⟩, ⟨0, none⟩]) hw35 hd35 ?_
        replace h : s_FactorBoth_k25 r3 r4 L74 L76 L78 v80 = some (q0, q1, q2, q3, q4, q5, q6) := h
        unfold s_FactorBoth_k25 at h
        refine RunC.seq ?_
        refine RunC.regionW ?_
        refine ROps.d (r := AV.agg [AV.i64 r3, AV.i64 r4, AV.oref 1 1 0 r5.length, AV.oref 2 1 0 r6.length]) (fs := []) (Γ' := [⟨1, some [AV.i64 0, AV.i64 0, AV.nilsl, AV.nilsl]⟩, ⟨1, some (L74.map AV.f32)⟩, ⟨1, some (L76.map AV.i64)⟩, ⟨1, some [AV.i64 r3, AV.i64 r4, AV.oref 1 1 0 r5.length, AV.oref 2 1 0 r6.length]⟩, ⟨1, some (L78.map AV.i64)⟩, ⟨0, none⟩, ⟨0, none⟩, ⟨0, none⟩]) rfl rfl rfl (TOp.loadAgg_o rfl agg48 siz48 rfl rfl rfl rfl) rfl ?_
        refine ROps.l (r := AV.oref 4 1 0 r7.length) rfl rfl rfl (LOp.move rfl rfl) ?_
        refine ROps.l (r := AV.i64 v80) rfl rfl rfl (LOp.move rfl rfl) ?_
        refine ROps.store_le (r := AV.agg [AV.i64 r3, AV.i64 r4, AV.oref 1 1 0 r5.length, AV.oref 2 1 0 r6.length]) (l' := [AV.i64 r3, AV.i64 r4, AV.oref 1 1 0 r5.length, AV.oref 2 1 0 r6.length]) (Γ' := [⟨1, some [AV.i64 r3, AV.i64 r4, AV.oref 1 1 0 r5.length, AV.oref 2 1 0 r6.length]⟩, ⟨1, some (L74.map AV.f32)⟩, ⟨1, some (L76.map AV.i64)⟩, ⟨1, some [AV.i64 r3, AV.i64 r4, AV.oref 1 1 0 r5.length, AV.oref 2 1 0 r6.length]⟩, ⟨1, some (L78.map AV.i64)⟩, ⟨0, none⟩, ⟨0, none⟩, ⟨0, none⟩]) rfl siz48 rfl rfl rfl (ALe.refl _) rfl rfl rfl rfl (Nat.le_of_ble_eq_true rfl) rfl rfl ?_
        refine ROps.l (r := AV.oref 4 1 0 r7.length) rfl rfl rfl (LOp.assign rfl rfl) ?_
        refine ROps.l (r := AV.i64 v80) rfl rfl rfl (LOp.assign rfl rfl) ?_
        refine ROps.l (r := AV.b true) rfl rfl rfl (LOp.assign rfl rfl) ?_
        refine ROps.nil ?_
        refine RunC.ret ?_
        have hq := Option.some.inj h
        obtain ⟨hq0, hq⟩ := Prod.mk.inj hq
        obtain ⟨hq1, hq⟩ := Prod.mk.inj hq
        obtain ⟨hq2, hq⟩ := Prod.mk.inj hq
        obtain ⟨hq3, hq⟩ := Prod.mk.inj hq
        obtain ⟨hq4, hq⟩ := Prod.mk.inj hq
        obtain ⟨hq5, hq⟩ := Prod.mk.inj hq
        subst q0
        subst q1
        subst q2
        subst q3
        subst q4
        subst q5
        subst q6
        exact bodyQ.mk (r' := AV.tup [AV.agg [AV.i64 r3, AV.i64 r4, AV.oref 1 1 0 L74.length, AV.oref 2 1 0 L76.length], AV.oref 4 1 0 L78.length, AV.i64 v80, AV.b true]) [(1, 1), (2, 1), (4, 1)] (.inr rfl) rfl (show List.Nodup [1, 2, 4] from by decide) rfl rfl (Res.eq (Res.four rfl (RV.cell agg48 siz48 rfl rfl rfl rfl) (RV.tmp rfl) (RV.tmp rfl) (RV.tmp rfl)) (by rw [(show L74.length = r5.length from hl75), (show L76.length = r6.length from hl77), (show L78.length = r7.length from hl79)] <;> rfl)) (SelL.arr0 (f := AV.f32) (fun _ => rfl) rfl (SelL.arr0 (f := AV.i64) (fun _ => rfl) rfl (SelL.arr0 (f := AV.i64) (fun _ => rfl) rfl trivial)))
    · refine RunC.regionW ?_
      refine ROps.d (r := AV.b true) (fs := []) (Γ' := [⟨1, some [AV.i64 0, AV.i64 0, AV.nilsl, AV.nilsl]⟩, ⟨0, none⟩, ⟨0, none⟩, ⟨0, none⟩, ⟨0, none⟩, ⟨0, none⟩, ⟨0, none⟩, ⟨0, none⟩]) rfl rfl rfl (TOp.eqb (TOp.callB (CallAs.func ent55 rfl rfl) (Bors.cons (Bor.ptr (Bors.cons (Bor.pure rfl) (Bors.cons (Bor.pure rfl) (Bors.cons (Bor.sl (fun _ => rfl)) Bors.nil)))) Bors.nil) rfl rfl (s_l02Square_ok a0 a1 a2 r1 hf1)) hc2) rfl ?_
      refine ROps.l (r := AV.b false) rfl rfl rfl (LOp.eqb (LOp.not rfl rfl) rfl) ?_
      refine ROps.l (r := AV.b false) rfl rfl rfl (LOp.move rfl rfl) ?_
      refine ROps.l (r := AV.f32 a3) rfl rfl rfl (LOp.move rfl rfl) ?_
      refine ROps.d (r := AV.b false) (fs := []) (Γ' := [⟨1, some [AV.i64 0, AV.i64 0, AV.nilsl, AV.nilsl]⟩, ⟨0, none⟩, ⟨0, none⟩, ⟨0, none⟩, ⟨0, none⟩, ⟨0, none⟩, ⟨0, none⟩, ⟨0, none⟩]) rfl rfl rfl (TOp.eqb (TOp.callB (CallAs.func ent38 rfl rfl) (Bors.cons (Bor.pure rfl) Bors.nil) rfl rfl (s_l02Least_ok a3 r2 hf3)) hc4) rfl ?_
      refine ROps.l (r := AV.b true) rfl rfl rfl (LOp.eqb (LOp.not rfl rfl) rfl) ?_
      refine ROps.l (r := AV.b true) rfl rfl rfl (LOp.pick_false rfl rfl rfl) ?_
      refine ROps.nil ?_
      refine RunC.cond_true rfl rfl ?_
      refine RunC.seq ?_
      refine RunC.regionW ?_
      refine ROps.l (r := AV.agg [AV.i64 0, AV.i64 0, AV.nilsl, AV.nilsl]) rfl rfl rfl (LOp.build (qs := []) zer48 zok48 und48 plc48 rfl trivial rfl) ?_
      refine ROps.store_le (r := AV.agg [AV.i64 0, AV.i64 0, AV.nilsl, AV.nilsl]) (l' := [AV.i64 0, AV.i64 0, AV.nilsl, AV.nilsl]) (Γ' := [⟨1, some [AV.i64 0, AV.i64 0, AV.nilsl, AV.nilsl]⟩, ⟨0, none⟩, ⟨0, none⟩, ⟨0, none⟩, ⟨0, none⟩, ⟨0, none⟩, ⟨0, none⟩, ⟨0, none⟩]) rfl siz48 rfl rfl rfl (ALe.refl _) rfl rfl rfl rfl (Nat.le_of_ble_eq_true rfl) rfl rfl ?_
      refine ROps.l (r := AV.nilsl) rfl rfl rfl (LOp.assign rfl rfl) ?_
      refine ROps.l (r := AV.i64 0) rfl rfl rfl (LOp.assign rfl rfl) ?_
      refine ROps.l (r := AV.b false) rfl rfl rfl (LOp.assign rfl rfl) ?_
      refine ROps.nil ?_
      refine RunC.nil_cell (l' := [AV.i64 0, AV.i64 0, AV.oref 1 1 0 0, AV.nilsl]) (Γ' := [⟨1, some [AV.i64 0, AV.i64 0, AV.oref 1 1 0 0, AV.nilsl]⟩, ⟨1, some (([] : List F).map AV.f32)⟩, ⟨0, none⟩, ⟨0, none⟩, ⟨0, none⟩, ⟨0, none⟩, ⟨0, none⟩, ⟨0, none⟩]) 0 2 1 rfl rfl rfl rfl rfl ?_
      refine RunC.nil_cell (l' := [AV.i64 0, AV.i64 0, AV.oref 1 1 0 0, AV.oref 2 1 0 0]) (Γ' := [⟨1, some [AV.i64 0, AV.i64 0, AV.oref 1 1 0 0, AV.oref 2 1 0 0]⟩, ⟨1, some (([] : List F).map AV.f32)⟩, ⟨1, some (([] : List Int).map AV.i64)⟩, ⟨0, none⟩, ⟨0, none⟩, ⟨0, none⟩, ⟨0, none⟩, ⟨0, none⟩]) 0 3 2 rfl rfl rfl rfl rfl ?_
      refine RunC.nil_slot (Γ' := [⟨1, some [AV.i64 0, AV.i64 0, AV.oref 1 1 0 0, AV.oref 2 1 0 0]⟩, ⟨1, some (([] : List F).map AV.f32)⟩, ⟨1, some (([] : List Int).map AV.i64)⟩, ⟨1, some (([] : List Int).map AV.i64)⟩, ⟨0, none⟩, ⟨0, none⟩, ⟨0, none⟩, ⟨0, none⟩]) 5 3 rfl rfl rfl ?_
      refine RunC.ret ?_
      have hq := Option.some.inj h
      obtain ⟨hq0, hq⟩ := Prod.mk.inj hq
      obtain ⟨hq1, hq⟩ := Prod.mk.inj hq
      obtain ⟨hq2, hq⟩ := Prod.mk.inj hq
      obtain ⟨hq3, hq⟩ := Prod.mk.inj hq
      obtain ⟨hq4, hq⟩ := Prod.mk.inj hq
      obtain ⟨hq5, hq⟩ := Prod.mk.inj hq
      subst q0
      subst q1
      subst q2
      subst q3
      subst q4
      subst q5
      subst q6
      exact bodyQ.mk (r' := AV.tup [AV.agg [AV.i64 0, AV.i64 0, AV.oref 1 1 0 (([] : List F).length), AV.oref 2 1 0 (([] : List Int).length)], AV.oref 3 1 0 (([] : List Int).length), AV.i64 0, AV.b false]) [(1, 1), (2, 1), (3, 1)] (.inr rfl) rfl (show List.Nodup [1, 2, 3] from by decide) rfl rfl (Res.eq (Res.four rfl (RV.cell agg48 siz48 rfl rfl rfl rfl) (RV.tmp rfl) (RV.tmp rfl) (RV.tmp rfl)) (by rw [(show ([] : List F).length = 0 from rfl), (show ([] : List Int).length = 0 from rfl)] <;> rfl)) (SelL.arr0 (f := AV.f32) (fun _ => rfl) rfl (SelL.arr0 (f := AV.i64) (fun _ => rfl) rfl (SelL.arr0 (f := AV.i64) (fun _ => rfl) rfl trivial)))
  · refine RunC.regionW ?_
    refine ROps.d (r := AV.b false) (fs := []) (Γ' := [⟨1, some [AV.i64 0, AV.i64 0, AV.nilsl, AV.nilsl]⟩, ⟨0, none⟩, ⟨0, none⟩, ⟨0, none⟩, ⟨0, none⟩, ⟨0, none⟩, ⟨0, none⟩, ⟨0, none⟩]) rfl rfl rfl (TOp.eqb (TOp.callB (CallAs.func ent55 rfl rfl) (Bors.cons (Bor.ptr (Bors.cons (Bor.pure rfl) (Bors.cons (Bor.pure rfl) (Bors.cons (Bor.sl (fun _ => rfl)) Bors.nil)))) Bors.nil) rfl rfl (s_l02Square_ok a0 a1 a2 r1 hf1)) hc2) rfl ?_
    refine ROps.l (r := AV.b true) rfl rfl rfl (LOp.eqb (LOp.not rfl rfl) rfl) ?_
    refine ROps.l (r := AV.b true) rfl rfl rfl (LOp.move rfl rfl) ?_
    refine ROps.s rfl rfl rfl ?_
    refine ROps.s rfl rfl rfl ?_
    refine ROps.s rfl rfl rfl ?_
    refine ROps.l (r := AV.b true) rfl rfl rfl (LOp.pick_true rfl rfl rfl) ?_
    refine ROps.nil ?_
    refine RunC.cond_true rfl rfl ?_
    refine RunC.seq ?_
    refine RunC.regionW ?_
    refine ROps.l (r := AV.agg [AV.i64 0, AV.i64 0, AV.nilsl, AV.nilsl]) rfl rfl rfl (LOp.build (qs := []) zer48 zok48 und48 plc48 rfl trivial rfl) ?_
    refine ROps.store_le (r := AV.agg [AV.i64 0, AV.i64 0, AV.nilsl, AV.nilsl]) (l' := [AV.i64 0, AV.i64 0, AV.nilsl, AV.nilsl]) (Γ' := [⟨1, some [AV.i64 0, AV.i64 0, AV.nilsl, AV.nilsl]⟩, ⟨0, none⟩, ⟨0, none⟩, ⟨0, none⟩, ⟨0, none⟩, ⟨0, none⟩, ⟨0, none⟩, ⟨0, none⟩]) rfl siz48 rfl rfl rfl (ALe.refl _) rfl rfl rfl rfl (Nat.le_of_ble_eq_true rfl) rfl rfl ?_
    refine ROps.l (r := AV.nilsl) rfl rfl rfl (LOp.assign rfl rfl) ?_
    refine ROps.l (r := AV.i64 0) rfl rfl rfl (LOp.assign rfl rfl) ?_
    refine ROps.l (r := AV.b false) rfl rfl rfl (LOp.assign rfl rfl) ?_
    refine ROps.nil ?_
    refine RunC.nil_cell (l' := [AV.i64 0, AV.i64 0, AV.oref 1 1 0 0, AV.nilsl]) (Γ' := [⟨1, some [AV.i64 0, AV.i64 0, AV.oref 1 1 0 0, AV.nilsl]⟩, ⟨1, some (([] : List F).map AV.f32)⟩, ⟨0, none⟩, ⟨0, none⟩, ⟨0, none⟩, ⟨0, none⟩, ⟨0, none⟩, ⟨0, none⟩]) 0 2 1 rfl rfl rfl rfl rfl ?_
    refine RunC.nil_cell (l' := [AV.i64 0, AV.i64 0, AV.oref 1 1 0 0, AV.oref 2 1 0 0]) (Γ' := [⟨1, some [AV.i64 0, AV.i64 0, AV.oref 1 1 0 0, AV.oref 2 1 0 0]⟩, ⟨1, some (([] : List F).map AV.f32)⟩, ⟨1, some (([] : List Int).map AV.i64)⟩, ⟨0, none⟩, ⟨0, none⟩, ⟨0, none⟩, ⟨0, none⟩, ⟨0, none⟩]) 0 3 2 rfl rfl rfl rfl rfl ?_
    refine RunC.nil_slot (Γ' := [⟨1, some [AV.i64 0, AV.i64 0, AV.oref 1 1 0 0, AV.oref 2 1 0 0]⟩, ⟨1, some (([] : List F).map AV.f32)⟩, ⟨1, some (([] : List Int).map AV.i64)⟩, ⟨1, some (([] : List Int).map AV.i64)⟩, ⟨0, none⟩, ⟨0, none⟩, ⟨0, none⟩, ⟨0, none⟩]) 5 3 rfl rfl rfl ?_
    refine RunC.ret ?_
    have hq := Option.some.inj h
    obtain ⟨hq0, hq⟩ := Prod.mk.inj hq
    obtain ⟨hq1, hq⟩ := Prod.mk.inj hq
    obtain ⟨hq2, hq⟩ := Prod.mk.inj hq
    obtain ⟨hq3, hq⟩ := Prod.mk.inj hq
    obtain ⟨hq4, hq⟩ := Prod.mk.inj hq
    obtain ⟨hq5, hq⟩ := Prod.mk.inj hq
    subst q0
    subst q1
    subst q2
    subst q3
    subst q4
    subst q5
    subst q6
    exact bodyQ.mk (r' := AV.tup [AV.agg [AV.i64 0, AV.i64 0, AV.oref 1 1 0 (([] : List F).length), AV.oref 2 1 0 (([] : List Int).length)], AV.oref 3 1 0 (([] : List Int).length), AV.i64 0, AV.b false]) [(1, 1), (2, 1), (3, 1)] (.inr rfl) rfl (show List.Nodup [1, 2, 3] from by decide) rfl rfl (Res.eq (Res.four rfl (RV.cell agg48 siz48 rfl rfl rfl rfl) (RV.tmp rfl) (RV.tmp rfl) (RV.tmp rfl)) (by rw [(show ([] : List F).length = 0 from rfl), (show ([] : List Int).length = 0 from rfl)] <;> rfl)) (SelL.arr0 (f := AV.f32) (fun _ => rfl) rfl (SelL.arr0 (f := AV.i64) (fun _ => rfl) rfl (SelL.arr0 (f := AV.i64) (fun _ => rfl) rfl trivial)))
noncomputable def i_inRange (a0 : Int) (a1 : Int) (a2 : Int) : Option (Bool) :=
  bsel (decide (a1 ≤ a0)) (
    some (decide (a0 ≤ a2))) (
    some false)
theorem i_inRange_ok (a0 : Int) (a1 : Int) (a2 : Int) (q0 : Bool) (h : i_inRange a0 a1 a2 = some q0) : Ev Try.prog 91 [AV.i64 a0, AV.i64 a1, AV.i64 a2] [] (AV.b q0) [] := by
  refine Ev.start Try.func91 rfl rfl 0 (τ := [(0, AV.i64 a0), (1, AV.i64 a1), (2, AV.i64 a2)]) rfl (Γ' := []) rfl (n := 15) rfl (g := 0) rfl ?_
  unfold i_inRange at h
  refine RunC.seq ?_
  refine RunC.regionW ?_
  refine ROps.l (r := AV.b false) rfl rfl rfl (LOp.assign rfl rfl) ?_
  refine ROps.nil ?_
  refine RunC.seq ?_
  rcases bsel_some h with ⟨hc1, h⟩ | ⟨hc1, h⟩
  · refine RunC.regionW ?_
    refine ROps.l (r := AV.i64 a1) rfl rfl rfl (LOp.move rfl rfl) ?_
    refine ROps.l (r := AV.i64 a0) rfl rfl rfl (LOp.move rfl rfl) ?_
    refine ROps.l (r := AV.b true) rfl rfl rfl (LOp.eqb (LOp.leq rfl rfl rfl) hc1) ?_
    refine ROps.l (r := AV.b true) rfl rfl rfl (LOp.move rfl rfl) ?_
    refine ROps.l (r := AV.i64 a0) rfl rfl rfl (LOp.move rfl rfl) ?_
    refine ROps.l (r := AV.i64 a2) rfl rfl rfl (LOp.move rfl rfl) ?_
    refine ROps.l (r := AV.b (decide (a0 ≤ a2))) rfl rfl rfl (LOp.leq rfl rfl rfl) ?_
    refine ROps.l (r := AV.b (decide (a0 ≤ a2))) rfl rfl rfl (LOp.pick_true rfl rfl rfl) ?_
    refine ROps.l (r := AV.b (decide (a0 ≤ a2))) rfl rfl rfl (LOp.assign rfl rfl) ?_
    refine ROps.nil ?_
    refine RunC.ret ?_
    have hq := Option.some.inj h
    subst q0
    exact bodyQ.pure (.inr rfl) rfl (Res.one rfl (RV.tmp rfl))
  · refine RunC.regionW ?_
    refine ROps.l (r := AV.i64 a1) rfl rfl rfl (LOp.move rfl rfl) ?_
    refine ROps.l (r := AV.i64 a0) rfl rfl rfl (LOp.move rfl rfl) ?_
    refine ROps.l (r := AV.b false) rfl rfl rfl (LOp.eqb (LOp.leq rfl rfl rfl) hc1) ?_
    refine ROps.l (r := AV.b false) rfl rfl rfl (LOp.move rfl rfl) ?_
    refine ROps.s rfl rfl rfl ?_
    refine ROps.s rfl rfl rfl ?_
    refine ROps.s rfl rfl rfl ?_
    refine ROps.l (r := AV.b false) rfl rfl rfl (LOp.pick_false rfl rfl rfl) ?_
    refine ROps.l (r := AV.b false) rfl rfl rfl (LOp.assign rfl rfl) ?_
    refine ROps.nil ?_
    refine RunC.ret ?_
    have hq := Option.some.inj h
    subst q0
    exact bodyQ.pure (.inr rfl) rfl (Res.one rfl (RV.tmp rfl))
noncomputable def i_isSide (a0 : Int) : Option (Bool) :=
  obind (i_inRange a0 1 12) fun (r1 : Bool) =>
  some r1
theorem i_isSide_ok (a0 : Int) (q0 : Bool) (h : i_isSide a0 = some q0) : Ev Try.prog 47 [AV.i64 a0] [] (AV.b q0) [] := by
  refine Ev.start Try.func47 rfl rfl 0 (τ := [(0, AV.i64 a0)]) rfl (Γ' := []) rfl (n := 5) rfl (g := 0) rfl ?_
  unfold i_isSide at h
  refine RunC.seq ?_
  refine RunC.regionW ?_
  refine ROps.l (r := AV.b false) rfl rfl rfl (LOp.assign rfl rfl) ?_
  refine ROps.nil ?_
  refine RunC.seq ?_
  obtain ⟨r1, hf1, h⟩ := obind_some h
  refine RunC.regionW ?_
  refine ROps.l (r := AV.i64 a0) rfl rfl rfl (LOp.move rfl rfl) ?_
  refine ROps.d (r := AV.b r1) (fs := []) (Γ' := []) rfl rfl rfl (TOp.callB (CallAs.func ent91 rfl rfl) (Bors.cons (Bor.pure rfl) (Bors.cons (Bor.pure rfl) (Bors.cons (Bor.pure rfl) Bors.nil))) rfl rfl (i_inRange_ok a0 1 12 r1 hf1)) rfl ?_
  refine ROps.l (r := AV.b r1) rfl rfl rfl (LOp.assign rfl rfl) ?_
  refine ROps.nil ?_
  refine RunC.ret ?_
  have hq := Option.some.inj h
  subst q0
  exact bodyQ.pure (.inr rfl) rfl (Res.one rfl (RV.tmp rfl))
noncomputable def i_length_float32 (a0 : List F) : Option (Int) :=
  some (a0.length : Int)
theorem i_length_float32_ok (a0 : List F) (q0 : Int) (h : i_length_float32 a0 = some q0) : Ev Try.prog 89 [AV.sl a0.length (a0.map AV.f32)] [] (AV.i64 q0) [] := by
  refine Ev.start Try.func89 rfl rfl 0 (τ := [(0, AV.sl a0.length (a0.map AV.f32))]) rfl (Γ' := []) rfl (n := 5) rfl (g := 0) rfl ?_
  unfold i_length_float32 at h
  refine RunC.seq ?_
  refine RunC.regionW ?_
  refine ROps.l (r := AV.i64 0) rfl rfl rfl (LOp.assign rfl rfl) ?_
  refine ROps.nil ?_
  refine RunC.seq ?_
  refine RunC.regionW ?_
  refine ROps.l (r := AV.sl a0.length (a0.map AV.f32)) rfl rfl rfl (LOp.move rfl rfl) ?_
  refine ROps.l (r := AV.i64 (a0.length : Int)) rfl rfl rfl (LOp.len_sl und22 rfl rfl) ?_
  refine ROps.l (r := AV.i64 (a0.length : Int)) rfl rfl rfl (LOp.assign rfl rfl) ?_
  refine ROps.nil ?_
  refine RunC.ret ?_
  have hq := Option.some.inj h
  subst q0
  exact bodyQ.pure (.inr rfl) rfl (Res.one rfl (RV.tmp rfl))
noncomputable def x_math_IsNaN (a0 : F) : Option (Bool) :=
  some (!feq .f64 a0 a0)
theorem x_math_IsNaN_ok (a0 : F) (q0 : Bool) (h : x_math_IsNaN a0 = some q0) : Ev Try.prog 114 [AV.f64 a0] [] (AV.b q0) [] := by
  refine Ev.start Try.func114 rfl rfl 0 (τ := [(0, AV.f64 a0)]) rfl (Γ' := []) rfl (n := 6) rfl (g := 0) rfl ?_
  unfold x_math_IsNaN at h
  refine RunC.seq ?_
  refine RunC.regionW ?_
  refine ROps.l (r := AV.b false) rfl rfl rfl (LOp.assign rfl rfl) ?_
  refine ROps.nil ?_
  refine RunC.seq ?_
  refine RunC.regionW ?_
  refine ROps.l (r := AV.f64 a0) rfl rfl rfl (LOp.move rfl rfl) ?_
  refine ROps.l (r := AV.f64 a0) rfl rfl rfl (LOp.move rfl rfl) ?_
  refine ROps.l (r := AV.b (!feq .f64 a0 a0)) rfl rfl rfl (LOp.fne rfl (OpF.tmp rfl) (OpF.tmp rfl)) ?_
  refine ROps.l (r := AV.b (!feq .f64 a0 a0)) rfl rfl rfl (LOp.assign rfl rfl) ?_
  refine ROps.nil ?_
  refine RunC.ret ?_
  have hq := Option.some.inj h
  subst q0
  exact bodyQ.pure (.inr rfl) rfl (Res.one rfl (RV.tmp rfl))
noncomputable def x_math_Abs (a0 : F) : Option (F) :=
  olet (fabs a0) fun (x1 : F) =>
  some x1
theorem x_math_Abs_ok (a0 : F) (q0 : F) (h : x_math_Abs a0 = some q0) : Ev Try.prog 93 [AV.f64 a0] [] (AV.f64 q0) [] := by
  refine Ev.start Try.func93 rfl rfl 0 (τ := [(0, AV.f64 a0)]) rfl (Γ' := []) rfl (n := 7) rfl (g := 0) rfl ?_
  unfold x_math_Abs at h
  refine RunC.seq ?_
  refine RunC.regionW ?_
  refine ROps.l (r := AV.f64 (some 0)) rfl rfl rfl (LOp.le (LOp.assign rfl rfl) (ALe.fl (by kernel_rfl) (by kernel_rfl))) ?_
  refine ROps.nil ?_
  refine RunC.seq ?_
  obtain ⟨x1, hx1, h⟩ := olet_some h
  refine RunC.regionW ?_
  refine ROps.l (r := AV.f64 a0) rfl rfl rfl (LOp.move rfl rfl) ?_
  refine ROps.l (r := AV.bt .f64 .u64 a0) rfl rfl rfl (LOp.fbits ext117 rfl (OpF.tmp rfl)) ?_
  refine ROps.l (r := AV.bt .f64 .u64 x1) rfl rfl rfl (LOp.eqr (LOp.andNot_bt rfl rfl rfl) (congrArg (AV.bt .f64 .u64) hx1)) ?_
  refine ROps.l (r := AV.f64 x1) rfl rfl rfl (LOp.ffrom ext116 rfl rfl) ?_
  refine ROps.l (r := AV.f64 x1) rfl rfl rfl (LOp.assign rfl rfl) ?_
  refine ROps.nil ?_
  refine RunC.ret ?_
  have hq := Option.some.inj h
  subst q0
  exact bodyQ.pure (.inr rfl) rfl (Res.one rfl (RV.tmp rfl))
noncomputable def x_math_IsInf_k1 (y3 : F) : Option (Bool) :=
  some (flt .f64 (some 9218868437227405311) y3)
noncomputable def x_math_IsInf (a0 : F) (a1 : Int) : Option (Bool) :=
  bsel (decide (a1 = 0)) (
    obind (x_math_Abs a0) fun (r1 : F) =>
    x_math_IsInf_k1 r1) (
    bsel (decide (a1 < 0)) (
      olet (fneg .f64 a0) fun (x2 : F) =>
      x_math_IsInf_k1 x2) (
      x_math_IsInf_k1 a0))
theorem x_math_IsInf_ok (a0 : F) (a1 : Int) (q0 : Bool) (h : x_math_IsInf a0 a1 = some q0) : Ev Try.prog 115 [AV.f64 a0, AV.i64 a1] [] (AV.b q0) [] := by
  refine Ev.start Try.func115 rfl rfl 0 (τ := [(0, AV.f64 a0), (1, AV.i64 a1)]) rfl (Γ' := []) rfl (n := 15) rfl (g := 0) rfl ?_
  unfold x_math_IsInf at h
  refine RunC.seq ?_
  refine RunC.regionW ?_
  refine ROps.l (r := AV.b false) rfl rfl rfl (LOp.assign rfl rfl) ?_
  refine ROps.nil ?_
  refine RunC.seq ?_
  refine RunC.cutN (fun τ Γ => ∃ (y3 : F), WeakLe τ [(0, AV.f64 y3)] ∧ DeadLe Γ [] ∧ x_math_IsInf_k1 y3 = some q0) ?_ ?_
  · refine RunC.seq ?_
    rcases bsel_some h with ⟨hc1, h⟩ | ⟨hc1, h⟩
    · refine RunC.regionW ?_
      refine ROps.l (r := AV.i64 a1) rfl rfl rfl (LOp.move rfl rfl) ?_
      refine ROps.l (r := AV.b true) rfl rfl rfl (LOp.eqb (LOp.eql rfl rfl rfl) hc1) ?_
      refine ROps.nil ?_
      refine RunC.cond_true rfl rfl ?_
      obtain ⟨r1, hf2, h⟩ := obind_some h
      refine RunC.regionW ?_
      refine ROps.l (r := AV.f64 a0) rfl rfl rfl (LOp.move rfl rfl) ?_
      refine ROps.d (r := AV.f64 r1) (fs := []) (Γ' := []) rfl rfl rfl (TOp.callB (CallAs.func ent93 rfl rfl) (Bors.cons (Bor.pure rfl) Bors.nil) rfl rfl (x_math_Abs_ok a0 r1 hf2)) rfl ?_
      refine ROps.l (r := AV.f64 r1) rfl rfl rfl (LOp.assign rfl rfl) ?_
      refine ROps.nil ?_
      exact ⟨r1, ⟨(ALe.refl _), trivial⟩, trivial, h⟩
    · refine RunC.regionW ?_
      refine ROps.l (r := AV.i64 a1) rfl rfl rfl (LOp.move rfl rfl) ?_
      refine ROps.l (r := AV.b false) rfl rfl rfl (LOp.eqb (LOp.eql rfl rfl rfl) hc1) ?_
      refine ROps.nil ?_
      refine RunC.cond_false rfl rfl ?_
      refine RunC.seq ?_
      rcases bsel_some h with ⟨hc3, h⟩ | ⟨hc3, h⟩
      · refine RunC.regionW ?_
        refine ROps.l (r := AV.i64 a1) rfl rfl rfl (LOp.move rfl rfl) ?_
        refine ROps.l (r := AV.b true) rfl rfl rfl (LOp.eqb (LOp.lss rfl rfl rfl) hc3) ?_
        refine ROps.nil ?_
        refine RunC.cond_true rfl rfl ?_
        obtain ⟨x2, hx4, h⟩ := olet_some h
        refine RunC.regionW ?_
        refine ROps.l (r := AV.f64 a0) rfl rfl rfl (LOp.move rfl rfl) ?_
        refine ROps.l (r := AV.f64 x2) rfl rfl rfl (LOp.eqr (LOp.fneg rfl (OpF.tmp rfl)) (congrArg (AV.f .f64) hx4)) ?_
        refine ROps.l (r := AV.f64 x2) rfl rfl rfl (LOp.assign rfl rfl) ?_
        refine ROps.nil ?_
        exact ⟨x2, ⟨(ALe.refl _), trivial⟩, trivial, h⟩
      · refine RunC.regionW ?_
        refine ROps.l (r := AV.i64 a1) rfl rfl rfl (LOp.move rfl rfl) ?_
        refine ROps.l (r := AV.b false) rfl rfl rfl (LOp.eqb (LOp.lss rfl rfl rfl) hc3) ?_
        refine ROps.nil ?_
        refine RunC.cond_false rfl rfl ?_
        refine RunC.skip ?_
        exact ⟨a0, ⟨(ALe.refl _), trivial⟩, trivial, h⟩
  · rintro τ2 Γ2 ⟨y3, hw2, hd2, h⟩
    refine RunC.wl (τ' := [(0, AV.f64 y3)]) (Γ' := []) hw2 hd2 ?_
    unfold x_math_IsInf_k1 at h
    refine RunC.seq ?_
    refine RunC.regionW ?_
    refine ROps.l (r := AV.f64 y3) rfl rfl rfl (LOp.move rfl rfl) ?_
    refine ROps.l (r := AV.b (flt .f64 (some 9218868437227405311) y3)) rfl rfl rfl (LOp.fgt rfl (OpF.tmp rfl) (OpF.const rfl (by kernel_rfl) (by kernel_rfl))) ?_
    refine ROps.l (r := AV.b (flt .f64 (some 9218868437227405311) y3)) rfl rfl rfl (LOp.assign rfl rfl) ?_
    refine ROps.nil ?_
    refine RunC.ret ?_
    have hq := Option.some.inj h
    subst q0
    exact bodyQ.pure (.inr rfl) rfl (Res.one rfl (RV.tmp rfl))
noncomputable def i_isFinite64 (a0 : F) : Option (Bool) :=
  obind (x_math_IsNaN a0) fun (r1 : Bool) =>
  bsel r1 (
    some false) (
    obind (x_math_IsInf a0 0) fun (r2 : Bool) =>
    some (!r2))
theorem i_isFinite64_ok (a0 : F) (q0 : Bool) (h : i_isFinite64 a0 = some q0) : Ev Try.prog 90 [AV.f64 a0] [] (AV.b q0) [] := by
  refine Ev.start Try.func90 rfl rfl 0 (τ := [(0, AV.f64 a0)]) rfl (Γ' := []) rfl (n := 11) rfl (g := 0) rfl ?_
  unfold i_isFinite64 at h
  refine RunC.seq ?_
  refine RunC.regionW ?_
  refine ROps.l (r := AV.b false) rfl rfl rfl (LOp.assign rfl rfl) ?_
  refine ROps.nil ?_
  refine RunC.seq ?_
  obtain ⟨r1, hf1, h⟩ := obind_some h
  rcases bsel_some h with ⟨hc2, h⟩ | ⟨hc2, h⟩
  · refine RunC.regionW ?_
    refine ROps.l (r := AV.f64 a0) rfl rfl rfl (LOp.move rfl rfl) ?_
    refine ROps.d (r := AV.b true) (fs := []) (Γ' := []) rfl rfl rfl (TOp.eqb (TOp.callB (CallAs.func ent114 rfl rfl) (Bors.cons (Bor.pure rfl) Bors.nil) rfl rfl (x_math_IsNaN_ok a0 r1 hf1)) hc2) rfl ?_
    refine ROps.l (r := AV.b false) rfl rfl rfl (LOp.eqb (LOp.not rfl rfl) rfl) ?_
    refine ROps.l (r := AV.b false) rfl rfl rfl (LOp.move rfl rfl) ?_
    refine ROps.s rfl rfl rfl ?_
    refine ROps.s rfl rfl rfl ?_
    refine ROps.s rfl rfl rfl ?_
    refine ROps.l (r := AV.b false) rfl rfl rfl (LOp.pick_false rfl rfl rfl) ?_
    refine ROps.l (r := AV.b false) rfl rfl rfl (LOp.assign rfl rfl) ?_
    refine ROps.nil ?_
    refine RunC.ret ?_
    have hq := Option.some.inj h
    subst q0
    exact bodyQ.pure (.inr rfl) rfl (Res.one rfl (RV.tmp rfl))
  · obtain ⟨r2, hf3, h⟩ := obind_some h
    refine RunC.regionW ?_
    refine ROps.l (r := AV.f64 a0) rfl rfl rfl (LOp.move rfl rfl) ?_
    refine ROps.d (r := AV.b false) (fs := []) (Γ' := []) rfl rfl rfl (TOp.eqb (TOp.callB (CallAs.func ent114 rfl rfl) (Bors.cons (Bor.pure rfl) Bors.nil) rfl rfl (x_math_IsNaN_ok a0 r1 hf1)) hc2) rfl ?_
    refine ROps.l (r := AV.b true) rfl rfl rfl (LOp.eqb (LOp.not rfl rfl) rfl) ?_
    refine ROps.l (r := AV.b true) rfl rfl rfl (LOp.move rfl rfl) ?_
    refine ROps.l (r := AV.f64 a0) rfl rfl rfl (LOp.move rfl rfl) ?_
    refine ROps.d (r := AV.b r2) (fs := []) (Γ' := []) rfl rfl rfl (TOp.callB (CallAs.func ent115 rfl rfl) (Bors.cons (Bor.pure rfl) (Bors.cons (Bor.pure rfl) Bors.nil)) rfl rfl (x_math_IsInf_ok a0 0 r2 hf3)) rfl ?_
    refine ROps.l (r := AV.b (!r2)) rfl rfl rfl (LOp.not rfl rfl) ?_
    refine ROps.l (r := AV.b (!r2)) rfl rfl rfl (LOp.pick_true rfl rfl rfl) ?_
    refine ROps.l (r := AV.b (!r2)) rfl rfl rfl (LOp.assign rfl rfl) ?_
    refine ROps.nil ?_
    refine RunC.ret ?_
    have hq := Option.some.inj h
    subst q0
    exact bodyQ.pure (.inr rfl) rfl (Res.one rfl (RV.tmp rfl))
noncomputable def i_IsFinite (a0 : F) : Option (Bool) :=
  olet (fwiden a0) fun (x1 : F) =>
  obind (i_isFinite64 x1) fun (r2 : Bool) =>
  some r2
theorem i_IsFinite_ok (a0 : F) (q0 : Bool) (h : i_IsFinite a0 = some q0) : Ev Try.prog 46 [AV.f32 a0] [] (AV.b q0) [] := by
  refine Ev.start Try.func46 rfl rfl 0 (τ := [(0, AV.f32 a0)]) rfl (Γ' := []) rfl (n := 6) rfl (g := 0) rfl ?_
  unfold i_IsFinite at h
  refine RunC.seq ?_
  refine RunC.regionW ?_
  refine ROps.l (r := AV.b false) rfl rfl rfl (LOp.assign rfl rfl) ?_
  refine ROps.nil ?_
  refine RunC.seq ?_
  obtain ⟨x1, hx1, h⟩ := olet_some h
  obtain ⟨r2, hf2, h⟩ := obind_some h
  refine RunC.regionW ?_
  refine ROps.l (r := AV.f32 a0) rfl rfl rfl (LOp.move rfl rfl) ?_
  refine ROps.d (r := AV.f64 x1) (fs := []) (Γ' := []) rfl rfl rfl (TOp.eqr (TOp.widen (src := 25) (dst := 40) ⟨_, pun25⟩ pun40 rfl (OpF.tmp rfl)) (congrArg (AV.f .f64) hx1)) rfl ?_
  refine ROps.d (r := AV.b r2) (fs := []) (Γ' := []) rfl rfl rfl (TOp.callB (CallAs.func ent90 rfl rfl) (Bors.cons (Bor.pure rfl) Bors.nil) rfl rfl (i_isFinite64_ok x1 r2 hf2)) rfl ?_
  refine ROps.l (r := AV.b r2) rfl rfl rfl (LOp.assign rfl rfl) ?_
  refine ROps.nil ?_
  refine RunC.ret ?_
  have hq := Option.some.inj h
  subst q0
  exact bodyQ.pure (.inr rfl) rfl (Res.one rfl (RV.tmp rfl))
noncomputable def i_areFinite_1 (a0 : F) : Option (Bool) :=
  obind (i_IsFinite a0) fun (r1 : Bool) =>
  some (!r1)
theorem i_areFinite_1_ok (a0 : F) (q0 : Bool) (h : i_areFinite_1 a0 = some q0) : Ev Try.prog 113 [AV.f32 a0] [] (AV.b q0) [] := by
  refine Ev.start Try.func113 rfl rfl 0 (τ := [(0, AV.f32 a0)]) rfl (Γ' := []) rfl (n := 6) rfl (g := 0) rfl ?_
  unfold i_areFinite_1 at h
  refine RunC.seq ?_
  refine RunC.regionW ?_
  refine ROps.l (r := AV.b false) rfl rfl rfl (LOp.assign rfl rfl) ?_
  refine ROps.nil ?_
  refine RunC.seq ?_
  obtain ⟨r1, hf1, h⟩ := obind_some h
  refine RunC.regionW ?_
  refine ROps.l (r := AV.f32 a0) rfl rfl rfl (LOp.move rfl rfl) ?_
  refine ROps.d (r := AV.b r1) (fs := []) (Γ' := []) rfl rfl rfl (TOp.callB (CallAs.func ent46 rfl rfl) (Bors.cons (Bor.pure rfl) Bors.nil) rfl rfl (i_IsFinite_ok a0 r1 hf1)) rfl ?_
  refine ROps.l (r := AV.b (!r1)) rfl rfl rfl (LOp.not rfl rfl) ?_
  refine ROps.l (r := AV.b (!r1)) rfl rfl rfl (LOp.assign rfl rfl) ?_
  refine ROps.nil ?_
  refine RunC.ret ?_
  have hq := Option.some.inj h
  subst q0
  exact bodyQ.pure (.inr rfl) rfl (Res.one rfl (RV.tmp rfl))
noncomputable def x_slices_IndexFunc_float32_float32_1Fi_areFinite_1_b1 (a0 : List F) (v1 : Int) : Option (LR (Int) (Unit) (Int)) :=
  bsel (decide (v1 < (a0.length : Int))) (
    obind (at? a0 v1) fun (e2 : F) =>
    obind (i_areFinite_1 e2) fun (r3 : Bool) =>
    bsel r3 (
      some (LR.ret v1)) (
      olet (IntKind.i64.wrap (v1 + 1)) fun (x4 : Int) =>
      some (LR.next x4))) (
    some (LR.out ()))
noncomputable def x_slices_IndexFunc_float32_float32_1Fi_areFinite_1_s1 (a0 : List F) : (Int) → Option (LR (Int) (Unit) (Int)) := fun s => x_slices_IndexFunc_float32_float32_1Fi_areFinite_1_b1 a0 s
noncomputable def x_slices_IndexFunc_float32_float32_1Fi_areFinite_1_k1  : Option (Int) :=
  some (-1)
noncomputable def x_slices_IndexFunc_float32_float32_1Fi_areFinite_1 (a0 : List F) : Option (Int) :=
  obind (loopM (x_slices_IndexFunc_float32_float32_1Fi_areFinite_1_s1 a0) 0) fun z => osum z (fun _ => x_slices_IndexFunc_float32_float32_1Fi_areFinite_1_k1) (fun r => some r)
theorem x_slices_IndexFunc_float32_float32_1Fi_areFinite_1_ok (a0 : List F) (q0 : Int) (h : x_slices_IndexFunc_float32_float32_1Fi_areFinite_1 a0 = some q0) : Ev Try.prog 122 [AV.sl a0.length (a0.map AV.f32), AV.fn (.func 113) [] []] [] (AV.i64 q0) [] := by
  refine Ev.start Try.func122 rfl rfl 0 (τ := [(0, AV.sl a0.length (a0.map AV.f32)), (1, AV.fn (.func 113) [] [])]) rfl (Γ' := []) rfl (n := 19) rfl (g := 0) rfl ?_
  unfold x_slices_IndexFunc_float32_float32_1Fi_areFinite_1 at h
  refine RunC.seq ?_
  refine RunC.regionW ?_
  refine ROps.l (r := AV.i64 0) rfl rfl rfl (LOp.assign rfl rfl) ?_
  refine ROps.nil ?_
  refine RunC.seq ?_
  refine RunC.seq ?_
  refine RunC.regionW ?_
  refine ROps.l (r := AV.sl a0.length (a0.map AV.f32)) rfl rfl rfl (LOp.move rfl rfl) ?_
  refine ROps.l (r := AV.i64 (a0.length : Int)) rfl rfl rfl (LOp.len_sl und22 rfl rfl) ?_
  refine ROps.l (r := AV.i64 0) rfl rfl rfl (LOp.move rfl rfl) ?_
  refine ROps.nil ?_
  obtain ⟨z2, hz_2, h⟩ := obind_some h
  refine RunC.cutN (fun τ Γ => WeakLe τ [] ∧ DeadLe Γ [] ∧ z2 = .inl ()) ?_ ?_
  · refine RunC.block (RunC.loop (RunL.loopM (x := z2) (x_slices_IndexFunc_float32_float32_1Fi_areFinite_1_s1 a0) (fun (s : Int) τ Γ => WeakLe τ [(0, AV.sl a0.length (a0.map AV.f32)), (1, AV.fn (.func 113) [] []), (7, AV.i64 (a0.length : Int)), (8, AV.i64 s)] ∧ DeadLe Γ []) ?_ _ _ _ hz_2 ⟨⟨(ALe.refl _), (ALe.refl _), (ALe.refl _), (ALe.refl _), trivial⟩, trivial⟩))
    rintro v1 τ2 Γ2 y2_ ⟨hw2, hd2⟩ h2_ ho2 hr2
    refine RunC.wl (τ' := [(0, AV.sl a0.length (a0.map AV.f32)), (1, AV.fn (.func 113) [] []), (7, AV.i64 (a0.length : Int)), (8, AV.i64 v1)]) (Γ' := []) hw2 hd2 ?_
    replace h2_ : x_slices_IndexFunc_float32_float32_1Fi_areFinite_1_b1 a0 v1 = some y2_ := h2_
    unfold x_slices_IndexFunc_float32_float32_1Fi_areFinite_1_b1 at h2_
    refine RunC.seq ?_
    rcases bsel_some h2_ with ⟨hc1, h2_⟩ | ⟨hc1, h2_⟩
    · refine RunC.regionW ?_
      refine ROps.l (r := AV.b true) rfl rfl rfl (LOp.eqb (LOp.lss rfl rfl rfl) hc1) ?_
      refine ROps.nil ?_
      refine RunC.seq ?_
      refine RunC.cond_true rfl rfl ?_
      refine RunC.skip ?_
      refine RunC.seq ?_
      refine RunC.block ?_
      refine RunC.seq ?_
      refine RunC.regionW ?_
      refine ROps.l (r := AV.i64 v1) rfl rfl rfl (LOp.move rfl rfl) ?_
      refine ROps.l (r := AV.i64 v1) rfl rfl rfl (LOp.assign rfl rfl) ?_
      refine ROps.nil ?_
      refine RunC.seq ?_
      obtain ⟨e2, he2, h2_⟩ := obind_some h2_
      obtain ⟨r3, hf3, h2_⟩ := obind_some h2_
      rcases bsel_some h2_ with ⟨hc4, h2_⟩ | ⟨hc4, h2_⟩
      · refine RunC.regionW ?_
        refine ROps.l (r := AV.fn (.func 113) [] []) rfl rfl rfl (LOp.move rfl rfl) ?_
        refine ROps.l (r := AV.sl a0.length (a0.map AV.f32)) rfl rfl rfl (LOp.move rfl rfl) ?_
        refine ROps.l (r := AV.i64 v1) rfl rfl rfl (LOp.move rfl rfl) ?_
        refine ROps.l (r := AV.ptr [AV.f32 e2]) rfl rfl rfl (LOp.le (LOp.ix (f := AV.f32) und22 siz25 rfl rfl rfl rfl he2) ALe.ptr) ?_
        refine ROps.l (r := AV.f32 e2) rfl rfl rfl (LOp.load1 agg25 rfl rfl) ?_
        refine ROps.d (r := AV.b true) (fs := []) (Γ' := []) rfl rfl rfl (TOp.eqb (TOp.callB (CallAs.fn ent113 rfl rfl rfl rfl) (Bors.cons (Bor.pure rfl) Bors.nil) rfl rfl (i_areFinite_1_ok e2 r3 hf3)) hc4) rfl ?_
        refine ROps.nil ?_
        refine RunC.cond_true rfl rfl ?_
        refine RunC.seq ?_
        refine RunC.regionW ?_
        refine ROps.l (r := AV.i64 v1) rfl rfl rfl (LOp.move rfl rfl) ?_
        refine ROps.l (r := AV.i64 v1) rfl rfl rfl (LOp.assign rfl rfl) ?_
        refine ROps.nil ?_
        refine RunC.ret ?_
        cases Option.some.inj h2_
        have hx3_ := hr2 _ rfl
        subst hx3_
        have hq := Option.some.inj h
        subst q0
        exact bodyQ.pure (.inr rfl) rfl (Res.one rfl (RV.tmp rfl))
      · refine RunC.regionW ?_
        refine ROps.l (r := AV.fn (.func 113) [] []) rfl rfl rfl (LOp.move rfl rfl) ?_
        refine ROps.l (r := AV.sl a0.length (a0.map AV.f32)) rfl rfl rfl (LOp.move rfl rfl) ?_
        refine ROps.l (r := AV.i64 v1) rfl rfl rfl (LOp.move rfl rfl) ?_
        refine ROps.l (r := AV.ptr [AV.f32 e2]) rfl rfl rfl (LOp.le (LOp.ix (f := AV.f32) und22 siz25 rfl rfl rfl rfl he2) ALe.ptr) ?_
        refine ROps.l (r := AV.f32 e2) rfl rfl rfl (LOp.load1 agg25 rfl rfl) ?_
        refine ROps.d (r := AV.b false) (fs := []) (Γ' := []) rfl rfl rfl (TOp.eqb (TOp.callB (CallAs.fn ent113 rfl rfl rfl rfl) (Bors.cons (Bor.pure rfl) Bors.nil) rfl rfl (i_areFinite_1_ok e2 r3 hf3)) hc4) rfl ?_
        refine ROps.nil ?_
        refine RunC.cond_false rfl rfl ?_
        refine RunC.skip ?_
        obtain ⟨x4, hx5, h2_⟩ := olet_some h2_
        refine RunC.regionW ?_
        refine ROps.l (r := AV.i64 x4) rfl rfl rfl (LOp.eqr (LOp.add rfl rfl rfl) (congrArg (AV.ik .i64) hx5)) ?_
        refine ROps.l (r := AV.i64 x4) rfl rfl rfl (LOp.move rfl rfl) ?_
        refine ROps.nil ?_
        cases Option.some.inj h2_
        exact ⟨_, rfl, ⟨(ALe.refl _), (ALe.refl _), (ALe.refl _), (ALe.refl _), trivial⟩, trivial⟩
    · refine RunC.regionW ?_
      refine ROps.l (r := AV.b false) rfl rfl rfl (LOp.eqb (LOp.lss rfl rfl rfl) hc1) ?_
      refine ROps.nil ?_
      refine RunC.seq ?_
      refine RunC.cond_false rfl rfl ?_
      refine RunC.exit ?_
      cases Option.some.inj h2_
      have hx := ho2 _ rfl
      exact ⟨trivial, trivial, hx⟩
  · rintro τ4 Γ4 ⟨hw4, hd4, rfl⟩
    refine RunC.wl (τ' := []) (Γ' := []) hw4 hd4 ?_
    replace h : x_slices_IndexFunc_float32_float32_1Fi_areFinite_1_k1 = some q0 := h
    unfold x_slices_IndexFunc_float32_float32_1Fi_areFinite_1_k1 at h
    refine RunC.seq ?_
    refine RunC.regionW ?_
    refine ROps.l (r := AV.i64 (-1)) rfl rfl rfl (LOp.assign rfl rfl) ?_
    refine ROps.nil ?_
    refine RunC.ret ?_
    have hq := Option.some.inj h
    subst q0
    exact bodyQ.pure (.inr rfl) rfl (Res.one rfl (RV.tmp rfl))
noncomputable def x_slices_ContainsFunc_float32_float32_1Fi_areFinite_1 (a0 : List F) : Option (Bool) :=
  obind (x_slices_IndexFunc_float32_float32_1Fi_areFinite_1 a0) fun (r1 : Int) =>
  some (decide (0 ≤ r1))
theorem x_slices_ContainsFunc_float32_float32_1Fi_areFinite_1_ok (a0 : List F) (q0 : Bool) (h : x_slices_ContainsFunc_float32_float32_1Fi_areFinite_1 a0 = some q0) : Ev Try.prog 112 [AV.sl a0.length (a0.map AV.f32), AV.fn (.func 113) [] []] [] (AV.b q0) [] := by
  refine Ev.start Try.func112 rfl rfl 0 (τ := [(0, AV.sl a0.length (a0.map AV.f32)), (1, AV.fn (.func 113) [] [])]) rfl (Γ' := []) rfl (n := 9) rfl (g := 0) rfl ?_
  unfold x_slices_ContainsFunc_float32_float32_1Fi_areFinite_1 at h
  refine RunC.seq ?_
  refine RunC.regionW ?_
  refine ROps.l (r := AV.b false) rfl rfl rfl (LOp.assign rfl rfl) ?_
  refine ROps.nil ?_
  refine RunC.seq ?_
  obtain ⟨r1, hf1, h⟩ := obind_some h
  refine RunC.regionW ?_
  refine ROps.l (r := AV.sl a0.length (a0.map AV.f32)) rfl rfl rfl (LOp.move rfl rfl) ?_
  refine ROps.l (r := AV.fn (.func 113) [] []) rfl rfl rfl (LOp.move rfl rfl) ?_
  refine ROps.d (r := AV.i64 r1) (fs := []) (Γ' := []) rfl rfl rfl (TOp.callB (CallAs.func ent122 rfl rfl) (Bors.cons (Bor.sl (fun _ => rfl)) (Bors.cons (Bor.fn Bors.nil Bors.nil) Bors.nil)) rfl rfl (x_slices_IndexFunc_float32_float32_1Fi_areFinite_1_ok a0 r1 hf1)) rfl ?_
  refine ROps.l (r := AV.b (decide (0 ≤ r1))) rfl rfl rfl (LOp.geq rfl rfl rfl) ?_
  refine ROps.l (r := AV.b (decide (0 ≤ r1))) rfl rfl rfl (LOp.assign rfl rfl) ?_
  refine ROps.nil ?_
  refine RunC.ret ?_
  have hq := Option.some.inj h
  subst q0
  exact bodyQ.pure (.inr rfl) rfl (Res.one rfl (RV.tmp rfl))
noncomputable def i_areFinite (a0 : List F) : Option (Bool) :=
  obind (x_slices_ContainsFunc_float32_float32_1Fi_areFinite_1 a0) fun (r1 : Bool) =>
  some (!r1)
theorem i_areFinite_ok (a0 : List F) (q0 : Bool) (h : i_areFinite a0 = some q0) : Ev Try.prog 84 [AV.sl a0.length (a0.map AV.f32)] [] (AV.b q0) [] := by
  refine Ev.start Try.func84 rfl rfl 0 (τ := [(0, AV.sl a0.length (a0.map AV.f32))]) rfl (Γ' := []) rfl (n := 6) rfl (g := 0) rfl ?_
  unfold i_areFinite at h
  refine RunC.seq ?_
  refine RunC.regionW ?_
  refine ROps.l (r := AV.b false) rfl rfl rfl (LOp.assign rfl rfl) ?_
  refine ROps.nil ?_
  refine RunC.seq ?_
  obtain ⟨r1, hf1, h⟩ := obind_some h
  refine RunC.regionW ?_
  refine ROps.l (r := AV.sl a0.length (a0.map AV.f32)) rfl rfl rfl (LOp.move rfl rfl) ?_
  refine ROps.d (r := AV.b r1) (fs := []) (Γ' := []) rfl rfl rfl (TOp.callB (CallAs.func ent112 rfl rfl) (Bors.cons (Bor.sl (fun _ => rfl)) (Bors.cons (Bor.fn Bors.nil Bors.nil) Bors.nil)) rfl rfl (x_slices_ContainsFunc_float32_float32_1Fi_areFinite_1_ok a0 r1 hf1)) rfl ?_
  refine ROps.l (r := AV.b (!r1)) rfl rfl rfl (LOp.not rfl rfl) ?_
  refine ROps.l (r := AV.b (!r1)) rfl rfl rfl (LOp.assign rfl rfl) ?_
  refine ROps.nil ?_
  refine RunC.ret ?_
  have hq := Option.some.inj h
  subst q0
  exact bodyQ.pure (.inr rfl) rfl (Res.one rfl (RV.tmp rfl))
noncomputable def i_ValidMatrix (a0 : Int) (a1 : Int) (a2 : List F) : Option (Bool) :=
  obind (i_isSide a0) fun (r1 : Bool) =>
  bsel r1 (
    obind (i_isSide a1) fun (r2 : Bool) =>
    bsel r2 (
      obind (i_length_float32 a2) fun (r3 : Int) =>
      olet (IntKind.i64.wrap (a0 * a1)) fun (x4 : Int) =>
      bsel (decide (r3 = x4)) (
        obind (i_areFinite a2) fun (r5 : Bool) =>
        some r5) (
        some false)) (
      some false)) (
    some false)
theorem i_ValidMatrix_ok (a0 : Int) (a1 : Int) (a2 : List F) (q0 : Bool) (h : i_ValidMatrix a0 a1 a2 = some q0) : Ev Try.prog 45 [AV.agg [AV.i64 a0, AV.i64 a1, AV.sl a2.length (a2.map AV.f32)]] [] (AV.b q0) [] := by
  refine Ev.start Try.func45 rfl rfl 0 (τ := [(0, AV.agg [AV.i64 a0, AV.i64 a1, AV.sl a2.length (a2.map AV.f32)])]) rfl (Γ' := []) rfl (n := 27) rfl (g := 0) rfl ?_
  unfold i_ValidMatrix at h
  refine RunC.seq ?_
  refine RunC.regionW ?_
  refine ROps.d (r := AV.ptr [AV.i64 a0, AV.i64 a1, AV.sl a2.length (a2.map AV.f32)]) (fs := []) (Γ' := []) rfl rfl rfl (TOp.box_s rfl rfl rfl) rfl ?_
  refine ROps.l (r := AV.b false) rfl rfl rfl (LOp.assign rfl rfl) ?_
  refine ROps.nil ?_
  refine RunC.seq ?_
  obtain ⟨r1, hf1, h⟩ := obind_some h
  rcases bsel_some h with ⟨hc2, h⟩ | ⟨hc2, h⟩
  · obtain ⟨r2, hf3, h⟩ := obind_some h
    rcases bsel_some h with ⟨hc4, h⟩ | ⟨hc4, h⟩
    · obtain ⟨r3, hf5, h⟩ := obind_some h
      obtain ⟨x4, hx6, h⟩ := olet_some h
      rcases bsel_some h with ⟨hc7, h⟩ | ⟨hc7, h⟩
      · obtain ⟨r5, hf8, h⟩ := obind_some h
        refine RunC.region_draw (Γ' := []) 25 mixed 
          (TR.l (r := AV.ptr [AV.i64 a0, AV.i64 a1, AV.sl a2.length (a2.map AV.f32)]) rfl rfl (LOp.fap und27 rfl siz2 rfl rfl rfl) <|
          (TR.l (r := AV.i64 a0) rfl rfl (LOp.load1 agg2 rfl rfl) <|
          (TR.d (r := AV.b true) (fs := []) rfl rfl (TOp.eqb (TOp.callB (CallAs.func ent47 rfl rfl) (Bors.cons (Bor.pure rfl) Bors.nil) rfl rfl (i_isSide_ok a0 r1 hf1)) hc2) <|
          (TR.l (r := AV.b true) rfl rfl (LOp.move rfl rfl) <|
          (TR.l (r := AV.ptr [AV.i64 a1, AV.sl a2.length (a2.map AV.f32)]) rfl rfl (LOp.fap und27 rfl siz2 rfl rfl rfl) <|
          (TR.l (r := AV.i64 a1) rfl rfl (LOp.load1 agg2 rfl rfl) <|
          (TR.d (r := AV.b true) (fs := []) rfl rfl (TOp.eqb (TOp.callB (CallAs.func ent47 rfl rfl) (Bors.cons (Bor.pure rfl) Bors.nil) rfl rfl (i_isSide_ok a1 r2 hf3)) hc4) <|
          (TR.l (r := AV.b true) rfl rfl (LOp.pick_true rfl rfl rfl) <|
          (TR.l (r := AV.b true) rfl rfl (LOp.move rfl rfl) <|
          (TR.l (r := AV.ptr [AV.sl a2.length (a2.map AV.f32)]) rfl rfl (LOp.fap und27 rfl siz22 rfl rfl rfl) <|
          (TR.l (r := AV.sl a2.length (a2.map AV.f32)) rfl rfl (LOp.load1 agg22 rfl rfl) <|
          (TR.d (r := AV.i64 r3) (fs := []) rfl rfl (TOp.callB (CallAs.func ent89 rfl rfl) (Bors.cons (Bor.sl (fun _ => rfl)) Bors.nil) rfl rfl (i_length_float32_ok a2 r3 hf5)) <|
          (TR.l (r := AV.ptr [AV.i64 a0, AV.i64 a1, AV.sl a2.length (a2.map AV.f32)]) rfl rfl (LOp.fap und27 rfl siz2 rfl rfl rfl) <|
          (TR.l (r := AV.i64 a0) rfl rfl (LOp.load1 agg2 rfl rfl) <|
          (TR.l (r := AV.ptr [AV.i64 a1, AV.sl a2.length (a2.map AV.f32)]) rfl rfl (LOp.fap und27 rfl siz2 rfl rfl rfl) <|
          (TR.l (r := AV.i64 a1) rfl rfl (LOp.load1 agg2 rfl rfl) <|
          (TR.l (r := AV.i64 x4) rfl rfl (LOp.eqr (LOp.mul rfl rfl rfl) (congrArg (AV.ik .i64) hx6)) <|
          (TR.l (r := AV.b true) rfl rfl (LOp.eqb (LOp.eql rfl rfl rfl) hc7) <|
          (TR.l (r := AV.b true) rfl rfl (LOp.pick_true rfl rfl rfl) <|
          (TR.l (r := AV.b true) rfl rfl (LOp.move rfl rfl) <|
          (TR.l (r := AV.ptr [AV.sl a2.length (a2.map AV.f32)]) rfl rfl (LOp.fap und27 rfl siz22 rfl rfl rfl) <|
          (TR.l (r := AV.sl a2.length (a2.map AV.f32)) rfl rfl (LOp.load1 agg22 rfl rfl) <|
          (TR.d (r := AV.b r5) (fs := []) rfl rfl (TOp.callB (CallAs.func ent84 rfl rfl) (Bors.cons (Bor.sl (fun _ => rfl)) Bors.nil) rfl rfl (i_areFinite_ok a2 r5 hf8)) <|
          (TR.l (r := AV.b r5) rfl rfl (LOp.pick_true rfl rfl rfl) <|
          (TR.l (r := AV.b r5) rfl rfl (LOp.assign rfl rfl) <|
          TR.nil))))))))))))))))))))))))) rfl (by kernel_rfl) rfl fills_nil rfl ?_
        iterate 25 refine ROps.dropS ?_
        refine ROps.drop0 ?_
        refine ROps.nil ?_
        refine RunC.ret ?_
        have hq := Option.some.inj h
        subst q0
        exact bodyQ.pure (.inr rfl) rfl (Res.one rfl (RV.tmp rfl))
      · refine RunC.region_draw (Γ' := []) 25 mixed 
          (TR.l (r := AV.ptr [AV.i64 a0, AV.i64 a1, AV.sl a2.length (a2.map AV.f32)]) rfl rfl (LOp.fap und27 rfl siz2 rfl rfl rfl) <|
          (TR.l (r := AV.i64 a0) rfl rfl (LOp.load1 agg2 rfl rfl) <|
          (TR.d (r := AV.b true) (fs := []) rfl rfl (TOp.eqb (TOp.callB (CallAs.func ent47 rfl rfl) (Bors.cons (Bor.pure rfl) Bors.nil) rfl rfl (i_isSide_ok a0 r1 hf1)) hc2) <|
          (TR.l (r := AV.b true) rfl rfl (LOp.move rfl rfl) <|
          (TR.l (r := AV.ptr [AV.i64 a1, AV.sl a2.length (a2.map AV.f32)]) rfl rfl (LOp.fap und27 rfl siz2 rfl rfl rfl) <|
          (TR.l (r := AV.i64 a1) rfl rfl (LOp.load1 agg2 rfl rfl) <|
          (TR.d (r := AV.b true) (fs := []) rfl rfl (TOp.eqb (TOp.callB (CallAs.func ent47 rfl rfl) (Bors.cons (Bor.pure rfl) Bors.nil) rfl rfl (i_isSide_ok a1 r2 hf3)) hc4) <|
          (TR.l (r := AV.b true) rfl rfl (LOp.pick_true rfl rfl rfl) <|
          (TR.l (r := AV.b true) rfl rfl (LOp.move rfl rfl) <|
          (TR.l (r := AV.ptr [AV.sl a2.length (a2.map AV.f32)]) rfl rfl (LOp.fap und27 rfl siz22 rfl rfl rfl) <|
          (TR.l (r := AV.sl a2.length (a2.map AV.f32)) rfl rfl (LOp.load1 agg22 rfl rfl) <|
          (TR.d (r := AV.i64 r3) (fs := []) rfl rfl (TOp.callB (CallAs.func ent89 rfl rfl) (Bors.cons (Bor.sl (fun _ => rfl)) Bors.nil) rfl rfl (i_length_float32_ok a2 r3 hf5)) <|
          (TR.l (r := AV.ptr [AV.i64 a0, AV.i64 a1, AV.sl a2.length (a2.map AV.f32)]) rfl rfl (LOp.fap und27 rfl siz2 rfl rfl rfl) <|
          (TR.l (r := AV.i64 a0) rfl rfl (LOp.load1 agg2 rfl rfl) <|
          (TR.l (r := AV.ptr [AV.i64 a1, AV.sl a2.length (a2.map AV.f32)]) rfl rfl (LOp.fap und27 rfl siz2 rfl rfl rfl) <|
          (TR.l (r := AV.i64 a1) rfl rfl (LOp.load1 agg2 rfl rfl) <|
          (TR.l (r := AV.i64 x4) rfl rfl (LOp.eqr (LOp.mul rfl rfl rfl) (congrArg (AV.ik .i64) hx6)) <|
          (TR.l (r := AV.b false) rfl rfl (LOp.eqb (LOp.eql rfl rfl rfl) hc7) <|
          (TR.l (r := AV.b false) rfl rfl (LOp.pick_true rfl rfl rfl) <|
          (TR.l (r := AV.b false) rfl rfl (LOp.move rfl rfl) <|
          (TR.s rfl rfl <|
          (TR.s rfl rfl <|
          (TR.s rfl rfl <|
          (TR.l (r := AV.b false) rfl rfl (LOp.pick_false rfl rfl rfl) <|
          (TR.l (r := AV.b false) rfl rfl (LOp.assign rfl rfl) <|
          TR.nil))))))))))))))))))))))))) rfl (by kernel_rfl) rfl fills_nil rfl ?_
        iterate 25 refine ROps.dropS ?_
        refine ROps.drop0 ?_
        refine ROps.nil ?_
        refine RunC.ret ?_
        have hq := Option.some.inj h
        subst q0
        exact bodyQ.pure (.inr rfl) rfl (Res.one rfl (RV.tmp rfl))
    · refine RunC.region_draw (Γ' := []) 25 mixed 
        (TR.l (r := AV.ptr [AV.i64 a0, AV.i64 a1, AV.sl a2.length (a2.map AV.f32)]) rfl rfl (LOp.fap und27 rfl siz2 rfl rfl rfl) <|
        (TR.l (r := AV.i64 a0) rfl rfl (LOp.load1 agg2 rfl rfl) <|
        (TR.d (r := AV.b true) (fs := []) rfl rfl (TOp.eqb (TOp.callB (CallAs.func ent47 rfl rfl) (Bors.cons (Bor.pure rfl) Bors.nil) rfl rfl (i_isSide_ok a0 r1 hf1)) hc2) <|
        (TR.l (r := AV.b true) rfl rfl (LOp.move rfl rfl) <|
        (TR.l (r := AV.ptr [AV.i64 a1, AV.sl a2.length (a2.map AV.f32)]) rfl rfl (LOp.fap und27 rfl siz2 rfl rfl rfl) <|
        (TR.l (r := AV.i64 a1) rfl rfl (LOp.load1 agg2 rfl rfl) <|
        (TR.d (r := AV.b false) (fs := []) rfl rfl (TOp.eqb (TOp.callB (CallAs.func ent47 rfl rfl) (Bors.cons (Bor.pure rfl) Bors.nil) rfl rfl (i_isSide_ok a1 r2 hf3)) hc4) <|
        (TR.l (r := AV.b false) rfl rfl (LOp.pick_true rfl rfl rfl) <|
        (TR.l (r := AV.b false) rfl rfl (LOp.move rfl rfl) <|
        (TR.s rfl rfl <|
        (TR.s rfl rfl <|
        (TR.s rfl rfl <|
        (TR.s rfl rfl <|
        (TR.s rfl rfl <|
        (TR.s rfl rfl <|
        (TR.s rfl rfl <|
        (TR.s rfl rfl <|
        (TR.s rfl rfl <|
        (TR.l (r := AV.b false) rfl rfl (LOp.pick_false rfl rfl rfl) <|
        (TR.l (r := AV.b false) rfl rfl (LOp.move rfl rfl) <|
        (TR.s rfl rfl <|
        (TR.s rfl rfl <|
        (TR.s rfl rfl <|
        (TR.l (r := AV.b false) rfl rfl (LOp.pick_false rfl rfl rfl) <|
        (TR.l (r := AV.b false) rfl rfl (LOp.assign rfl rfl) <|
        TR.nil))))))))))))))))))))))))) rfl (by kernel_rfl) rfl fills_nil rfl ?_
      iterate 25 refine ROps.dropS ?_
      refine ROps.drop0 ?_
      refine ROps.nil ?_
      refine RunC.ret ?_
      have hq := Option.some.inj h
      subst q0
      exact bodyQ.pure (.inr rfl) rfl (Res.one rfl (RV.tmp rfl))
  · refine RunC.region_draw (Γ' := []) 25 mixed 
      (TR.l (r := AV.ptr [AV.i64 a0, AV.i64 a1, AV.sl a2.length (a2.map AV.f32)]) rfl rfl (LOp.fap und27 rfl siz2 rfl rfl rfl) <|
      (TR.l (r := AV.i64 a0) rfl rfl (LOp.load1 agg2 rfl rfl) <|
      (TR.d (r := AV.b false) (fs := []) rfl rfl (TOp.eqb (TOp.callB (CallAs.func ent47 rfl rfl) (Bors.cons (Bor.pure rfl) Bors.nil) rfl rfl (i_isSide_ok a0 r1 hf1)) hc2) <|
      (TR.l (r := AV.b false) rfl rfl (LOp.move rfl rfl) <|
      (TR.s rfl rfl <|
      (TR.s rfl rfl <|
      (TR.s rfl rfl <|
      (TR.l (r := AV.b false) rfl rfl (LOp.pick_false rfl rfl rfl) <|
      (TR.l (r := AV.b false) rfl rfl (LOp.move rfl rfl) <|
      (TR.s rfl rfl <|
      (TR.s rfl rfl <|
      (TR.s rfl rfl <|
      (TR.s rfl rfl <|
      (TR.s rfl rfl <|
      (TR.s rfl rfl <|
      (TR.s rfl rfl <|
      (TR.s rfl rfl <|
      (TR.s rfl rfl <|
      (TR.l (r := AV.b false) rfl rfl (LOp.pick_false rfl rfl rfl) <|
      (TR.l (r := AV.b false) rfl rfl (LOp.move rfl rfl) <|
      (TR.s rfl rfl <|
      (TR.s rfl rfl <|
      (TR.s rfl rfl <|
      (TR.l (r := AV.b false) rfl rfl (LOp.pick_false rfl rfl rfl) <|
      (TR.l (r := AV.b false) rfl rfl (LOp.assign rfl rfl) <|
      TR.nil))))))))))))))))))))))))) rfl (by kernel_rfl) rfl fills_nil rfl ?_
    iterate 25 refine ROps.dropS ?_
    refine ROps.drop0 ?_
    refine ROps.nil ?_
    refine RunC.ret ?_
    have hq := Option.some.inj h
    subst q0
    exact bodyQ.pure (.inr rfl) rfl (Res.one rfl (RV.tmp rfl))
noncomputable def i_isSquare (a0 : Int) (a1 : Int) (a2 : List F) : Option (Bool) :=
  obind (i_ValidMatrix a0 a1 a2) fun (r1 : Bool) =>
  bsel r1 (
    some (decide (a0 = a1))) (
    some false)
theorem i_isSquare_ok (a0 : Int) (a1 : Int) (a2 : List F) (q0 : Bool) (h : i_isSquare a0 a1 a2 = some q0) : Ev Try.prog 59 [AV.agg [AV.i64 a0, AV.i64 a1, AV.sl a2.length (a2.map AV.f32)]] [] (AV.b q0) [] := by
  refine Ev.start Try.func59 rfl rfl 0 (τ := [(0, AV.agg [AV.i64 a0, AV.i64 a1, AV.sl a2.length (a2.map AV.f32)])]) rfl (Γ' := []) rfl (n := 12) rfl (g := 0) rfl ?_
  unfold i_isSquare at h
  refine RunC.seq ?_
  refine RunC.regionW ?_
  refine ROps.d (r := AV.ptr [AV.i64 a0, AV.i64 a1, AV.sl a2.length (a2.map AV.f32)]) (fs := []) (Γ' := []) rfl rfl rfl (TOp.box_s rfl rfl rfl) rfl ?_
  refine ROps.l (r := AV.b false) rfl rfl rfl (LOp.assign rfl rfl) ?_
  refine ROps.nil ?_
  refine RunC.seq ?_
  obtain ⟨r1, hf1, h⟩ := obind_some h
  rcases bsel_some h with ⟨hc2, h⟩ | ⟨hc2, h⟩
  · refine RunC.regionW ?_
    refine ROps.l (r := AV.agg [AV.i64 a0, AV.i64 a1, AV.sl a2.length (a2.map AV.f32)]) rfl rfl rfl (LOp.loadAgg agg27 siz27 rfl rfl rfl rfl) ?_
    refine ROps.d (r := AV.b true) (fs := []) (Γ' := []) rfl rfl rfl (TOp.eqb (TOp.callB (CallAs.func ent45 rfl rfl) (Bors.cons (Bor.agg (Bors.cons (Bor.pure rfl) (Bors.cons (Bor.pure rfl) (Bors.cons (Bor.sl (fun _ => rfl)) Bors.nil)))) Bors.nil) rfl rfl (i_ValidMatrix_ok a0 a1 a2 r1 hf1)) hc2) rfl ?_
    refine ROps.l (r := AV.b true) rfl rfl rfl (LOp.move rfl rfl) ?_
    refine ROps.l (r := AV.ptr [AV.i64 a0, AV.i64 a1, AV.sl a2.length (a2.map AV.f32)]) rfl rfl rfl (LOp.fap und27 rfl siz2 rfl rfl rfl) ?_
    refine ROps.l (r := AV.i64 a0) rfl rfl rfl (LOp.load1 agg2 rfl rfl) ?_
    refine ROps.l (r := AV.ptr [AV.i64 a1, AV.sl a2.length (a2.map AV.f32)]) rfl rfl rfl (LOp.fap und27 rfl siz2 rfl rfl rfl) ?_
    refine ROps.l (r := AV.i64 a1) rfl rfl rfl (LOp.load1 agg2 rfl rfl) ?_
    refine ROps.l (r := AV.b (decide (a0 = a1))) rfl rfl rfl (LOp.eql rfl rfl rfl) ?_
    refine ROps.l (r := AV.b (decide (a0 = a1))) rfl rfl rfl (LOp.pick_true rfl rfl rfl) ?_
    refine ROps.l (r := AV.b (decide (a0 = a1))) rfl rfl rfl (LOp.assign rfl rfl) ?_
    refine ROps.nil ?_
    refine RunC.ret ?_
    have hq := Option.some.inj h
    subst q0
    exact bodyQ.pure (.inr rfl) rfl (Res.one rfl (RV.tmp rfl))
  · refine RunC.regionW ?_
    refine ROps.l (r := AV.agg [AV.i64 a0, AV.i64 a1, AV.sl a2.length (a2.map AV.f32)]) rfl rfl rfl (LOp.loadAgg agg27 siz27 rfl rfl rfl rfl) ?_
    refine ROps.d (r := AV.b false) (fs := []) (Γ' := []) rfl rfl rfl (TOp.eqb (TOp.callB (CallAs.func ent45 rfl rfl) (Bors.cons (Bor.agg (Bors.cons (Bor.pure rfl) (Bors.cons (Bor.pure rfl) (Bors.cons (Bor.sl (fun _ => rfl)) Bors.nil)))) Bors.nil) rfl rfl (i_ValidMatrix_ok a0 a1 a2 r1 hf1)) hc2) rfl ?_
    refine ROps.l (r := AV.b false) rfl rfl rfl (LOp.move rfl rfl) ?_
    refine ROps.s rfl rfl rfl ?_
    refine ROps.s rfl rfl rfl ?_
    refine ROps.s rfl rfl rfl ?_
    refine ROps.s rfl rfl rfl ?_
    refine ROps.s rfl rfl rfl ?_
    refine ROps.l (r := AV.b false) rfl rfl rfl (LOp.pick_false rfl rfl rfl) ?_
    refine ROps.l (r := AV.b false) rfl rfl rfl (LOp.assign rfl rfl) ?_
    refine ROps.nil ?_
    refine RunC.ret ?_
    have hq := Option.some.inj h
    subst q0
    exact bodyQ.pure (.inr rfl) rfl (Res.one rfl (RV.tmp rfl))
noncomputable def x_slices_Clone_float32_float32 (a0 : List F) : Option ((List F)) :=
  need (apok 4 0 a0.length) <|
  some (([] : List F) ++ a0)
theorem x_slices_Clone_float32_float32_ok (a0 : List F) (q0 : List F) (h : x_slices_Clone_float32_float32 a0 = some q0) : Ev Try.prog 92 [AV.sl a0.length (a0.map AV.f32)] [] (AV.oref 0 0 0 q0.length) [⟨0, some (q0.map AV.f32)⟩] := by
  refine Ev.start Try.func92 rfl rfl 1 (τ := [(0, AV.sl a0.length (a0.map AV.f32))]) rfl (Γ' := [⟨0, none⟩]) rfl (n := 8) rfl (g := 0) rfl ?_
  unfold x_slices_Clone_float32_float32 at h
  refine RunC.seq ?_
  refine RunC.regionW ?_
  refine ROps.l (r := AV.nilsl) rfl rfl rfl (LOp.assign rfl rfl) ?_
  refine ROps.nil ?_
  refine RunC.seq ?_
  refine RunC.seq ?_
  refine RunC.regionW ?_
  refine ROps.l (r := AV.sl a0.length (a0.map AV.f32)) rfl rfl rfl (LOp.move rfl rfl) ?_
  refine ROps.eqnil rfl pun22 rfl rfl rfl rfl rfl ?_ ?_
  · intro hnil1
    refine ROps.nil ?_
    refine RunC.cond_true rfl rfl ?_
    refine RunC.seq ?_
    refine RunC.regionW ?_
    refine ROps.l (r := AV.nilsl) rfl rfl rfl (LOp.assign rfl rfl) ?_
    refine ROps.nil ?_
    refine RunC.nil_slot (Γ' := [⟨1, some (([] : List F).map AV.f32)⟩]) 2 0 rfl rfl rfl ?_
    refine RunC.ret ?_
    have hnl := List.map_eq_nil_iff.1 hnil1
    have hq : some ([] : List F) = some q0 := by
      rw [← h]; subst hnl; simp [need, apok]
    have hq := Option.some.inj hq
    subst q0
    exact bodyQ.mk (r' := AV.oref 0 1 0 (([] : List F).length)) [(0, 1)] (.inr rfl) rfl (show List.Nodup [0] from by decide) rfl rfl (Res.eq (Res.one rfl (RV.tmp rfl)) (by rw [(show ([] : List F).length = 0 from rfl)] <;> rfl)) (SelL.arr0 (f := AV.f32) (fun _ => rfl) rfl trivial)
  · refine ROps.nil ?_
    refine RunC.cond_false rfl rfl ?_
    refine RunC.skip ?_
    refine RunC.seq ?_
    obtain ⟨hm2, h⟩ := need_some h
    refine RunC.regionW ?_
    refine ROps.d (r := AV.oref 0 1 0 0) (fs := [(0, (([] : List F).map AV.f32))]) (Γ' := [⟨1, some (([] : List F).map AV.f32)⟩]) rfl rfl rfl (TOp.buildSlice_o (g := ⟨0, none⟩) (za := AV.f32 (some 0)) (qs := []) 0 rfl und22 siz25 zer25 rfl zel25 rfl rfl trivial rfl) rfl ?_
    refine ROps.l (r := AV.sl a0.length (a0.map AV.f32)) rfl rfl rfl (LOp.move rfl rfl) ?_
    refine ROps.app (f := AV.f32) (xs := ([] : List F)) (ys := a0) (Γ' := [⟨2, some ((([] : List F) ++ a0).map AV.f32)⟩]) rfl pun22 inf25 rfl rfl rfl rfl rfl rfl rfl rfl rfl (by simp) (ReadAs.sl (by simp)) (ones_map (fun _ => rfl)) (ap_by hm2) (ap_mx hm2) rfl ?_
    refine ROps.l (r := AV.oref 0 2 0 (0 + a0.length)) rfl rfl rfl (LOp.assign rfl rfl) ?_
    refine ROps.nil ?_
    refine RunC.ret ?_
    have hq := Option.some.inj h
    subst q0
    exact bodyQ.mk (r' := AV.oref 0 2 0 ((([] : List F) ++ a0).length)) [(0, 2)] (.inr rfl) rfl (show List.Nodup [0] from by decide) rfl rfl (Res.eq (Res.one rfl (RV.tmp rfl)) (by rw [(show (([] : List F) ++ a0).length = (0 + a0.length) from (app_len rfl rfl))] <;> rfl)) (SelL.arr0 (f := AV.f32) (fun _ => rfl) rfl trivial)
end Go.Proofs.Ytjbifkimffmhpaa
