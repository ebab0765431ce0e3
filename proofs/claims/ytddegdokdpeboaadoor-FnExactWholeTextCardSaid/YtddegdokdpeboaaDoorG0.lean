/- Generated. -/
import Derived.Test.YtddegdokdpeboaaDoorTys
namespace Go.Proofs.YtddegdokdpeboaaDoor
open Go Go.AM
set_option maxRecDepth 20000
set_option maxHeartbeats 4000000
set_option linter.unusedVariables false
set_option linter.unusedSimpArgs false
noncomputable def w_szInt64S (a0 : List Int) (a1 : Int) : Option (Int) :=
  olet (IntKind.i64.wrap (a1 - (a0.length : Int))) fun (x1 : Int) =>
  bsel (decide (x1 < 0)) (
    some (-1)) (
    some x1)
theorem w_szInt64S_ok (a0 : List Int) (a1 : Int) (q0 : Int) (h : w_szInt64S a0 a1 = some q0) : Ev Tryd.prog 38 [AV.sl a0.length (a0.map AV.i64), AV.i64 a1] [] (AV.i64 q0) [] := by
  refine Ev.start Tryd.func38 rfl rfl 0 (τ := [(0, AV.sl a0.length (a0.map AV.i64)), (1, AV.i64 a1)]) rfl (Γ' := []) rfl (n := 25) rfl (g := 0) rfl (fun _ => rfl) ?_
  unfold w_szInt64S at h
  refine RunC.seq ?_
  refine RunC.regionW ?_
  refine ROps.l (r := AV.i64 0) rfl rfl rfl (LOp.assign rfl rfl) ?_
  refine ROps.nil ?_
  refine RunC.seq ?_
  obtain ⟨x1, hx1, h⟩ := olet_some h
  refine RunC.regionW ?_
  refine ROps.l (r := AV.i64 a1) rfl rfl rfl (LOp.move rfl rfl) ?_
  refine ROps.l (r := AV.sl a0.length (a0.map AV.i64)) rfl rfl rfl (LOp.move rfl rfl) ?_
  refine ROps.l (r := AV.i64 (a0.length : Int)) rfl rfl rfl (LOp.len_sl und25 rfl rfl) ?_
  refine ROps.l (r := AV.i64 x1) rfl rfl rfl (LOp.eqr (LOp.sub rfl rfl rfl) (congrArg (AV.ik .i64) hx1)) ?_
  refine ROps.l (r := AV.i64 x1) rfl rfl rfl (LOp.assign rfl rfl) ?_
  refine ROps.nil ?_
  refine RunC.seq ?_
  refine RunC.seq ?_
  rcases bsel_some h with ⟨hc2, h⟩ | ⟨hc2, h⟩
  · refine RunC.regionW ?_
    refine ROps.l (r := AV.i64 x1) rfl rfl rfl (LOp.move rfl rfl) ?_
    refine ROps.l (r := AV.b true) rfl rfl rfl (LOp.eqb (LOp.lss rfl rfl rfl) hc2) ?_
    refine ROps.nil ?_
    refine RunC.cond_true rfl rfl ?_
    refine RunC.seq ?_
    refine RunC.regionW ?_
    refine ROps.l (r := AV.i64 (-1)) rfl rfl rfl (LOp.assign rfl rfl) ?_
    refine ROps.nil ?_
    refine RunC.ret ?_
    have hq := Option.some.inj h
    subst q0
    exact bodyQ.pure (.inr rfl) rfl (Res.one rfl (RV.tmp rfl))
  · refine RunC.regionW ?_
    refine ROps.l (r := AV.i64 x1) rfl rfl rfl (LOp.move rfl rfl) ?_
    refine ROps.l (r := AV.b false) rfl rfl rfl (LOp.eqb (LOp.lss rfl rfl rfl) hc2) ?_
    refine ROps.nil ?_
    refine RunC.cond_false rfl rfl ?_
    refine RunC.skip ?_
    refine RunC.seq ?_
    refine RunC.regionW ?_
    refine ROps.l (r := AV.i64 x1) rfl rfl rfl (LOp.move rfl rfl) ?_
    refine ROps.l (r := AV.i64 x1) rfl rfl rfl (LOp.assign rfl rfl) ?_
    refine ROps.nil ?_
    refine RunC.ret ?_
    have hq := Option.some.inj h
    subst q0
    exact bodyQ.pure (.inr rfl) rfl (Res.one rfl (RV.tmp rfl))
noncomputable def w_szWhole (a0 : Int) (a1 : Int) (a2 : List Int) (a3 : Int) : Option (Int) :=
  obind (w_szInt64S a2 a3) fun (r1 : Int) =>
  bsel (decide (r1 < 0)) (
    some (-1)) (
    some r1)
theorem w_szWhole_ok (a0 : Int) (a1 : Int) (a2 : List Int) (a3 : Int) (q0 : Int) (h : w_szWhole a0 a1 a2 a3 = some q0) : Ev Tryd.prog 11 [AV.agg [AV.i64 a0, AV.i64 a1, AV.sl a2.length (a2.map AV.i64)], AV.i64 a3] [] (AV.i64 q0) [] := by
  refine Ev.start Tryd.func11 rfl rfl 0 (τ := [(0, AV.agg [AV.i64 a0, AV.i64 a1, AV.sl a2.length (a2.map AV.i64)]), (1, AV.i64 a3)]) rfl (Γ' := []) rfl (n := 25) rfl (g := 0) rfl (fun _ => rfl) ?_
  unfold w_szWhole at h
  refine RunC.seq ?_
  refine RunC.regionW ?_
  refine ROps.d (r := AV.ptr [AV.i64 a0, AV.i64 a1, AV.sl a2.length (a2.map AV.i64)]) (fs := []) (Γ' := []) rfl rfl rfl (TOp.box_s rfl rfl rfl) rfl ?_
  refine ROps.l (r := AV.i64 0) rfl rfl rfl (LOp.assign rfl rfl) ?_
  refine ROps.nil ?_
  refine RunC.seq ?_
  obtain ⟨r1, hf1, h⟩ := obind_some h
  refine RunC.regionW ?_
  refine ROps.l (r := AV.ptr [AV.sl a2.length (a2.map AV.i64)]) rfl rfl rfl (LOp.fap und27 rfl siz25 rfl rfl rfl) ?_
  refine ROps.l (r := AV.sl a2.length (a2.map AV.i64)) rfl rfl rfl (LOp.load1 agg25 rfl rfl) ?_
  refine ROps.l (r := AV.i64 a3) rfl rfl rfl (LOp.move rfl rfl) ?_
  refine ROps.d (r := AV.i64 r1) (fs := []) (Γ' := []) rfl rfl rfl (TOp.callB (CallAs.func ent38 rfl rfl) (Bors.cons (Bor.sl (fun _ => rfl)) (Bors.cons (Bor.pure rfl) Bors.nil)) rfl rfl (w_szInt64S_ok a2 a3 r1 hf1)) rfl ?_
  refine ROps.l (r := AV.i64 r1) rfl rfl rfl (LOp.assign rfl rfl) ?_
  refine ROps.nil ?_
  refine RunC.seq ?_
  refine RunC.seq ?_
  rcases bsel_some h with ⟨hc2, h⟩ | ⟨hc2, h⟩
  · refine RunC.regionW ?_
    refine ROps.l (r := AV.i64 r1) rfl rfl rfl (LOp.move rfl rfl) ?_
    refine ROps.l (r := AV.b true) rfl rfl rfl (LOp.eqb (LOp.lss rfl rfl rfl) hc2) ?_
    refine ROps.nil ?_
    refine RunC.cond_true rfl rfl ?_
    refine RunC.seq ?_
    refine RunC.regionW ?_
    refine ROps.l (r := AV.i64 (-1)) rfl rfl rfl (LOp.assign rfl rfl) ?_
    refine ROps.nil ?_
    refine RunC.ret ?_
    have hq := Option.some.inj h
    subst q0
    exact bodyQ.pure (.inr rfl) rfl (Res.one rfl (RV.tmp rfl))
  · refine RunC.regionW ?_
    refine ROps.l (r := AV.i64 r1) rfl rfl rfl (LOp.move rfl rfl) ?_
    refine ROps.l (r := AV.b false) rfl rfl rfl (LOp.eqb (LOp.lss rfl rfl rfl) hc2) ?_
    refine ROps.nil ?_
    refine RunC.cond_false rfl rfl ?_
    refine RunC.skip ?_
    refine RunC.seq ?_
    refine RunC.regionW ?_
    refine ROps.l (r := AV.i64 r1) rfl rfl rfl (LOp.move rfl rfl) ?_
    refine ROps.l (r := AV.i64 r1) rfl rfl rfl (LOp.assign rfl rfl) ?_
    refine ROps.nil ?_
    refine RunC.ret ?_
    have hq := Option.some.inj h
    subst q0
    exact bodyQ.pure (.inr rfl) rfl (Res.one rfl (RV.tmp rfl))
noncomputable def w_toInt64S_b1 (a0 : List Int) (L1 : List Int) (v3 : Int) : Option (LR ((List Int) × Int) ((List Int)) ((List Int))) :=
  bsel (decide (v3 < (a0.length : Int))) (
    obind (at? a0 v3) fun (e4 : Int) =>
    obind (setAt? L1 v3 e4) fun (L5 : List Int) =>
    olet (IntKind.i64.wrap (v3 + 1)) fun (x6 : Int) =>
    some (LR.next (L5, x6))) (
    some (LR.out L1))
noncomputable def w_toInt64S_s1 (a0 : List Int) : ((List Int) × Int) → Option (LR ((List Int) × Int) ((List Int)) ((List Int))) := fun s => w_toInt64S_b1 a0 s.1 s.2
noncomputable def w_toInt64S_k1 (L7 : List Int) : Option ((List Int)) :=
  some L7
noncomputable def w_toInt64S (a0 : List Int) : Option ((List Int)) :=
  need (mkok 8 (a0.length : Int)) <|
  obind (loopM (w_toInt64S_s1 a0) ((List.replicate (a0.length : Int).toNat 0), 0)) fun z => osum z (fun e => w_toInt64S_k1 e) (fun r => some r)
theorem w_toInt64S_ok (a0 : List Int) (q0 : List Int) (h : w_toInt64S a0 = some q0) : Ev Tryd.prog 41 [AV.sl a0.length (a0.map AV.i64)] [] (AV.oref 0 0 0 q0.length) [⟨0, some (q0.map AV.i64)⟩] := by
  refine Ev.start Tryd.func41 rfl rfl 1 (τ := [(0, AV.sl a0.length (a0.map AV.i64))]) rfl (Γ' := [⟨0, none⟩]) rfl (n := 45) rfl (g := 0) rfl (fun _ => rfl) ?_
  unfold w_toInt64S at h
  refine RunC.seq ?_
  refine RunC.regionW ?_
  refine ROps.l (r := AV.nilsl) rfl rfl rfl (LOp.assign rfl rfl) ?_
  refine ROps.nil ?_
  refine RunC.seq ?_
  obtain ⟨hm1, h⟩ := need_some h
  refine RunC.regionW ?_
  refine ROps.l (r := AV.sl a0.length (a0.map AV.i64)) rfl rfl rfl (LOp.move rfl rfl) ?_
  refine ROps.l (r := AV.i64 (a0.length : Int)) rfl rfl rfl (LOp.len_sl und25 rfl rfl) ?_
  refine ROps.d (r := AV.oref 0 1 0 ((a0.length : Int).toNat)) (fs := [(0, ((List.replicate (a0.length : Int).toNat 0).map AV.i64))]) (Γ' := [⟨1, some ((List.replicate (a0.length : Int).toNat 0).map AV.i64)⟩]) rfl rfl rfl (TOp.mkS (g := ⟨0, none⟩) (t := 25) (e := 2) (by_ := 8) (f := AV.i64) (zv := 0) 0 rfl und25 tin2 rfl siz2 zer2 rfl zel2 rfl rfl rfl hm1) rfl ?_
  refine ROps.l (r := AV.oref 0 1 0 ((a0.length : Int).toNat)) rfl rfl rfl (LOp.assign rfl rfl) ?_
  refine ROps.nil ?_
  refine RunC.seq ?_
  refine RunC.seq ?_
  refine RunC.regionW ?_
  refine ROps.l (r := AV.i64 0) rfl rfl rfl (LOp.assign rfl rfl) ?_
  refine ROps.nil ?_
  obtain ⟨z2, hz_2, h⟩ := obind_some h
  refine RunC.cutN (fun τ Γ => ∃ (L7 : List Int), L7.length = (a0.length : Int).toNat ∧ WeakLe τ [(3, AV.oref 0 1 0 ((a0.length : Int).toNat))] ∧ DeadLe Γ [⟨1, some (L7.map AV.i64)⟩] ∧ z2 = .inl L7) ?_ ?_
  · refine RunC.block (RunC.loop (RunL.loopM (x := z2) (w_toInt64S_s1 a0) (fun (s : (List Int) × Int) τ Γ => s.1.length = (a0.length : Int).toNat ∧ WeakLe τ [(0, AV.sl a0.length (a0.map AV.i64)), (3, AV.oref 0 1 0 ((a0.length : Int).toNat)), (4, AV.i64 s.2)] ∧ DeadLe Γ [⟨1, some (s.1.map AV.i64)⟩]) ?_ _ _ _ hz_2 ⟨List.length_replicate, ⟨(ALe.refl _), (ALe.refl _), (ALe.refl _), trivial⟩, ⟨⟨rfl, .inr rfl⟩, trivial⟩⟩))
    rintro ⟨L1, v3⟩ τ2 Γ2 y2_ ⟨hl2, hw2, hd2⟩ h2_ ho2 hr2
    refine RunC.wl (τ' := [(0, AV.sl a0.length (a0.map AV.i64)), (3, AV.oref 0 1 0 ((a0.length : Int).toNat)), (4, AV.i64 v3)]) (Γ' := [⟨1, some (L1.map AV.i64)⟩]) hw2 hd2 ?_
    replace hl2 : L1.length = (a0.length : Int).toNat := hl2
    replace h2_ : w_toInt64S_b1 a0 L1 v3 = some y2_ := h2_
    unfold w_toInt64S_b1 at h2_
    refine RunC.seq ?_
    refine RunC.seq ?_
    rcases bsel_some h2_ with ⟨hc2, h2_⟩ | ⟨hc2, h2_⟩
    · refine RunC.regionW ?_
      refine ROps.l (r := AV.i64 v3) rfl rfl rfl (LOp.move rfl rfl) ?_
      refine ROps.l (r := AV.sl a0.length (a0.map AV.i64)) rfl rfl rfl (LOp.move rfl rfl) ?_
      refine ROps.l (r := AV.i64 (a0.length : Int)) rfl rfl rfl (LOp.len_sl und25 rfl rfl) ?_
      refine ROps.l (r := AV.b true) rfl rfl rfl (LOp.eqb (LOp.lss rfl rfl rfl) hc2) ?_
      refine ROps.nil ?_
      refine RunC.cond_true rfl rfl ?_
      refine RunC.skip ?_
      refine RunC.seq ?_
      refine RunC.block ?_
      obtain ⟨e4, he3, h2_⟩ := obind_some h2_
      obtain ⟨L5, he4, h2_⟩ := obind_some h2_
      refine RunC.regionW ?_
      refine ROps.l (r := AV.oref 0 1 0 ((a0.length : Int).toNat)) rfl rfl rfl (LOp.move rfl rfl) ?_
      refine ROps.l (r := AV.i64 v3) rfl rfl rfl (LOp.move rfl rfl) ?_
      refine ROps.l (r := AV.sl a0.length (a0.map AV.i64)) rfl rfl rfl (LOp.move rfl rfl) ?_
      refine ROps.l (r := AV.i64 v3) rfl rfl rfl (LOp.move rfl rfl) ?_
      refine ROps.l (r := AV.ptr [AV.i64 e4]) rfl rfl rfl (LOp.le (LOp.ix (f := AV.i64) und25 siz2 rfl rfl rfl rfl he3) ALe.ptr) ?_
      refine ROps.l (r := AV.i64 e4) rfl rfl rfl (LOp.load1 agg2 rfl rfl) ?_
      refine ROps.d (r := AV.optr 0 1 v3.toNat) (fs := []) (Γ' := [⟨1, some (L1.map AV.i64)⟩]) rfl rfl rfl (TOp.ixo und25 siz2 rfl rfl rfl (set_in he4 hl2) rfl) rfl ?_
      refine ROps.st (f := AV.i64) (i := v3) (Γ' := [⟨1, some (L5.map AV.i64)⟩]) rfl siz2 rfl rfl rfl (ALe.refl _) rfl rfl rfl he4 rfl ?_
      refine ROps.nil ?_
      obtain ⟨x6, hx5, h2_⟩ := olet_some h2_
      refine RunC.regionW ?_
      refine ROps.l (r := AV.i64 v3) rfl rfl rfl (LOp.move rfl rfl) ?_
      refine ROps.l (r := AV.i64 x6) rfl rfl rfl (LOp.eqr (LOp.add rfl rfl rfl) (congrArg (AV.ik .i64) hx5)) ?_
      refine ROps.l (r := AV.i64 x6) rfl rfl rfl (LOp.assign rfl rfl) ?_
      refine ROps.nil ?_
      cases Option.some.inj h2_
      exact ⟨_, rfl, ((setAt?_len he4).trans hl2), ⟨(ALe.refl _), (ALe.refl _), (ALe.refl _), trivial⟩, ⟨⟨rfl, .inr rfl⟩, trivial⟩⟩
    · refine RunC.regionW ?_
      refine ROps.l (r := AV.i64 v3) rfl rfl rfl (LOp.move rfl rfl) ?_
      refine ROps.l (r := AV.sl a0.length (a0.map AV.i64)) rfl rfl rfl (LOp.move rfl rfl) ?_
      refine ROps.l (r := AV.i64 (a0.length : Int)) rfl rfl rfl (LOp.len_sl und25 rfl rfl) ?_
      refine ROps.l (r := AV.b false) rfl rfl rfl (LOp.eqb (LOp.lss rfl rfl rfl) hc2) ?_
      refine ROps.nil ?_
      refine RunC.cond_false rfl rfl ?_
      refine RunC.exit ?_
      cases Option.some.inj h2_
      have hx := ho2 _ rfl
      exact ⟨L1, hl2, ⟨(ALe.refl _), trivial⟩, ⟨⟨rfl, .inr rfl⟩, trivial⟩, hx⟩
  · rintro τ3 Γ3 ⟨L7, hl8, hw3, hd3, rfl⟩
    refine RunC.wl (τ' := [(3, AV.oref 0 1 0 ((a0.length : Int).toNat))]) (Γ' := [⟨1, some (L7.map AV.i64)⟩]) hw3 hd3 ?_
    replace h : w_toInt64S_k1 L7 = some q0 := h
    unfold w_toInt64S_k1 at h
    refine RunC.seq ?_
    refine RunC.regionW ?_
    refine ROps.l (r := AV.oref 0 1 0 ((a0.length : Int).toNat)) rfl rfl rfl (LOp.move rfl rfl) ?_
    refine ROps.l (r := AV.oref 0 1 0 ((a0.length : Int).toNat)) rfl rfl rfl (LOp.assign rfl rfl) ?_
    refine ROps.nil ?_
    refine RunC.ret ?_
    have hq := Option.some.inj h
    subst q0
    exact bodyQ.mk (r' := AV.oref 0 1 0 L7.length) [(0, 1)] (.inr rfl) rfl (show List.Nodup [0] from by decide) rfl rfl (Res.eq (Res.one rfl (RV.tmp rfl)) (by rw [(show L7.length = (a0.length : Int).toNat from hl8)] <;> rfl)) (SelL.arr0 (f := AV.i64) (fun _ => rfl) rfl trivial)
noncomputable def w_toWhole (a0 : Int) (a1 : Int) (a2 : List Int) : Option (Int × Int × (List Int)) :=
  obind (w_toInt64S a2) fun (r1 : List Int) =>
  some (a0, a1, r1)
theorem w_toWhole_ok (a0 : Int) (a1 : Int) (a2 : List Int) (q0 : Int) (q1 : Int) (q2 : List Int) (h : w_toWhole a0 a1 a2 = some (q0, q1, q2)) : Ev Tryd.prog 13 [AV.agg [AV.i64 a0, AV.i64 a1, AV.sl a2.length (a2.map AV.i64)]] [] (AV.agg [AV.i64 q0, AV.i64 q1, AV.oref 0 0 0 q2.length]) [⟨0, some (q2.map AV.i64)⟩] := by
  refine Ev.start Tryd.func13 rfl rfl 3 (τ := [(0, AV.agg [AV.i64 a0, AV.i64 a1, AV.sl a2.length (a2.map AV.i64)])]) rfl (Γ' := [⟨0, none⟩, ⟨0, none⟩, ⟨0, none⟩]) rfl (n := 31) rfl (g := 0) rfl (fun _ => rfl) ?_
  unfold w_toWhole at h
  refine RunC.seq ?_
  refine RunC.regionW ?_
  refine ROps.d (r := AV.ptr [AV.i64 a0, AV.i64 a1, AV.sl a2.length (a2.map AV.i64)]) (fs := []) (Γ' := [⟨0, none⟩, ⟨0, none⟩, ⟨0, none⟩]) rfl rfl rfl (TOp.box_s rfl rfl rfl) rfl ?_
  refine ROps.d (r := AV.optr 0 1 0) (fs := [(0, [AV.i64 0, AV.i64 0, AV.nilsl])]) (Γ' := [⟨1, some [AV.i64 0, AV.i64 0, AV.nilsl]⟩, ⟨0, none⟩, ⟨0, none⟩]) rfl rfl rfl (TOp.alloc_o (g := ⟨0, none⟩) 0 rfl zer31 zok31 rfl) rfl ?_
  refine ROps.nil ?_
  refine RunC.seq ?_
  refine RunC.regionW ?_
  refine ROps.d (r := AV.optr 1 1 0) (fs := [(1, [AV.i64 0, AV.i64 0, AV.nilsl])]) (Γ' := [⟨1, some [AV.i64 0, AV.i64 0, AV.nilsl]⟩, ⟨1, some [AV.i64 0, AV.i64 0, AV.nilsl]⟩, ⟨0, none⟩]) rfl rfl rfl (TOp.alloc_o (g := ⟨0, none⟩) 1 rfl zer31 zok31 rfl) rfl ?_
  refine ROps.nil ?_
  refine RunC.seq ?_
  refine RunC.regionW ?_
  refine ROps.l (r := AV.ptr [AV.i64 a0, AV.i64 a1, AV.sl a2.length (a2.map AV.i64)]) rfl rfl rfl (LOp.fap und27 rfl siz2 rfl rfl rfl) ?_
  refine ROps.l (r := AV.i64 a0) rfl rfl rfl (LOp.load1 agg2 rfl rfl) ?_
  refine ROps.l (r := AV.optr 1 1 0) rfl rfl rfl (LOp.fao und31 rfl siz2 rfl rfl rfl) ?_
  refine ROps.store_le (r := AV.i64 a0) (l' := [AV.i64 a0, AV.i64 0, AV.nilsl]) (Γ' := [⟨1, some [AV.i64 0, AV.i64 0, AV.nilsl]⟩, ⟨1, some [AV.i64 a0, AV.i64 0, AV.nilsl]⟩, ⟨0, none⟩]) rfl siz2 rfl rfl rfl (ALe.refl _) rfl rfl rfl rfl (Nat.le_of_ble_eq_true rfl) rfl rfl ?_
  refine ROps.nil ?_
  refine RunC.seq ?_
  refine RunC.regionW ?_
  refine ROps.l (r := AV.ptr [AV.i64 a1, AV.sl a2.length (a2.map AV.i64)]) rfl rfl rfl (LOp.fap und27 rfl siz2 rfl rfl rfl) ?_
  refine ROps.l (r := AV.i64 a1) rfl rfl rfl (LOp.load1 agg2 rfl rfl) ?_
  refine ROps.l (r := AV.optr 1 1 1) rfl rfl rfl (LOp.fao und31 rfl siz2 rfl rfl rfl) ?_
  refine ROps.store_le (r := AV.i64 a1) (l' := [AV.i64 a0, AV.i64 a1, AV.nilsl]) (Γ' := [⟨1, some [AV.i64 0, AV.i64 0, AV.nilsl]⟩, ⟨1, some [AV.i64 a0, AV.i64 a1, AV.nilsl]⟩, ⟨0, none⟩]) rfl siz2 rfl rfl rfl (ALe.refl _) rfl rfl rfl rfl (Nat.le_of_ble_eq_true rfl) rfl rfl ?_
  refine ROps.nil ?_
  refine RunC.seq ?_
  obtain ⟨r1, hf1, h⟩ := obind_some h
  refine RunC.regionW ?_
  refine ROps.l (r := AV.ptr [AV.sl a2.length (a2.map AV.i64)]) rfl rfl rfl (LOp.fap und27 rfl siz25 rfl rfl rfl) ?_
  refine ROps.l (r := AV.sl a2.length (a2.map AV.i64)) rfl rfl rfl (LOp.load1 agg25 rfl rfl) ?_
  refine ROps.d (r := AV.oref 2 1 0 r1.length) (fs := [(2, (r1.map AV.i64))]) (Γ' := [⟨1, some [AV.i64 0, AV.i64 0, AV.nilsl]⟩, ⟨1, some [AV.i64 a0, AV.i64 a1, AV.nilsl]⟩, ⟨1, some (r1.map AV.i64)⟩]) rfl rfl rfl (TOp.callBN (ls := [(r1.map AV.i64)]) [2] (CallAs.func ent41 rfl rfl) (Bors.cons (Bor.sl (fun _ => rfl)) Bors.nil) rfl (w_toInt64S_ok a2 r1 hf1) (and_all (lts0_map (f := AV.i64) (fun _ => rfl) _) rfl) (and_all (noss_map (f := AV.i64) (fun _ => rfl) _) rfl) rfl (by decide) (ns_of ⟨⟨_, rfl⟩, trivial⟩)) rfl ?_
  refine ROps.l (r := AV.optr 1 1 2) rfl rfl rfl (LOp.fao und31 rfl siz25 rfl rfl rfl) ?_
  refine ROps.store_le (r := AV.oref 2 1 0 r1.length) (l' := [AV.i64 a0, AV.i64 a1, AV.oref 2 1 0 r1.length]) (Γ' := [⟨1, some [AV.i64 0, AV.i64 0, AV.nilsl]⟩, ⟨1, some [AV.i64 a0, AV.i64 a1, AV.oref 2 1 0 r1.length]⟩, ⟨1, some (r1.map AV.i64)⟩]) rfl siz25 rfl rfl rfl (ALe.refl _) rfl rfl rfl rfl (Nat.le_of_ble_eq_true rfl) rfl rfl ?_
  refine ROps.nil ?_
  refine RunC.seq ?_
  refine RunC.regionW ?_
  refine ROps.d (r := AV.agg [AV.i64 a0, AV.i64 a1, AV.oref 2 1 0 r1.length]) (fs := []) (Γ' := [⟨1, some [AV.i64 0, AV.i64 0, AV.nilsl]⟩, ⟨1, some [AV.i64 a0, AV.i64 a1, AV.oref 2 1 0 r1.length]⟩, ⟨1, some (r1.map AV.i64)⟩]) rfl rfl rfl (TOp.loadAgg_o rfl agg31 siz31 rfl rfl rfl rfl) rfl ?_
  refine ROps.store_le (r := AV.agg [AV.i64 a0, AV.i64 a1, AV.oref 2 1 0 r1.length]) (l' := [AV.i64 a0, AV.i64 a1, AV.oref 2 1 0 r1.length]) (Γ' := [⟨1, some [AV.i64 a0, AV.i64 a1, AV.oref 2 1 0 r1.length]⟩, ⟨1, some [AV.i64 a0, AV.i64 a1, AV.oref 2 1 0 r1.length]⟩, ⟨1, some (r1.map AV.i64)⟩]) rfl siz31 rfl rfl rfl (ALe.refl _) rfl rfl rfl rfl (Nat.le_of_ble_eq_true rfl) rfl rfl ?_
  refine ROps.nil ?_
  refine RunC.ret ?_
  have hq := Option.some.inj h
  obtain ⟨hq0, hq⟩ := Prod.mk.inj hq
  obtain ⟨hq1, hq⟩ := Prod.mk.inj hq
  subst q0
  subst q1
  subst q2
  exact bodyQ.mk (r' := AV.agg [AV.i64 a0, AV.i64 a1, AV.oref 2 1 0 r1.length]) [(2, 1)] (.inr rfl) rfl (show List.Nodup [2] from by decide) rfl rfl (Res.one rfl (RV.cell agg31 siz31 rfl rfl rfl rfl)) (SelL.arr0 (f := AV.i64) (fun _ => rfl) rfl trivial)
noncomputable def s_l00In (a0 : Int) (a1 : Int) (a2 : Int) : Option (Bool) :=
  bsel (decide (a1 ≤ a0)) (
    some (decide (a0 ≤ a2))) (
    some false)
theorem s_l00In_ok (a0 : Int) (a1 : Int) (a2 : Int) (q0 : Bool) (h : s_l00In a0 a1 a2 = some q0) : Ev Tryd.prog 67 [AV.i64 a0, AV.i64 a1, AV.i64 a2] [] (AV.b q0) [] := by
  refine Ev.start Tryd.func67 rfl rfl 0 (τ := [(0, AV.i64 a0), (1, AV.i64 a1), (2, AV.i64 a2)]) rfl (Γ' := []) rfl (n := 31) rfl (g := 0) rfl (fun _ => rfl) ?_
  unfold s_l00In at h
  refine RunC.seq ?_
  refine RunC.regionW ?_
  refine ROps.l (r := AV.b false) rfl rfl rfl (LOp.assign rfl rfl) ?_
  refine ROps.nil ?_
  refine RunC.seq ?_
  rcases bsel_some h with ⟨hc1, h⟩ | ⟨hc1, h⟩
  · refine RunC.regionW ?_
    refine ROps.l (r := AV.i64 a0) rfl rfl rfl (LOp.move rfl rfl) ?_
    refine ROps.l (r := AV.i64 a1) rfl rfl rfl (LOp.move rfl rfl) ?_
    refine ROps.l (r := AV.b true) rfl rfl rfl (LOp.eqb (LOp.geq rfl rfl rfl) hc1) ?_
    refine ROps.l (r := AV.b true) rfl rfl rfl (LOp.move rfl rfl) ?_
    refine ROps.l (r := AV.i64 a0) rfl rfl rfl (LOp.move rfl rfl) ?_
    refine ROps.l (r := AV.i64 a2) rfl rfl rfl (LOp.move rfl rfl) ?_
    refine ROps.l (r := AV.b (decide (a0 ≤ a2))) rfl rfl rfl (LOp.leq rfl rfl rfl) ?_
    refine ROps.l (r := AV.b (decide (a0 ≤ a2))) rfl rfl rfl (LOp.pick_true rfl rfl rfl) ?_
    refine ROps.l (r := AV.b (decide (a0 ≤ a2))) rfl rfl rfl (LOp.assign rfl rfl) ?_
    refine ROps.nil ?_
    refine RunC.ret ?_
    have hq := Option.some.inj h
    subst q0
    exact bodyQ.pure (.inr rfl) rfl (Res.one rfl (RV.tmp rfl))
  · refine RunC.regionW ?_
    refine ROps.l (r := AV.i64 a0) rfl rfl rfl (LOp.move rfl rfl) ?_
    refine ROps.l (r := AV.i64 a1) rfl rfl rfl (LOp.move rfl rfl) ?_
    refine ROps.l (r := AV.b false) rfl rfl rfl (LOp.eqb (LOp.geq rfl rfl rfl) hc1) ?_
    refine ROps.l (r := AV.b false) rfl rfl rfl (LOp.move rfl rfl) ?_
    refine ROps.s rfl rfl rfl ?_
    refine ROps.s rfl rfl rfl ?_
    refine ROps.s rfl rfl rfl ?_
    refine ROps.l (r := AV.b false) rfl rfl rfl (LOp.pick_false rfl rfl rfl) ?_
    refine ROps.l (r := AV.b false) rfl rfl rfl (LOp.assign rfl rfl) ?_
    refine ROps.nil ?_
    refine RunC.ret ?_
    have hq := Option.some.inj h
    subst q0
    exact bodyQ.pure (.inr rfl) rfl (Res.one rfl (RV.tmp rfl))
noncomputable def s_l06Bound_b1 (a0 : List Int) (a1 : Int) (v1 : Int) : Option (LR (Int) (Unit) (Bool)) :=
  bsel (decide (v1 < (a0.length : Int))) (
    obind (at? a0 v1) fun (e2 : Int) =>
    olet (IntKind.i64.wrap (0 - a1)) fun (x3 : Int) =>
    obind (s_l00In e2 x3 a1) fun (r4 : Bool) =>
    bsel r4 (
      olet (IntKind.i64.wrap (v1 + 1)) fun (x5 : Int) =>
      some (LR.next x5)) (
      some (LR.ret false))) (
    some (LR.out ()))
noncomputable def s_l06Bound_s1 (a0 : List Int) (a1 : Int) : (Int) → Option (LR (Int) (Unit) (Bool)) := fun s => s_l06Bound_b1 a0 a1 s
noncomputable def s_l06Bound_k1  : Option (Bool) :=
  some true
noncomputable def s_l06Bound (a0 : List Int) (a1 : Int) : Option (Bool) :=
  obind (loopM (s_l06Bound_s1 a0 a1) 0) fun z => osum z (fun _ => s_l06Bound_k1) (fun r => some r)
theorem s_l06Bound_ok (a0 : List Int) (a1 : Int) (q0 : Bool) (h : s_l06Bound a0 a1 = some q0) : Ev Tryd.prog 68 [AV.sl a0.length (a0.map AV.i64), AV.i64 a1] [] (AV.b q0) [] := by
  refine Ev.start Tryd.func68 rfl rfl 0 (τ := [(0, AV.sl a0.length (a0.map AV.i64)), (1, AV.i64 a1)]) rfl (Γ' := []) rfl (n := 43) rfl (g := 0) rfl (fun _ => rfl) ?_
  unfold s_l06Bound at h
  refine RunC.seq ?_
  refine RunC.regionW ?_
  refine ROps.l (r := AV.b false) rfl rfl rfl (LOp.assign rfl rfl) ?_
  refine ROps.nil ?_
  refine RunC.seq ?_
  refine RunC.seq ?_
  refine RunC.regionW ?_
  refine ROps.l (r := AV.i64 0) rfl rfl rfl (LOp.assign rfl rfl) ?_
  refine ROps.nil ?_
  obtain ⟨z2, hz_2, h⟩ := obind_some h
  refine RunC.cutN (fun τ Γ => WeakLe τ [] ∧ DeadLe Γ [] ∧ z2 = .inl ()) ?_ ?_
  · refine RunC.block (RunC.loop (RunL.loopM (x := z2) (s_l06Bound_s1 a0 a1) (fun (s : Int) τ Γ => WeakLe τ [(0, AV.sl a0.length (a0.map AV.i64)), (1, AV.i64 a1), (5, AV.i64 s)] ∧ DeadLe Γ []) ?_ _ _ _ hz_2 ⟨⟨(ALe.refl _), (ALe.refl _), (ALe.refl _), trivial⟩, trivial⟩))
    rintro v1 τ2 Γ2 y2_ ⟨hw2, hd2⟩ h2_ ho2 hr2
    refine RunC.wl (τ' := [(0, AV.sl a0.length (a0.map AV.i64)), (1, AV.i64 a1), (5, AV.i64 v1)]) (Γ' := []) hw2 hd2 ?_
    replace h2_ : s_l06Bound_b1 a0 a1 v1 = some y2_ := h2_
    unfold s_l06Bound_b1 at h2_
    refine RunC.seq ?_
    refine RunC.seq ?_
    rcases bsel_some h2_ with ⟨hc1, h2_⟩ | ⟨hc1, h2_⟩
    · refine RunC.regionW ?_
      refine ROps.l (r := AV.i64 v1) rfl rfl rfl (LOp.move rfl rfl) ?_
      refine ROps.l (r := AV.sl a0.length (a0.map AV.i64)) rfl rfl rfl (LOp.move rfl rfl) ?_
      refine ROps.l (r := AV.i64 (a0.length : Int)) rfl rfl rfl (LOp.len_sl und25 rfl rfl) ?_
      refine ROps.l (r := AV.b true) rfl rfl rfl (LOp.eqb (LOp.lss rfl rfl rfl) hc1) ?_
      refine ROps.nil ?_
      refine RunC.cond_true rfl rfl ?_
      refine RunC.skip ?_
      refine RunC.seq ?_
      refine RunC.block ?_
      refine RunC.seq ?_
      obtain ⟨e2, he2, h2_⟩ := obind_some h2_
      obtain ⟨x3, hx3, h2_⟩ := olet_some h2_
      obtain ⟨r4, hf4, h2_⟩ := obind_some h2_
      rcases bsel_some h2_ with ⟨hc5, h2_⟩ | ⟨hc5, h2_⟩
      · refine RunC.regionW ?_
        refine ROps.l (r := AV.sl a0.length (a0.map AV.i64)) rfl rfl rfl (LOp.move rfl rfl) ?_
        refine ROps.l (r := AV.i64 v1) rfl rfl rfl (LOp.move rfl rfl) ?_
        refine ROps.l (r := AV.ptr [AV.i64 e2]) rfl rfl rfl (LOp.le (LOp.ix (f := AV.i64) und25 siz2 rfl rfl rfl rfl he2) ALe.ptr) ?_
        refine ROps.l (r := AV.i64 e2) rfl rfl rfl (LOp.load1 agg2 rfl rfl) ?_
        refine ROps.l (r := AV.i64 a1) rfl rfl rfl (LOp.move rfl rfl) ?_
        refine ROps.l (r := AV.i64 x3) rfl rfl rfl (LOp.eqr (LOp.neg_int rfl rfl) (congrArg (AV.ik .i64) hx3)) ?_
        refine ROps.l (r := AV.i64 a1) rfl rfl rfl (LOp.move rfl rfl) ?_
        refine ROps.d (r := AV.b true) (fs := []) (Γ' := []) rfl rfl rfl (TOp.eqb (TOp.callB (CallAs.func ent67 rfl rfl) (Bors.cons (Bor.pure rfl) (Bors.cons (Bor.pure rfl) (Bors.cons (Bor.pure rfl) Bors.nil))) rfl rfl (s_l00In_ok e2 x3 a1 r4 hf4)) hc5) rfl ?_
        refine ROps.l (r := AV.b false) rfl rfl rfl (LOp.eqb (LOp.not rfl rfl) rfl) ?_
        refine ROps.nil ?_
        refine RunC.cond_false rfl rfl ?_
        refine RunC.skip ?_
        refine RunC.wl (τ' := [(0, AV.sl a0.length (a0.map AV.i64)), (1, AV.i64 a1), (5, AV.i64 v1)]) (Γ' := []) ⟨(ALe.refl _), (ALe.refl _), (ALe.refl _), trivial⟩ trivial ?_
        obtain ⟨x5, hx6, h2_⟩ := olet_some h2_
        refine RunC.regionW ?_
        refine ROps.l (r := AV.i64 v1) rfl rfl rfl (LOp.move rfl rfl) ?_
        refine ROps.l (r := AV.i64 x5) rfl rfl rfl (LOp.eqr (LOp.add rfl rfl rfl) (congrArg (AV.ik .i64) hx6)) ?_
        refine ROps.l (r := AV.i64 x5) rfl rfl rfl (LOp.assign rfl rfl) ?_
        refine ROps.nil ?_
        cases Option.some.inj h2_
        exact ⟨_, rfl, ⟨(ALe.refl _), (ALe.refl _), (ALe.refl _), trivial⟩, trivial⟩
      · refine RunC.regionW ?_
        refine ROps.l (r := AV.sl a0.length (a0.map AV.i64)) rfl rfl rfl (LOp.move rfl rfl) ?_
        refine ROps.l (r := AV.i64 v1) rfl rfl rfl (LOp.move rfl rfl) ?_
        refine ROps.l (r := AV.ptr [AV.i64 e2]) rfl rfl rfl (LOp.le (LOp.ix (f := AV.i64) und25 siz2 rfl rfl rfl rfl he2) ALe.ptr) ?_
        refine ROps.l (r := AV.i64 e2) rfl rfl rfl (LOp.load1 agg2 rfl rfl) ?_
        refine ROps.l (r := AV.i64 a1) rfl rfl rfl (LOp.move rfl rfl) ?_
        refine ROps.l (r := AV.i64 x3) rfl rfl rfl (LOp.eqr (LOp.neg_int rfl rfl) (congrArg (AV.ik .i64) hx3)) ?_
        refine ROps.l (r := AV.i64 a1) rfl rfl rfl (LOp.move rfl rfl) ?_
        refine ROps.d (r := AV.b false) (fs := []) (Γ' := []) rfl rfl rfl (TOp.eqb (TOp.callB (CallAs.func ent67 rfl rfl) (Bors.cons (Bor.pure rfl) (Bors.cons (Bor.pure rfl) (Bors.cons (Bor.pure rfl) Bors.nil))) rfl rfl (s_l00In_ok e2 x3 a1 r4 hf4)) hc5) rfl ?_
        refine ROps.l (r := AV.b true) rfl rfl rfl (LOp.eqb (LOp.not rfl rfl) rfl) ?_
        refine ROps.nil ?_
        refine RunC.cond_true rfl rfl ?_
        refine RunC.seq ?_
        refine RunC.regionW ?_
        refine ROps.l (r := AV.b false) rfl rfl rfl (LOp.assign rfl rfl) ?_
        refine ROps.nil ?_
        refine RunC.ret ?_
        cases Option.some.inj h2_
        have hx3_ := hr2 _ rfl
        subst hx3_
        have hq := Option.some.inj h
        subst q0
        exact bodyQ.pure (.inr rfl) rfl (Res.one rfl (RV.tmp rfl))
    · refine RunC.regionW ?_
      refine ROps.l (r := AV.i64 v1) rfl rfl rfl (LOp.move rfl rfl) ?_
      refine ROps.l (r := AV.sl a0.length (a0.map AV.i64)) rfl rfl rfl (LOp.move rfl rfl) ?_
      refine ROps.l (r := AV.i64 (a0.length : Int)) rfl rfl rfl (LOp.len_sl und25 rfl rfl) ?_
      refine ROps.l (r := AV.b false) rfl rfl rfl (LOp.eqb (LOp.lss rfl rfl rfl) hc1) ?_
      refine ROps.nil ?_
      refine RunC.cond_false rfl rfl ?_
      refine RunC.exit ?_
      cases Option.some.inj h2_
      have hx := ho2 _ rfl
      exact ⟨trivial, trivial, hx⟩
  · rintro τ4 Γ4 ⟨hw4, hd4, rfl⟩
    refine RunC.wl (τ' := []) (Γ' := []) hw4 hd4 ?_
    replace h : s_l06Bound_k1 = some q0 := h
    unfold s_l06Bound_k1 at h
    refine RunC.seq ?_
    refine RunC.regionW ?_
    refine ROps.l (r := AV.b true) rfl rfl rfl (LOp.assign rfl rfl) ?_
    refine ROps.nil ?_
    refine RunC.ret ?_
    have hq := Option.some.inj h
    subst q0
    exact bodyQ.pure (.inr rfl) rfl (Res.one rfl (RV.tmp rfl))
noncomputable def s_l06Is (a0 : Int) (a1 : Int) (a2 : List Int) (a3 : Int) : Option (Bool) :=
  obind (s_l00In a0 1 6) fun (r1 : Bool) =>
  bsel r1 (
    obind (s_l00In a1 1 6) fun (r2 : Bool) =>
    bsel r2 (
      olet (IntKind.i64.wrap (a0 * a1)) fun (x3 : Int) =>
      bsel (decide ((a2.length : Int) = x3)) (
        obind (s_l06Bound a2 a3) fun (r4 : Bool) =>
        some r4) (
        some false)) (
      some false)) (
    some false)
theorem s_l06Is_ok (a0 : Int) (a1 : Int) (a2 : List Int) (a3 : Int) (q0 : Bool) (h : s_l06Is a0 a1 a2 a3 = some q0) : Ev Tryd.prog 39 [AV.ptr [AV.i64 a0, AV.i64 a1, AV.sl a2.length (a2.map AV.i64)], AV.i64 a3] [] (AV.b q0) [] := by
  refine Ev.start Tryd.func39 rfl rfl 0 (τ := [(0, AV.ptr [AV.i64 a0, AV.i64 a1, AV.sl a2.length (a2.map AV.i64)]), (1, AV.i64 a3)]) rfl (Γ' := []) rfl (n := 85) rfl (g := 0) rfl (fun _ => rfl) ?_
  unfold s_l06Is at h
  refine RunC.seq ?_
  refine RunC.regionW ?_
  refine ROps.l (r := AV.b false) rfl rfl rfl (LOp.assign rfl rfl) ?_
  refine ROps.nil ?_
  refine RunC.seq ?_
  obtain ⟨r1, hf1, h⟩ := obind_some h
  rcases bsel_some h with ⟨hc2, h⟩ | ⟨hc2, h⟩
  · obtain ⟨r2, hf3, h⟩ := obind_some h
    rcases bsel_some h with ⟨hc4, h⟩ | ⟨hc4, h⟩
    · obtain ⟨x3, hx5, h⟩ := olet_some h
      rcases bsel_some h with ⟨hc6, h⟩ | ⟨hc6, h⟩
      · obtain ⟨r4, hf7, h⟩ := obind_some h
        refine RunC.region_draw (Γ' := []) 38 mixed 
          (TR.l (r := AV.ptr [AV.i64 a0, AV.i64 a1, AV.sl a2.length (a2.map AV.i64)]) rfl rfl (LOp.move rfl rfl) <|
          (TR.l (r := AV.ptr [AV.i64 a0, AV.i64 a1, AV.sl a2.length (a2.map AV.i64)]) rfl rfl (LOp.nilCheck_ptr rfl rfl) <|
          (TR.l (r := AV.ptr [AV.i64 a0, AV.i64 a1, AV.sl a2.length (a2.map AV.i64)]) rfl rfl (LOp.fap und31 rfl siz2 rfl rfl rfl) <|
          (TR.l (r := AV.i64 a0) rfl rfl (LOp.load1 agg2 rfl rfl) <|
          (TR.d (r := AV.b true) (fs := []) rfl rfl (TOp.eqb (TOp.callB (CallAs.func ent67 rfl rfl) (Bors.cons (Bor.pure rfl) (Bors.cons (Bor.pure rfl) (Bors.cons (Bor.pure rfl) Bors.nil))) rfl rfl (s_l00In_ok a0 1 6 r1 hf1)) hc2) <|
          (TR.l (r := AV.b true) rfl rfl (LOp.move rfl rfl) <|
          (TR.l (r := AV.ptr [AV.i64 a0, AV.i64 a1, AV.sl a2.length (a2.map AV.i64)]) rfl rfl (LOp.move rfl rfl) <|
          (TR.l (r := AV.ptr [AV.i64 a0, AV.i64 a1, AV.sl a2.length (a2.map AV.i64)]) rfl rfl (LOp.nilCheck_ptr rfl rfl) <|
          (TR.l (r := AV.ptr [AV.i64 a1, AV.sl a2.length (a2.map AV.i64)]) rfl rfl (LOp.fap und31 rfl siz2 rfl rfl rfl) <|
          (TR.l (r := AV.i64 a1) rfl rfl (LOp.load1 agg2 rfl rfl) <|
          (TR.d (r := AV.b true) (fs := []) rfl rfl (TOp.eqb (TOp.callB (CallAs.func ent67 rfl rfl) (Bors.cons (Bor.pure rfl) (Bors.cons (Bor.pure rfl) (Bors.cons (Bor.pure rfl) Bors.nil))) rfl rfl (s_l00In_ok a1 1 6 r2 hf3)) hc4) <|
          (TR.l (r := AV.b true) rfl rfl (LOp.pick_true rfl rfl rfl) <|
          (TR.l (r := AV.b true) rfl rfl (LOp.move rfl rfl) <|
          (TR.l (r := AV.ptr [AV.i64 a0, AV.i64 a1, AV.sl a2.length (a2.map AV.i64)]) rfl rfl (LOp.move rfl rfl) <|
          (TR.l (r := AV.ptr [AV.i64 a0, AV.i64 a1, AV.sl a2.length (a2.map AV.i64)]) rfl rfl (LOp.nilCheck_ptr rfl rfl) <|
          (TR.l (r := AV.ptr [AV.sl a2.length (a2.map AV.i64)]) rfl rfl (LOp.fap und31 rfl siz25 rfl rfl rfl) <|
          (TR.l (r := AV.sl a2.length (a2.map AV.i64)) rfl rfl (LOp.load1 agg25 rfl rfl) <|
          (TR.l (r := AV.i64 (a2.length : Int)) rfl rfl (LOp.len_sl und25 rfl rfl) <|
          (TR.l (r := AV.ptr [AV.i64 a0, AV.i64 a1, AV.sl a2.length (a2.map AV.i64)]) rfl rfl (LOp.move rfl rfl) <|
          (TR.l (r := AV.ptr [AV.i64 a0, AV.i64 a1, AV.sl a2.length (a2.map AV.i64)]) rfl rfl (LOp.nilCheck_ptr rfl rfl) <|
          (TR.l (r := AV.ptr [AV.i64 a0, AV.i64 a1, AV.sl a2.length (a2.map AV.i64)]) rfl rfl (LOp.fap und31 rfl siz2 rfl rfl rfl) <|
          (TR.l (r := AV.i64 a0) rfl rfl (LOp.load1 agg2 rfl rfl) <|
          (TR.l (r := AV.ptr [AV.i64 a0, AV.i64 a1, AV.sl a2.length (a2.map AV.i64)]) rfl rfl (LOp.move rfl rfl) <|
          (TR.l (r := AV.ptr [AV.i64 a0, AV.i64 a1, AV.sl a2.length (a2.map AV.i64)]) rfl rfl (LOp.nilCheck_ptr rfl rfl) <|
          (TR.l (r := AV.ptr [AV.i64 a1, AV.sl a2.length (a2.map AV.i64)]) rfl rfl (LOp.fap und31 rfl siz2 rfl rfl rfl) <|
          (TR.l (r := AV.i64 a1) rfl rfl (LOp.load1 agg2 rfl rfl) <|
          (TR.l (r := AV.i64 x3) rfl rfl (LOp.eqr (LOp.mul rfl rfl rfl) (congrArg (AV.ik .i64) hx5)) <|
          (TR.l (r := AV.b true) rfl rfl (LOp.eqb (LOp.eql rfl rfl rfl) hc6) <|
          (TR.l (r := AV.b true) rfl rfl (LOp.pick_true rfl rfl rfl) <|
          (TR.l (r := AV.b true) rfl rfl (LOp.move rfl rfl) <|
          (TR.l (r := AV.ptr [AV.i64 a0, AV.i64 a1, AV.sl a2.length (a2.map AV.i64)]) rfl rfl (LOp.move rfl rfl) <|
          (TR.l (r := AV.ptr [AV.i64 a0, AV.i64 a1, AV.sl a2.length (a2.map AV.i64)]) rfl rfl (LOp.nilCheck_ptr rfl rfl) <|
          (TR.l (r := AV.ptr [AV.sl a2.length (a2.map AV.i64)]) rfl rfl (LOp.fap und31 rfl siz25 rfl rfl rfl) <|
          (TR.l (r := AV.sl a2.length (a2.map AV.i64)) rfl rfl (LOp.load1 agg25 rfl rfl) <|
          (TR.l (r := AV.i64 a3) rfl rfl (LOp.move rfl rfl) <|
          (TR.d (r := AV.b r4) (fs := []) rfl rfl (TOp.callB (CallAs.func ent68 rfl rfl) (Bors.cons (Bor.sl (fun _ => rfl)) (Bors.cons (Bor.pure rfl) Bors.nil)) rfl rfl (s_l06Bound_ok a2 a3 r4 hf7)) <|
          (TR.l (r := AV.b r4) rfl rfl (LOp.pick_true rfl rfl rfl) <|
          (TR.l (r := AV.b r4) rfl rfl (LOp.assign rfl rfl) <|
          TR.nil)))))))))))))))))))))))))))))))))))))) rfl (by kernel_rfl) rfl fills_nil rfl ?_
        iterate 38 refine ROps.dropS ?_
        refine ROps.drop0 ?_
        refine ROps.nil ?_
        refine RunC.ret ?_
        have hq := Option.some.inj h
        subst q0
        exact bodyQ.pure (.inr rfl) rfl (Res.one rfl (RV.tmp rfl))
      · refine RunC.region_draw (Γ' := []) 38 mixed 
          (TR.l (r := AV.ptr [AV.i64 a0, AV.i64 a1, AV.sl a2.length (a2.map AV.i64)]) rfl rfl (LOp.move rfl rfl) <|
          (TR.l (r := AV.ptr [AV.i64 a0, AV.i64 a1, AV.sl a2.length (a2.map AV.i64)]) rfl rfl (LOp.nilCheck_ptr rfl rfl) <|
          (TR.l (r := AV.ptr [AV.i64 a0, AV.i64 a1, AV.sl a2.length (a2.map AV.i64)]) rfl rfl (LOp.fap und31 rfl siz2 rfl rfl rfl) <|
          (TR.l (r := AV.i64 a0) rfl rfl (LOp.load1 agg2 rfl rfl) <|
          (TR.d (r := AV.b true) (fs := []) rfl rfl (TOp.eqb (TOp.callB (CallAs.func ent67 rfl rfl) (Bors.cons (Bor.pure rfl) (Bors.cons (Bor.pure rfl) (Bors.cons (Bor.pure rfl) Bors.nil))) rfl rfl (s_l00In_ok a0 1 6 r1 hf1)) hc2) <|
          (TR.l (r := AV.b true) rfl rfl (LOp.move rfl rfl) <|
          (TR.l (r := AV.ptr [AV.i64 a0, AV.i64 a1, AV.sl a2.length (a2.map AV.i64)]) rfl rfl (LOp.move rfl rfl) <|
          (TR.l (r := AV.ptr [AV.i64 a0, AV.i64 a1, AV.sl a2.length (a2.map AV.i64)]) rfl rfl (LOp.nilCheck_ptr rfl rfl) <|
          (TR.l (r := AV.ptr [AV.i64 a1, AV.sl a2.length (a2.map AV.i64)]) rfl rfl (LOp.fap und31 rfl siz2 rfl rfl rfl) <|
          (TR.l (r := AV.i64 a1) rfl rfl (LOp.load1 agg2 rfl rfl) <|
          (TR.d (r := AV.b true) (fs := []) rfl rfl (TOp.eqb (TOp.callB (CallAs.func ent67 rfl rfl) (Bors.cons (Bor.pure rfl) (Bors.cons (Bor.pure rfl) (Bors.cons (Bor.pure rfl) Bors.nil))) rfl rfl (s_l00In_ok a1 1 6 r2 hf3)) hc4) <|
          (TR.l (r := AV.b true) rfl rfl (LOp.pick_true rfl rfl rfl) <|
          (TR.l (r := AV.b true) rfl rfl (LOp.move rfl rfl) <|
          (TR.l (r := AV.ptr [AV.i64 a0, AV.i64 a1, AV.sl a2.length (a2.map AV.i64)]) rfl rfl (LOp.move rfl rfl) <|
          (TR.l (r := AV.ptr [AV.i64 a0, AV.i64 a1, AV.sl a2.length (a2.map AV.i64)]) rfl rfl (LOp.nilCheck_ptr rfl rfl) <|
          (TR.l (r := AV.ptr [AV.sl a2.length (a2.map AV.i64)]) rfl rfl (LOp.fap und31 rfl siz25 rfl rfl rfl) <|
          (TR.l (r := AV.sl a2.length (a2.map AV.i64)) rfl rfl (LOp.load1 agg25 rfl rfl) <|
          (TR.l (r := AV.i64 (a2.length : Int)) rfl rfl (LOp.len_sl und25 rfl rfl) <|
          (TR.l (r := AV.ptr [AV.i64 a0, AV.i64 a1, AV.sl a2.length (a2.map AV.i64)]) rfl rfl (LOp.move rfl rfl) <|
          (TR.l (r := AV.ptr [AV.i64 a0, AV.i64 a1, AV.sl a2.length (a2.map AV.i64)]) rfl rfl (LOp.nilCheck_ptr rfl rfl) <|
          (TR.l (r := AV.ptr [AV.i64 a0, AV.i64 a1, AV.sl a2.length (a2.map AV.i64)]) rfl rfl (LOp.fap und31 rfl siz2 rfl rfl rfl) <|
          (TR.l (r := AV.i64 a0) rfl rfl (LOp.load1 agg2 rfl rfl) <|
          (TR.l (r := AV.ptr [AV.i64 a0, AV.i64 a1, AV.sl a2.length (a2.map AV.i64)]) rfl rfl (LOp.move rfl rfl) <|
          (TR.l (r := AV.ptr [AV.i64 a0, AV.i64 a1, AV.sl a2.length (a2.map AV.i64)]) rfl rfl (LOp.nilCheck_ptr rfl rfl) <|
          (TR.l (r := AV.ptr [AV.i64 a1, AV.sl a2.length (a2.map AV.i64)]) rfl rfl (LOp.fap und31 rfl siz2 rfl rfl rfl) <|
          (TR.l (r := AV.i64 a1) rfl rfl (LOp.load1 agg2 rfl rfl) <|
          (TR.l (r := AV.i64 x3) rfl rfl (LOp.eqr (LOp.mul rfl rfl rfl) (congrArg (AV.ik .i64) hx5)) <|
          (TR.l (r := AV.b false) rfl rfl (LOp.eqb (LOp.eql rfl rfl rfl) hc6) <|
          (TR.l (r := AV.b false) rfl rfl (LOp.pick_true rfl rfl rfl) <|
          (TR.l (r := AV.b false) rfl rfl (LOp.move rfl rfl) <|
          (TR.s rfl rfl <|
          (TR.s rfl rfl <|
          (TR.s rfl rfl <|
          (TR.s rfl rfl <|
          (TR.s rfl rfl <|
          (TR.s rfl rfl <|
          (TR.l (r := AV.b false) rfl rfl (LOp.pick_false rfl rfl rfl) <|
          (TR.l (r := AV.b false) rfl rfl (LOp.assign rfl rfl) <|
          TR.nil)))))))))))))))))))))))))))))))))))))) rfl (by kernel_rfl) rfl fills_nil rfl ?_
        iterate 38 refine ROps.dropS ?_
        refine ROps.drop0 ?_
        refine ROps.nil ?_
        refine RunC.ret ?_
        have hq := Option.some.inj h
        subst q0
        exact bodyQ.pure (.inr rfl) rfl (Res.one rfl (RV.tmp rfl))
    · refine RunC.region_draw (Γ' := []) 38 mixed 
        (TR.l (r := AV.ptr [AV.i64 a0, AV.i64 a1, AV.sl a2.length (a2.map AV.i64)]) rfl rfl (LOp.move rfl rfl) <|
        (TR.l (r := AV.ptr [AV.i64 a0, AV.i64 a1, AV.sl a2.length (a2.map AV.i64)]) rfl rfl (LOp.nilCheck_ptr rfl rfl) <|
        (TR.l (r := AV.ptr [AV.i64 a0, AV.i64 a1, AV.sl a2.length (a2.map AV.i64)]) rfl rfl (LOp.fap und31 rfl siz2 rfl rfl rfl) <|
        (TR.l (r := AV.i64 a0) rfl rfl (LOp.load1 agg2 rfl rfl) <|
        (TR.d (r := AV.b true) (fs := []) rfl rfl (TOp.eqb (TOp.callB (CallAs.func ent67 rfl rfl) (Bors.cons (Bor.pure rfl) (Bors.cons (Bor.pure rfl) (Bors.cons (Bor.pure rfl) Bors.nil))) rfl rfl (s_l00In_ok a0 1 6 r1 hf1)) hc2) <|
        (TR.l (r := AV.b true) rfl rfl (LOp.move rfl rfl) <|
        (TR.l (r := AV.ptr [AV.i64 a0, AV.i64 a1, AV.sl a2.length (a2.map AV.i64)]) rfl rfl (LOp.move rfl rfl) <|
        (TR.l (r := AV.ptr [AV.i64 a0, AV.i64 a1, AV.sl a2.length (a2.map AV.i64)]) rfl rfl (LOp.nilCheck_ptr rfl rfl) <|
        (TR.l (r := AV.ptr [AV.i64 a1, AV.sl a2.length (a2.map AV.i64)]) rfl rfl (LOp.fap und31 rfl siz2 rfl rfl rfl) <|
        (TR.l (r := AV.i64 a1) rfl rfl (LOp.load1 agg2 rfl rfl) <|
        (TR.d (r := AV.b false) (fs := []) rfl rfl (TOp.eqb (TOp.callB (CallAs.func ent67 rfl rfl) (Bors.cons (Bor.pure rfl) (Bors.cons (Bor.pure rfl) (Bors.cons (Bor.pure rfl) Bors.nil))) rfl rfl (s_l00In_ok a1 1 6 r2 hf3)) hc4) <|
        (TR.l (r := AV.b false) rfl rfl (LOp.pick_true rfl rfl rfl) <|
        (TR.l (r := AV.b false) rfl rfl (LOp.move rfl rfl) <|
        (TR.s rfl rfl <|
        (TR.s rfl rfl <|
        (TR.s rfl rfl <|
        (TR.s rfl rfl <|
        (TR.s rfl rfl <|
        (TR.s rfl rfl <|
        (TR.s rfl rfl <|
        (TR.s rfl rfl <|
        (TR.s rfl rfl <|
        (TR.s rfl rfl <|
        (TR.s rfl rfl <|
        (TR.s rfl rfl <|
        (TR.s rfl rfl <|
        (TR.s rfl rfl <|
        (TR.s rfl rfl <|
        (TR.l (r := AV.b false) rfl rfl (LOp.pick_false rfl rfl rfl) <|
        (TR.l (r := AV.b false) rfl rfl (LOp.move rfl rfl) <|
        (TR.s rfl rfl <|
        (TR.s rfl rfl <|
        (TR.s rfl rfl <|
        (TR.s rfl rfl <|
        (TR.s rfl rfl <|
        (TR.s rfl rfl <|
        (TR.l (r := AV.b false) rfl rfl (LOp.pick_false rfl rfl rfl) <|
        (TR.l (r := AV.b false) rfl rfl (LOp.assign rfl rfl) <|
        TR.nil)))))))))))))))))))))))))))))))))))))) rfl (by kernel_rfl) rfl fills_nil rfl ?_
      iterate 38 refine ROps.dropS ?_
      refine ROps.drop0 ?_
      refine ROps.nil ?_
      refine RunC.ret ?_
      have hq := Option.some.inj h
      subst q0
      exact bodyQ.pure (.inr rfl) rfl (Res.one rfl (RV.tmp rfl))
  · refine RunC.region_draw (Γ' := []) 38 mixed 
      (TR.l (r := AV.ptr [AV.i64 a0, AV.i64 a1, AV.sl a2.length (a2.map AV.i64)]) rfl rfl (LOp.move rfl rfl) <|
      (TR.l (r := AV.ptr [AV.i64 a0, AV.i64 a1, AV.sl a2.length (a2.map AV.i64)]) rfl rfl (LOp.nilCheck_ptr rfl rfl) <|
      (TR.l (r := AV.ptr [AV.i64 a0, AV.i64 a1, AV.sl a2.length (a2.map AV.i64)]) rfl rfl (LOp.fap und31 rfl siz2 rfl rfl rfl) <|
      (TR.l (r := AV.i64 a0) rfl rfl (LOp.load1 agg2 rfl rfl) <|
      (TR.d (r := AV.b false) (fs := []) rfl rfl (TOp.eqb (TOp.callB (CallAs.func ent67 rfl rfl) (Bors.cons (Bor.pure rfl) (Bors.cons (Bor.pure rfl) (Bors.cons (Bor.pure rfl) Bors.nil))) rfl rfl (s_l00In_ok a0 1 6 r1 hf1)) hc2) <|
      (TR.l (r := AV.b false) rfl rfl (LOp.move rfl rfl) <|
      (TR.s rfl rfl <|
      (TR.s rfl rfl <|
      (TR.s rfl rfl <|
      (TR.s rfl rfl <|
      (TR.s rfl rfl <|
      (TR.l (r := AV.b false) rfl rfl (LOp.pick_false rfl rfl rfl) <|
      (TR.l (r := AV.b false) rfl rfl (LOp.move rfl rfl) <|
      (TR.s rfl rfl <|
      (TR.s rfl rfl <|
      (TR.s rfl rfl <|
      (TR.s rfl rfl <|
      (TR.s rfl rfl <|
      (TR.s rfl rfl <|
      (TR.s rfl rfl <|
      (TR.s rfl rfl <|
      (TR.s rfl rfl <|
      (TR.s rfl rfl <|
      (TR.s rfl rfl <|
      (TR.s rfl rfl <|
      (TR.s rfl rfl <|
      (TR.s rfl rfl <|
      (TR.s rfl rfl <|
      (TR.l (r := AV.b false) rfl rfl (LOp.pick_false rfl rfl rfl) <|
      (TR.l (r := AV.b false) rfl rfl (LOp.move rfl rfl) <|
      (TR.s rfl rfl <|
      (TR.s rfl rfl <|
      (TR.s rfl rfl <|
      (TR.s rfl rfl <|
      (TR.s rfl rfl <|
      (TR.s rfl rfl <|
      (TR.l (r := AV.b false) rfl rfl (LOp.pick_false rfl rfl rfl) <|
      (TR.l (r := AV.b false) rfl rfl (LOp.assign rfl rfl) <|
      TR.nil)))))))))))))))))))))))))))))))))))))) rfl (by kernel_rfl) rfl fills_nil rfl ?_
    iterate 38 refine ROps.dropS ?_
    refine ROps.drop0 ?_
    refine ROps.nil ?_
    refine RunC.ret ?_
    have hq := Option.some.inj h
    subst q0
    exact bodyQ.pure (.inr rfl) rfl (Res.one rfl (RV.tmp rfl))
noncomputable def s_l01Dec_k6 (l3 : List Int) (v4 : Int) (v7 : Int) : Option (LR ((List Int) × Int) ((List Int)) (ByteArray)) :=
  olet (IntKind.i64.wrap (48 + v7)) fun (x8 : Int) =>
  olet (IntKind.u8.wrap x8) fun (x9 : Int) =>
  need (apok 1 1 l3.length) <|
  need (!decide (10 = 0)) <|
  olet (IntKind.i64.wrap (v4.tdiv 10)) fun (x10 : Int) =>
  some (LR.next ((([x9] : List Int) ++ l3), x10))
noncomputable def s_l01Dec_k5 (l3 : List Int) (v4 : Int) : Option (LR ((List Int) × Int) ((List Int)) (ByteArray)) :=
  need (!decide (10 = 0)) <|
  olet (v4.tmod 10) fun (x5 : Int) =>
  bsel (decide (x5 < 0)) (
    olet (IntKind.i64.wrap (0 - x5)) fun (x6 : Int) =>
    s_l01Dec_k6 l3 v4 x6) (
    s_l01Dec_k6 l3 v4 x5)
noncomputable def s_l01Dec_b7 (l3 : List Int) (v4 : Int) : Option (LR ((List Int) × Int) ((List Int)) (ByteArray)) :=
  bsel (decide ((l3.length : Int) = 0)) (
    s_l01Dec_k5 l3 v4) (
    bsel (!decide (v4 = 0)) (
      s_l01Dec_k5 l3 v4) (
      some (LR.out l3)))
noncomputable def s_l01Dec_s7  : ((List Int) × Int) → Option (LR ((List Int) × Int) ((List Int)) (ByteArray)) := fun s => s_l01Dec_b7 s.1 s.2
noncomputable def s_l01Dec_k8 (l15 : List Int) : Option (ByteArray) :=
  some (strOfNums l15)
noncomputable def s_l01Dec_k7 (a0 : Int) (l13 : List Int) : Option (ByteArray) :=
  bsel (decide (a0 < 0)) (
    need (apok 1 1 l13.length) <|
    s_l01Dec_k8 (([45] : List Int) ++ l13)) (
    s_l01Dec_k8 l13)
noncomputable def s_l01Dec (a0 : Int) : Option (ByteArray) :=
  obind (loopM (s_l01Dec_s7) (([] : List Int), a0)) fun z => osum z (fun e => s_l01Dec_k7 a0 e) (fun r => some r)
theorem s_l01Dec_ok (a0 : Int) (q0 : ByteArray) (h : s_l01Dec a0 = some q0) : Ev Tryd.prog 73 [AV.i64 a0] [] (AV.str q0) [] := by
  refine Ev.start Tryd.func73 rfl rfl 2 (τ := [(0, AV.i64 a0)]) rfl (Γ' := [⟨0, none⟩, ⟨0, none⟩]) rfl (n := 73) rfl (g := 0) rfl (fun _ => rfl) ?_
  unfold s_l01Dec at h
  refine RunC.seq ?_
  refine RunC.regionW ?_
  refine ROps.l (r := AV.str lit_99ba06bc) rfl rfl rfl (LOp.assign rfl rfl) ?_
  refine ROps.nil ?_
  refine RunC.seq ?_
  refine RunC.regionW ?_
  refine ROps.d (r := AV.oref 0 1 0 0) (fs := [(0, (([] : List Int).map (AV.ik .u8)))]) (Γ' := [⟨1, some (([] : List Int).map (AV.ik .u8))⟩, ⟨0, none⟩]) rfl rfl rfl (TOp.buildSlice_o (g := ⟨0, none⟩) (za := AV.ik .u8 0) (qs := []) 0 rfl und75 siz5 zer5 rfl zel5 rfl rfl trivial rfl) rfl ?_
  refine ROps.l (r := AV.oref 0 1 0 0) rfl rfl rfl (LOp.assign rfl rfl) ?_
  refine ROps.nil ?_
  refine RunC.seq ?_
  refine RunC.regionW ?_
  refine ROps.l (r := AV.i64 a0) rfl rfl rfl (LOp.move rfl rfl) ?_
  refine ROps.l (r := AV.i64 a0) rfl rfl rfl (LOp.assign rfl rfl) ?_
  refine ROps.nil ?_
  refine RunC.seq ?_
  obtain ⟨z9, hz_9, h⟩ := obind_some h
  refine RunC.cutN (fun τ Γ => ∃ (l13 : List Int) (u11 : Nat) (u12 : Nat), Le 73 τ Γ [(0, AV.i64 a0), (3, AV.sl l13.length (l13.map (AV.ik .u8)))] [⟨u11, none⟩, ⟨u12, none⟩] ∧ z9 = .inl l13) ?_ ?_
  · refine RunC.block (RunC.loop (RunL.loopM (x := z9) (s_l01Dec_s7) (fun (s : (List Int) × Int) τ Γ => ∃ (u1 : Nat) (u2 : Nat), Le 73 τ Γ [(0, AV.i64 a0), (3, AV.sl s.1.length (s.1.map (AV.ik .u8))), (4, AV.i64 s.2)] [⟨u1, none⟩, ⟨u2, none⟩]) ?_ _ _ _ hz_9 ⟨1, 0, (Le.trans (Le.settle 0 [(0, AV.i64 a0), (3, AV.sl ([] : List Int).length (([] : List Int).map (AV.ik .u8))), (4, AV.i64 a0)] rfl rfl rfl ⟨.inl rfl, .inr (Bor.own (f := (AV.ik .u8)) (fun _ => rfl) rfl rfl), .inl rfl, trivial⟩) (Le.of ⟨(ALe.refl _), (ALe.refl _), (ALe.refl _), trivial⟩ ⟨⟨rfl, .inl rfl⟩, ⟨rfl, .inl rfl⟩, trivial⟩))⟩))
    rintro ⟨l3, v4⟩ τ9 Γ9 y9_ ⟨u1, u2, hw9⟩ h9_ ho9 hr9
    refine RunC.le (τ' := [(0, AV.i64 a0), (3, AV.sl l3.length (l3.map (AV.ik .u8))), (4, AV.i64 v4)]) (Γ' := [⟨u1, none⟩, ⟨u2, none⟩]) hw9 ?_
    replace h9_ : s_l01Dec_b7 l3 v4 = some y9_ := h9_
    unfold s_l01Dec_b7 at h9_
    refine RunC.seq ?_
    refine RunC.cutN (fun τ Γ =>  Le 73 τ Γ [(0, AV.i64 a0), (3, AV.sl l3.length (l3.map (AV.ik .u8))), (4, AV.i64 v4)] [⟨u1, none⟩, ⟨u2, none⟩] ∧ s_l01Dec_k5 l3 v4 = some y9_) ?_ ?_
    · refine RunC.seq ?_
      rcases bsel_some h9_ with ⟨hc1, h9_⟩ | ⟨hc1, h9_⟩
      · refine RunC.regionW ?_
        refine ROps.l (r := AV.sl l3.length (l3.map (AV.ik .u8))) rfl rfl rfl (LOp.move rfl rfl) ?_
        refine ROps.l (r := AV.i64 (l3.length : Int)) rfl rfl rfl (LOp.len_sl und75 rfl rfl) ?_
        refine ROps.l (r := AV.b true) rfl rfl rfl (LOp.eqb (LOp.eql rfl rfl rfl) hc1) ?_
        refine ROps.l (r := AV.b true) rfl rfl rfl (LOp.move rfl rfl) ?_
        refine ROps.s rfl rfl rfl ?_
        refine ROps.s rfl rfl rfl ?_
        refine ROps.l (r := AV.b true) rfl rfl rfl (LOp.pick_true rfl rfl rfl) ?_
        refine ROps.nil ?_
        refine RunC.cond_true rfl rfl ?_
        refine RunC.skip ?_
        exact ⟨(Le.of ⟨(ALe.refl _), (ALe.refl _), (ALe.refl _), trivial⟩ ⟨⟨rfl, .inl rfl⟩, ⟨rfl, .inl rfl⟩, trivial⟩), h9_⟩
      · rcases bsel_some h9_ with ⟨hc2, h9_⟩ | ⟨hc2, h9_⟩
        · refine RunC.regionW ?_
          refine ROps.l (r := AV.sl l3.length (l3.map (AV.ik .u8))) rfl rfl rfl (LOp.move rfl rfl) ?_
          refine ROps.l (r := AV.i64 (l3.length : Int)) rfl rfl rfl (LOp.len_sl und75 rfl rfl) ?_
          refine ROps.l (r := AV.b false) rfl rfl rfl (LOp.eqb (LOp.eql rfl rfl rfl) hc1) ?_
          refine ROps.l (r := AV.b false) rfl rfl rfl (LOp.move rfl rfl) ?_
          refine ROps.l (r := AV.i64 v4) rfl rfl rfl (LOp.move rfl rfl) ?_
          refine ROps.l (r := AV.b true) rfl rfl rfl (LOp.eqb (LOp.neq rfl rfl rfl) hc2) ?_
          refine ROps.l (r := AV.b true) rfl rfl rfl (LOp.pick_false rfl rfl rfl) ?_
          refine ROps.nil ?_
          refine RunC.cond_true rfl rfl ?_
          refine RunC.skip ?_
          exact ⟨(Le.of ⟨(ALe.refl _), (ALe.refl _), (ALe.refl _), trivial⟩ ⟨⟨rfl, .inl rfl⟩, ⟨rfl, .inl rfl⟩, trivial⟩), h9_⟩
        · refine RunC.regionW ?_
          refine ROps.l (r := AV.sl l3.length (l3.map (AV.ik .u8))) rfl rfl rfl (LOp.move rfl rfl) ?_
          refine ROps.l (r := AV.i64 (l3.length : Int)) rfl rfl rfl (LOp.len_sl und75 rfl rfl) ?_
          refine ROps.l (r := AV.b false) rfl rfl rfl (LOp.eqb (LOp.eql rfl rfl rfl) hc1) ?_
          refine ROps.l (r := AV.b false) rfl rfl rfl (LOp.move rfl rfl) ?_
          refine ROps.l (r := AV.i64 v4) rfl rfl rfl (LOp.move rfl rfl) ?_
          refine ROps.l (r := AV.b false) rfl rfl rfl (LOp.eqb (LOp.neq rfl rfl rfl) hc2) ?_
          refine ROps.l (r := AV.b false) rfl rfl rfl (LOp.pick_false rfl rfl rfl) ?_
          refine ROps.nil ?_
          refine RunC.cond_false rfl rfl ?_
          refine RunC.exit ?_
          cases Option.some.inj h9_
          have hx := ho9 _ rfl
          exact ⟨l3, u1, u2, (Le.of ⟨(ALe.refl _), (ALe.refl _), trivial⟩ ⟨⟨rfl, .inl rfl⟩, ⟨rfl, .inl rfl⟩, trivial⟩), hx⟩
    · rintro τ10 Γ10 ⟨hw10, h9_⟩
      refine RunC.le (τ' := [(0, AV.i64 a0), (3, AV.sl l3.length (l3.map (AV.ik .u8))), (4, AV.i64 v4)]) (Γ' := [⟨u1, none⟩, ⟨u2, none⟩]) hw10 ?_
      unfold s_l01Dec_k5 at h9_
      refine RunC.block ?_
      refine RunC.seq ?_
      obtain ⟨hz3, h9_⟩ := need_some h9_
      obtain ⟨x5, hx4, h9_⟩ := olet_some h9_
      refine RunC.regionW ?_
      refine ROps.l (r := AV.i64 v4) rfl rfl rfl (LOp.move rfl rfl) ?_
      refine ROps.l (r := AV.i64 x5) rfl rfl rfl (LOp.eqr (LOp.rem rfl rfl rfl (nz hz3)) (congrArg (AV.ik .i64) hx4)) ?_
      refine ROps.l (r := AV.i64 x5) rfl rfl rfl (LOp.assign rfl rfl) ?_
      refine ROps.nil ?_
      refine RunC.seq ?_
      refine RunC.cutN (fun τ Γ => ∃ (v7 : Int), Le 73 τ Γ [(0, AV.i64 a0), (3, AV.sl l3.length (l3.map (AV.ik .u8))), (4, AV.i64 v4), (5, AV.i64 v7)] [⟨u1, none⟩, ⟨u2, none⟩] ∧ s_l01Dec_k6 l3 v4 v7 = some y9_) ?_ ?_
      · refine RunC.seq ?_
        rcases bsel_some h9_ with ⟨hc5, h9_⟩ | ⟨hc5, h9_⟩
        · refine RunC.regionW ?_
          refine ROps.l (r := AV.i64 x5) rfl rfl rfl (LOp.move rfl rfl) ?_
          refine ROps.l (r := AV.b true) rfl rfl rfl (LOp.eqb (LOp.lss rfl rfl rfl) hc5) ?_
          refine ROps.nil ?_
          refine RunC.cond_true rfl rfl ?_
          obtain ⟨x6, hx6, h9_⟩ := olet_some h9_
          refine RunC.regionW ?_
          refine ROps.l (r := AV.i64 x5) rfl rfl rfl (LOp.move rfl rfl) ?_
          refine ROps.l (r := AV.i64 x6) rfl rfl rfl (LOp.eqr (LOp.neg_int rfl rfl) (congrArg (AV.ik .i64) hx6)) ?_
          refine ROps.l (r := AV.i64 x6) rfl rfl rfl (LOp.assign rfl rfl) ?_
          refine ROps.nil ?_
          exact ⟨x6, (Le.of ⟨(ALe.refl _), (ALe.refl _), (ALe.refl _), (ALe.refl _), trivial⟩ ⟨⟨rfl, .inl rfl⟩, ⟨rfl, .inl rfl⟩, trivial⟩), h9_⟩
        · refine RunC.regionW ?_
          refine ROps.l (r := AV.i64 x5) rfl rfl rfl (LOp.move rfl rfl) ?_
          refine ROps.l (r := AV.b false) rfl rfl rfl (LOp.eqb (LOp.lss rfl rfl rfl) hc5) ?_
          refine ROps.nil ?_
          refine RunC.cond_false rfl rfl ?_
          refine RunC.skip ?_
          exact ⟨x5, (Le.of ⟨(ALe.refl _), (ALe.refl _), (ALe.refl _), (ALe.refl _), trivial⟩ ⟨⟨rfl, .inl rfl⟩, ⟨rfl, .inl rfl⟩, trivial⟩), h9_⟩
      · rintro τ11 Γ11 ⟨v7, hw11, h9_⟩
        refine RunC.le (τ' := [(0, AV.i64 a0), (3, AV.sl l3.length (l3.map (AV.ik .u8))), (4, AV.i64 v4), (5, AV.i64 v7)]) (Γ' := [⟨u1, none⟩, ⟨u2, none⟩]) hw11 ?_
        unfold s_l01Dec_k6 at h9_
        refine RunC.seq ?_
        obtain ⟨x8, hx7, h9_⟩ := olet_some h9_
        obtain ⟨x9, hx8, h9_⟩ := olet_some h9_
        obtain ⟨hm9, h9_⟩ := need_some h9_
        refine RunC.regionW ?_
        refine ROps.l (r := AV.i64 v7) rfl rfl rfl (LOp.move rfl rfl) ?_
        refine ROps.l (r := AV.i64 x8) rfl rfl rfl (LOp.eqr (LOp.add rfl rfl rfl) (congrArg (AV.ik .i64) hx7)) ?_
        refine ROps.l (r := AV.ik .u8 x9) rfl rfl rfl (LOp.eqr (LOp.i2i (src := 2) (dst := 5) ⟨_, pun2⟩ pun5 rfl rfl) (congrArg (AV.ik .u8) hx8)) ?_
        refine ROps.d (r := AV.oref 0 (u1 + 1) 0 1) (fs := [(0, (([x9] : List Int).map (AV.ik .u8)))]) (Γ' := [⟨(u1 + 1), some (([x9] : List Int).map (AV.ik .u8))⟩, ⟨u2, none⟩]) rfl rfl rfl (TOp.buildSlice_o (g := ⟨u1, none⟩) (za := AV.ik .u8 0) (qs := [(0, [AV.ik .u8 x9])]) 0 rfl und75 siz5 zer5 rfl zel5 rfl rfl ⟨rfl, ⟨_, ALe.refl _, rfl⟩, trivial⟩ rfl) rfl ?_
        refine ROps.l (r := AV.sl l3.length (l3.map (AV.ik .u8))) rfl rfl rfl (LOp.move rfl rfl) ?_
        refine ROps.app (f := (AV.ik .u8)) (xs := ([x9] : List Int)) (ys := l3) (Γ' := [⟨(u1 + 2), some ((([x9] : List Int) ++ l3).map (AV.ik .u8))⟩, ⟨u2, none⟩]) rfl pun75 inf5 rfl rfl rfl rfl rfl rfl rfl rfl rfl (by simp) (ReadAs.sl (by simp)) (ones_map (fun _ => rfl)) (ap_by hm9) (ap_mx hm9) rfl ?_
        refine ROps.l (r := AV.oref 0 (u1 + 2) 0 (1 + l3.length)) rfl rfl rfl (LOp.assign rfl rfl) ?_
        refine ROps.nil ?_
        obtain ⟨hz10, h9_⟩ := need_some h9_
        obtain ⟨x10, hx11, h9_⟩ := olet_some h9_
        refine RunC.regionW ?_
        refine ROps.l (r := AV.i64 v4) rfl rfl rfl (LOp.move rfl rfl) ?_
        refine ROps.l (r := AV.i64 x10) rfl rfl rfl (LOp.eqr (LOp.quo rfl rfl rfl (nz hz10)) (congrArg (AV.ik .i64) hx11)) ?_
        refine ROps.l (r := AV.i64 x10) rfl rfl rfl (LOp.assign rfl rfl) ?_
        refine ROps.nil ?_
        cases Option.some.inj h9_
        exact ⟨_, rfl, (u1 + 2), u2, (Le.trans (Le.settle 0 [(0, AV.i64 a0), (3, AV.sl (([x9] : List Int) ++ l3).length ((([x9] : List Int) ++ l3).map (AV.ik .u8))), (4, AV.i64 x10)] rfl rfl rfl ⟨.inl rfl, .inr (Bor.own (f := (AV.ik .u8)) (fun _ => rfl) rfl (show (([x9] : List Int) ++ l3).length = (1 + l3.length) from (app_len rfl rfl))), .inl rfl, trivial⟩) (Le.of ⟨(ALe.refl _), (ALe.refl _), (ALe.refl _), trivial⟩ ⟨⟨rfl, .inl rfl⟩, ⟨rfl, .inl rfl⟩, trivial⟩))⟩
  · rintro τ12 Γ12 ⟨l13, u11, u12, hw12, rfl⟩
    refine RunC.le (τ' := [(0, AV.i64 a0), (3, AV.sl l13.length (l13.map (AV.ik .u8)))]) (Γ' := [⟨u11, none⟩, ⟨u12, none⟩]) hw12 ?_
    replace h : s_l01Dec_k7 a0 l13 = some q0 := h
    unfold s_l01Dec_k7 at h
    refine RunC.seq ?_
    refine RunC.cutN (fun τ Γ => ∃ (l15 : List Int) (u14 : Nat), Le 73 τ Γ [(3, AV.sl l15.length (l15.map (AV.ik .u8)))] [⟨u14, none⟩, ⟨u12, none⟩] ∧ s_l01Dec_k8 l15 = some q0) ?_ ?_
    · refine RunC.seq ?_
      rcases bsel_some h with ⟨hc12, h⟩ | ⟨hc12, h⟩
      · refine RunC.regionW ?_
        refine ROps.l (r := AV.i64 a0) rfl rfl rfl (LOp.move rfl rfl) ?_
        refine ROps.l (r := AV.b true) rfl rfl rfl (LOp.eqb (LOp.lss rfl rfl rfl) hc12) ?_
        refine ROps.nil ?_
        refine RunC.cond_true rfl rfl ?_
        obtain ⟨hm13, h⟩ := need_some h
        refine RunC.regionW ?_
        refine ROps.d (r := AV.oref 0 (u11 + 1) 0 1) (fs := [(0, (([45] : List Int).map (AV.ik .u8)))]) (Γ' := [⟨(u11 + 1), some (([45] : List Int).map (AV.ik .u8))⟩, ⟨u12, none⟩]) rfl rfl rfl (TOp.buildSlice_o (g := ⟨u11, none⟩) (za := AV.ik .u8 0) (qs := [(0, [AV.ik .u8 45])]) 0 rfl und75 siz5 zer5 rfl zel5 rfl rfl ⟨rfl, ⟨_, ALe.refl _, rfl⟩, trivial⟩ rfl) rfl ?_
        refine ROps.l (r := AV.sl l13.length (l13.map (AV.ik .u8))) rfl rfl rfl (LOp.move rfl rfl) ?_
        refine ROps.app (f := (AV.ik .u8)) (xs := ([45] : List Int)) (ys := l13) (Γ' := [⟨(u11 + 2), some ((([45] : List Int) ++ l13).map (AV.ik .u8))⟩, ⟨u12, none⟩]) rfl pun75 inf5 rfl rfl rfl rfl rfl rfl rfl rfl rfl (by simp) (ReadAs.sl (by simp)) (ones_map (fun _ => rfl)) (ap_by hm13) (ap_mx hm13) rfl ?_
        refine ROps.l (r := AV.oref 0 (u11 + 2) 0 (1 + l13.length)) rfl rfl rfl (LOp.assign rfl rfl) ?_
        refine ROps.nil ?_
        exact ⟨(([45] : List Int) ++ l13), (u11 + 2), (Le.trans (Le.settle 0 [(3, AV.sl (([45] : List Int) ++ l13).length ((([45] : List Int) ++ l13).map (AV.ik .u8)))] rfl rfl rfl ⟨.inr (Bor.own (f := (AV.ik .u8)) (fun _ => rfl) rfl (show (([45] : List Int) ++ l13).length = (1 + l13.length) from (app_len rfl rfl))), trivial⟩) (Le.of ⟨(ALe.refl _), trivial⟩ ⟨⟨rfl, .inl rfl⟩, ⟨rfl, .inl rfl⟩, trivial⟩)), h⟩
      · refine RunC.regionW ?_
        refine ROps.l (r := AV.i64 a0) rfl rfl rfl (LOp.move rfl rfl) ?_
        refine ROps.l (r := AV.b false) rfl rfl rfl (LOp.eqb (LOp.lss rfl rfl rfl) hc12) ?_
        refine ROps.nil ?_
        refine RunC.cond_false rfl rfl ?_
        refine RunC.skip ?_
        exact ⟨l13, u11, (Le.of ⟨(ALe.refl _), trivial⟩ ⟨⟨rfl, .inl rfl⟩, ⟨rfl, .inl rfl⟩, trivial⟩), h⟩
    · rintro τ13 Γ13 ⟨l15, u14, hw13, h⟩
      refine RunC.le (τ' := [(3, AV.sl l15.length (l15.map (AV.ik .u8)))]) (Γ' := [⟨u14, none⟩, ⟨u12, none⟩]) hw13 ?_
      unfold s_l01Dec_k8 at h
      refine RunC.seq ?_
      refine RunC.regionW ?_
      refine ROps.l (r := AV.sl l15.length (l15.map (AV.ik .u8))) rfl rfl rfl (LOp.move rfl rfl) ?_
      refine ROps.d (r := AV.str (strOfNums l15)) (fs := []) (Γ' := [⟨u14, none⟩, ⟨u12, none⟩]) rfl rfl rfl (TOp.b2s (xs := l15) pun75 pun5 pun9 rfl (fun _ _ => ReadAs.sl (by simp))) rfl ?_
      refine ROps.l (r := AV.str (strOfNums l15)) rfl rfl rfl (LOp.assign rfl rfl) ?_
      refine ROps.nil ?_
      refine RunC.ret ?_
      have hq := Option.some.inj h
      subst q0
      exact bodyQ.pure (.inr rfl) rfl (Res.one rfl (RV.tmp rfl))
noncomputable def s_l01Text_b1 (a0 : List Int) (s3 : ByteArray) (v4 : Int) : Option (LR (ByteArray × Int) (ByteArray) (ByteArray)) :=
  bsel (decide (v4 < (a0.length : Int))) (
    obind (at? a0 v4) fun (e5 : Int) =>
    obind (s_l01Dec e5) fun (r6 : ByteArray) =>
    obind (cats? lit_be717853 r6) fun (t7 : ByteArray) =>
    obind (cats? s3 t7) fun (t8 : ByteArray) =>
    olet (IntKind.i64.wrap (v4 + 1)) fun (x9 : Int) =>
    some (LR.next (t8, x9))) (
    some (LR.out s3))
noncomputable def s_l01Text_s1 (a0 : List Int) : (ByteArray × Int) → Option (LR (ByteArray × Int) (ByteArray) (ByteArray)) := fun s => s_l01Text_b1 a0 s.1 s.2
noncomputable def s_l01Text_k1 (s10 : ByteArray) : Option (ByteArray) :=
  some s10
noncomputable def s_l01Text (a0 : List Int) : Option (ByteArray) :=
  bsel (decide ((a0.length : Int) = 0)) (
    some lit_5ac87db9) (
    obind (at? a0 0) fun (e1 : Int) =>
    obind (s_l01Dec e1) fun (r2 : ByteArray) =>
    obind (loopM (s_l01Text_s1 a0) (r2, 1)) fun z => osum z (fun e => s_l01Text_k1 e) (fun r => some r))
theorem s_l01Text_ok (a0 : List Int) (q0 : ByteArray) (h : s_l01Text a0 = some q0) : Ev Tryd.prog 69 [AV.sl a0.length (a0.map AV.i64)] [] (AV.str q0) [] := by
  refine Ev.start Tryd.func69 rfl rfl 0 (τ := [(0, AV.sl a0.length (a0.map AV.i64))]) rfl (Γ' := []) rfl (n := 55) rfl (g := 0) rfl (fun _ => rfl) ?_
  unfold s_l01Text at h
  refine RunC.seq ?_
  refine RunC.regionW ?_
  refine ROps.l (r := AV.str lit_99ba06bc) rfl rfl rfl (LOp.assign rfl rfl) ?_
  refine ROps.nil ?_
  refine RunC.seq ?_
  refine RunC.seq ?_
  rcases bsel_some h with ⟨hc1, h⟩ | ⟨hc1, h⟩
  · refine RunC.regionW ?_
    refine ROps.l (r := AV.sl a0.length (a0.map AV.i64)) rfl rfl rfl (LOp.move rfl rfl) ?_
    refine ROps.l (r := AV.i64 (a0.length : Int)) rfl rfl rfl (LOp.len_sl und25 rfl rfl) ?_
    refine ROps.l (r := AV.b true) rfl rfl rfl (LOp.eqb (LOp.eql rfl rfl rfl) hc1) ?_
    refine ROps.nil ?_
    refine RunC.cond_true rfl rfl ?_
    refine RunC.seq ?_
    refine RunC.regionW ?_
    refine ROps.l (r := AV.str lit_5ac87db9) rfl rfl rfl (LOp.assign rfl rfl) ?_
    refine ROps.nil ?_
    refine RunC.ret ?_
    have hq := Option.some.inj h
    subst q0
    exact bodyQ.pure (.inr rfl) rfl (Res.one rfl (RV.tmp rfl))
  · refine RunC.regionW ?_
    refine ROps.l (r := AV.sl a0.length (a0.map AV.i64)) rfl rfl rfl (LOp.move rfl rfl) ?_
    refine ROps.l (r := AV.i64 (a0.length : Int)) rfl rfl rfl (LOp.len_sl und25 rfl rfl) ?_
    refine ROps.l (r := AV.b false) rfl rfl rfl (LOp.eqb (LOp.eql rfl rfl rfl) hc1) ?_
    refine ROps.nil ?_
    refine RunC.cond_false rfl rfl ?_
    refine RunC.skip ?_
    refine RunC.seq ?_
    obtain ⟨e1, he2, h⟩ := obind_some h
    obtain ⟨r2, hf3, h⟩ := obind_some h
    refine RunC.regionW ?_
    refine ROps.l (r := AV.sl a0.length (a0.map AV.i64)) rfl rfl rfl (LOp.move rfl rfl) ?_
    refine ROps.l (r := AV.ptr [AV.i64 e1]) rfl rfl rfl (LOp.le (LOp.ix (f := AV.i64) und25 siz2 rfl rfl rfl rfl he2) ALe.ptr) ?_
    refine ROps.l (r := AV.i64 e1) rfl rfl rfl (LOp.load1 agg2 rfl rfl) ?_
    refine ROps.d (r := AV.str r2) (fs := []) (Γ' := []) rfl rfl rfl (TOp.callB (CallAs.func ent73 rfl rfl) (Bors.cons (Bor.pure rfl) Bors.nil) rfl rfl (s_l01Dec_ok e1 r2 hf3)) rfl ?_
    refine ROps.l (r := AV.str r2) rfl rfl rfl (LOp.assign rfl rfl) ?_
    refine ROps.nil ?_
    refine RunC.seq ?_
    refine RunC.seq ?_
    refine RunC.regionW ?_
    refine ROps.l (r := AV.i64 1) rfl rfl rfl (LOp.assign rfl rfl) ?_
    refine ROps.nil ?_
    obtain ⟨z2, hz_2, h⟩ := obind_some h
    refine RunC.cutN (fun τ Γ => ∃ (s10 : ByteArray), WeakLe τ [(3, AV.str s10)] ∧ DeadLe Γ [] ∧ z2 = .inl s10) ?_ ?_
    · refine RunC.block (RunC.loop (RunL.loopM (x := z2) (s_l01Text_s1 a0) (fun (s : ByteArray × Int) τ Γ => WeakLe τ [(0, AV.sl a0.length (a0.map AV.i64)), (3, AV.str s.1), (4, AV.i64 s.2)] ∧ DeadLe Γ []) ?_ _ _ _ hz_2 ⟨⟨(ALe.refl _), (ALe.refl _), (ALe.refl _), trivial⟩, trivial⟩))
      rintro ⟨s3, v4⟩ τ2 Γ2 y2_ ⟨hw2, hd2⟩ h2_ ho2 hr2
      refine RunC.wl (τ' := [(0, AV.sl a0.length (a0.map AV.i64)), (3, AV.str s3), (4, AV.i64 v4)]) (Γ' := []) hw2 hd2 ?_
      replace h2_ : s_l01Text_b1 a0 s3 v4 = some y2_ := h2_
      unfold s_l01Text_b1 at h2_
      refine RunC.seq ?_
      refine RunC.seq ?_
      rcases bsel_some h2_ with ⟨hc4, h2_⟩ | ⟨hc4, h2_⟩
      · refine RunC.regionW ?_
        refine ROps.l (r := AV.i64 v4) rfl rfl rfl (LOp.move rfl rfl) ?_
        refine ROps.l (r := AV.sl a0.length (a0.map AV.i64)) rfl rfl rfl (LOp.move rfl rfl) ?_
        refine ROps.l (r := AV.i64 (a0.length : Int)) rfl rfl rfl (LOp.len_sl und25 rfl rfl) ?_
        refine ROps.l (r := AV.b true) rfl rfl rfl (LOp.eqb (LOp.lss rfl rfl rfl) hc4) ?_
        refine ROps.nil ?_
        refine RunC.cond_true rfl rfl ?_
        refine RunC.skip ?_
        refine RunC.seq ?_
        refine RunC.block ?_
        obtain ⟨e5, he5, h2_⟩ := obind_some h2_
        obtain ⟨r6, hf6, h2_⟩ := obind_some h2_
        obtain ⟨t7, hs7, h2_⟩ := obind_some h2_
        obtain ⟨t8, hs8, h2_⟩ := obind_some h2_
        refine RunC.regionW ?_
        refine ROps.l (r := AV.str s3) rfl rfl rfl (LOp.move rfl rfl) ?_
        refine ROps.l (r := AV.sl a0.length (a0.map AV.i64)) rfl rfl rfl (LOp.move rfl rfl) ?_
        refine ROps.l (r := AV.i64 v4) rfl rfl rfl (LOp.move rfl rfl) ?_
        refine ROps.l (r := AV.ptr [AV.i64 e5]) rfl rfl rfl (LOp.le (LOp.ix (f := AV.i64) und25 siz2 rfl rfl rfl rfl he5) ALe.ptr) ?_
        refine ROps.l (r := AV.i64 e5) rfl rfl rfl (LOp.load1 agg2 rfl rfl) ?_
        refine ROps.d (r := AV.str r6) (fs := []) (Γ' := []) rfl rfl rfl (TOp.callB (CallAs.func ent73 rfl rfl) (Bors.cons (Bor.pure rfl) Bors.nil) rfl rfl (s_l01Dec_ok e5 r6 hf6)) rfl ?_
        refine ROps.l (r := AV.str t7) rfl rfl rfl (LOp.cats rfl rfl rfl hs7) ?_
        refine ROps.l (r := AV.str t8) rfl rfl rfl (LOp.cats rfl rfl rfl hs8) ?_
        refine ROps.l (r := AV.str t8) rfl rfl rfl (LOp.assign rfl rfl) ?_
        refine ROps.nil ?_
        obtain ⟨x9, hx9, h2_⟩ := olet_some h2_
        refine RunC.regionW ?_
        refine ROps.l (r := AV.i64 v4) rfl rfl rfl (LOp.move rfl rfl) ?_
        refine ROps.l (r := AV.i64 x9) rfl rfl rfl (LOp.eqr (LOp.add rfl rfl rfl) (congrArg (AV.ik .i64) hx9)) ?_
        refine ROps.l (r := AV.i64 x9) rfl rfl rfl (LOp.assign rfl rfl) ?_
        refine ROps.nil ?_
        cases Option.some.inj h2_
        exact ⟨_, rfl, ⟨(ALe.refl _), (ALe.refl _), (ALe.refl _), trivial⟩, trivial⟩
      · refine RunC.regionW ?_
        refine ROps.l (r := AV.i64 v4) rfl rfl rfl (LOp.move rfl rfl) ?_
        refine ROps.l (r := AV.sl a0.length (a0.map AV.i64)) rfl rfl rfl (LOp.move rfl rfl) ?_
        refine ROps.l (r := AV.i64 (a0.length : Int)) rfl rfl rfl (LOp.len_sl und25 rfl rfl) ?_
        refine ROps.l (r := AV.b false) rfl rfl rfl (LOp.eqb (LOp.lss rfl rfl rfl) hc4) ?_
        refine ROps.nil ?_
        refine RunC.cond_false rfl rfl ?_
        refine RunC.exit ?_
        cases Option.some.inj h2_
        have hx := ho2 _ rfl
        exact ⟨s3, ⟨(ALe.refl _), trivial⟩, trivial, hx⟩
    · rintro τ3 Γ3 ⟨s10, hw3, hd3, rfl⟩
      refine RunC.wl (τ' := [(3, AV.str s10)]) (Γ' := []) hw3 hd3 ?_
      replace h : s_l01Text_k1 s10 = some q0 := h
      unfold s_l01Text_k1 at h
      refine RunC.seq ?_
      refine RunC.regionW ?_
      refine ROps.l (r := AV.str s10) rfl rfl rfl (LOp.move rfl rfl) ?_
      refine ROps.l (r := AV.str s10) rfl rfl rfl (LOp.assign rfl rfl) ?_
      refine ROps.nil ?_
      refine RunC.ret ?_
      have hq := Option.some.inj h
      subst q0
      exact bodyQ.pure (.inr rfl) rfl (Res.one rfl (RV.tmp rfl))
noncomputable def s_l08Whole (a0 : Int) (a1 : Int) (a2 : List Int) : Option (ByteArray) :=
  obind (s_l01Text ([a0, a1] : List Int)) fun (r1 : ByteArray) =>
  obind (cats? r1 lit_b7340269) fun (t2 : ByteArray) =>
  obind (s_l01Text a2) fun (r3 : ByteArray) =>
  obind (cats? t2 r3) fun (t4 : ByteArray) =>
  some t4
theorem s_l08Whole_ok (a0 : Int) (a1 : Int) (a2 : List Int) (q0 : ByteArray) (h : s_l08Whole a0 a1 a2 = some q0) : Ev Tryd.prog 40 [AV.ptr [AV.i64 a0, AV.i64 a1, AV.sl a2.length (a2.map AV.i64)]] [] (AV.str q0) [] := by
  refine Ev.start Tryd.func40 rfl rfl 0 (τ := [(0, AV.ptr [AV.i64 a0, AV.i64 a1, AV.sl a2.length (a2.map AV.i64)])]) rfl (Γ' := []) rfl (n := 41) rfl (g := 0) rfl (fun _ => rfl) ?_
  unfold s_l08Whole at h
  refine RunC.seq ?_
  refine RunC.regionW ?_
  refine ROps.l (r := AV.str lit_99ba06bc) rfl rfl rfl (LOp.assign rfl rfl) ?_
  refine ROps.nil ?_
  refine RunC.seq ?_
  obtain ⟨r1, hf1, h⟩ := obind_some h
  obtain ⟨t2, hs2, h⟩ := obind_some h
  obtain ⟨r3, hf3, h⟩ := obind_some h
  obtain ⟨t4, hs4, h⟩ := obind_some h
  refine RunC.region_draw (Γ' := []) 18 mixed 
    (TR.l (r := AV.ptr [AV.i64 a0, AV.i64 a1, AV.sl a2.length (a2.map AV.i64)]) rfl rfl (LOp.move rfl rfl) <|
    (TR.l (r := AV.ptr [AV.i64 a0, AV.i64 a1, AV.sl a2.length (a2.map AV.i64)]) rfl rfl (LOp.nilCheck_ptr rfl rfl) <|
    (TR.l (r := AV.ptr [AV.i64 a0, AV.i64 a1, AV.sl a2.length (a2.map AV.i64)]) rfl rfl (LOp.fap und31 rfl siz2 rfl rfl rfl) <|
    (TR.l (r := AV.i64 a0) rfl rfl (LOp.load1 agg2 rfl rfl) <|
    (TR.l (r := AV.ptr [AV.i64 a0, AV.i64 a1, AV.sl a2.length (a2.map AV.i64)]) rfl rfl (LOp.move rfl rfl) <|
    (TR.l (r := AV.ptr [AV.i64 a0, AV.i64 a1, AV.sl a2.length (a2.map AV.i64)]) rfl rfl (LOp.nilCheck_ptr rfl rfl) <|
    (TR.l (r := AV.ptr [AV.i64 a1, AV.sl a2.length (a2.map AV.i64)]) rfl rfl (LOp.fap und31 rfl siz2 rfl rfl rfl) <|
    (TR.l (r := AV.i64 a1) rfl rfl (LOp.load1 agg2 rfl rfl) <|
    (TR.d (r := AV.sl ([a0, a1] : List Int).length (([a0, a1] : List Int).map AV.i64)) (fs := []) rfl rfl (TOp.buildSlice_s (za := AV.i64 0) (qs := [(0, [AV.i64 a0]), (1, [AV.i64 a1])]) und25 siz2 zer2 rfl zel2 rfl rfl ⟨rfl, ⟨_, ALe.refl _, rfl⟩, ⟨rfl, ⟨_, ALe.refl _, rfl⟩, trivial⟩⟩ rfl) <|
    (TR.d (r := AV.str r1) (fs := []) rfl rfl (TOp.callB (CallAs.func ent69 rfl rfl) (Bors.cons (Bor.sl (fun _ => rfl)) Bors.nil) rfl rfl (s_l01Text_ok ([a0, a1] : List Int) r1 hf1)) <|
    (TR.l (r := AV.str t2) rfl rfl (LOp.cats rfl rfl rfl hs2) <|
    (TR.l (r := AV.ptr [AV.i64 a0, AV.i64 a1, AV.sl a2.length (a2.map AV.i64)]) rfl rfl (LOp.move rfl rfl) <|
    (TR.l (r := AV.ptr [AV.i64 a0, AV.i64 a1, AV.sl a2.length (a2.map AV.i64)]) rfl rfl (LOp.nilCheck_ptr rfl rfl) <|
    (TR.l (r := AV.ptr [AV.sl a2.length (a2.map AV.i64)]) rfl rfl (LOp.fap und31 rfl siz25 rfl rfl rfl) <|
    (TR.l (r := AV.sl a2.length (a2.map AV.i64)) rfl rfl (LOp.load1 agg25 rfl rfl) <|
    (TR.d (r := AV.str r3) (fs := []) rfl rfl (TOp.callB (CallAs.func ent69 rfl rfl) (Bors.cons (Bor.sl (fun _ => rfl)) Bors.nil) rfl rfl (s_l01Text_ok a2 r3 hf3)) <|
    (TR.l (r := AV.str t4) rfl rfl (LOp.cats rfl rfl rfl hs4) <|
    (TR.l (r := AV.str t4) rfl rfl (LOp.assign rfl rfl) <|
    TR.nil)))))))))))))))))) rfl (by kernel_rfl) rfl fills_nil rfl ?_
  iterate 18 refine ROps.dropS ?_
  refine ROps.drop0 ?_
  refine ROps.nil ?_
  refine RunC.ret ?_
  have hq := Option.some.inj h
  subst q0
  exact bodyQ.pure (.inr rfl) rfl (Res.one rfl (RV.tmp rfl))
noncomputable def s_WholeText (a0 : Int) (a1 : Int) (a2 : List Int) : Option (ByteArray × Bool) :=
  obind (s_l06Is a0 a1 a2 1000000) fun (r1 : Bool) =>
  bsel r1 (
    obind (s_l08Whole a0 a1 a2) fun (r2 : ByteArray) =>
    some (r2, true)) (
    some (lit_99ba06bc, false))
theorem s_WholeText_ok (a0 : Int) (a1 : Int) (a2 : List Int) (q0 : ByteArray) (q1 : Bool) (h : s_WholeText a0 a1 a2 = some (q0, q1)) : Ev Tryd.prog 12 [AV.agg [AV.i64 a0, AV.i64 a1, AV.sl a2.length (a2.map AV.i64)]] [] (AV.tup [AV.str q0, AV.b q1]) [] := by
  refine Ev.start Tryd.func12 rfl rfl 0 (τ := [(0, AV.agg [AV.i64 a0, AV.i64 a1, AV.sl a2.length (a2.map AV.i64)])]) rfl (Γ' := []) rfl (n := 15) rfl (g := 0) rfl (fun _ => rfl) ?_
  unfold s_WholeText at h
  refine RunC.seq ?_
  refine RunC.regionW ?_
  refine ROps.d (r := AV.ptr [AV.i64 a0, AV.i64 a1, AV.sl a2.length (a2.map AV.i64)]) (fs := []) (Γ' := []) rfl rfl rfl (TOp.box_s rfl rfl rfl) rfl ?_
  refine ROps.l (r := AV.str lit_99ba06bc) rfl rfl rfl (LOp.assign rfl rfl) ?_
  refine ROps.l (r := AV.b false) rfl rfl rfl (LOp.assign rfl rfl) ?_
  refine ROps.nil ?_
  refine RunC.seq ?_
  refine RunC.seq ?_
  obtain ⟨r1, hf1, h⟩ := obind_some h
  rcases bsel_some h with ⟨hc2, h⟩ | ⟨hc2, h⟩
  · refine RunC.regionW ?_
    refine ROps.d (r := AV.b true) (fs := []) (Γ' := []) rfl rfl rfl (TOp.eqb (TOp.callB (CallAs.func ent39 rfl rfl) (Bors.cons (Bor.ptr (Bors.cons (Bor.pure rfl) (Bors.cons (Bor.pure rfl) (Bors.cons (Bor.sl (fun _ => rfl)) Bors.nil)))) (Bors.cons (Bor.pure rfl) Bors.nil)) rfl rfl (s_l06Is_ok a0 a1 a2 1000000 r1 hf1)) hc2) rfl ?_
    refine ROps.l (r := AV.b false) rfl rfl rfl (LOp.eqb (LOp.not rfl rfl) rfl) ?_
    refine ROps.nil ?_
    refine RunC.cond_false rfl rfl ?_
    refine RunC.skip ?_
    refine RunC.seq ?_
    obtain ⟨r2, hf3, h⟩ := obind_some h
    refine RunC.regionW ?_
    refine ROps.d (r := AV.str r2) (fs := []) (Γ' := []) rfl rfl rfl (TOp.callB (CallAs.func ent40 rfl rfl) (Bors.cons (Bor.ptr (Bors.cons (Bor.pure rfl) (Bors.cons (Bor.pure rfl) (Bors.cons (Bor.sl (fun _ => rfl)) Bors.nil)))) Bors.nil) rfl rfl (s_l08Whole_ok a0 a1 a2 r2 hf3)) rfl ?_
    refine ROps.l (r := AV.str r2) rfl rfl rfl (LOp.assign rfl rfl) ?_
    refine ROps.l (r := AV.b true) rfl rfl rfl (LOp.assign rfl rfl) ?_
    refine ROps.nil ?_
    refine RunC.ret ?_
    have hq := Option.some.inj h
    obtain ⟨hq0, hq⟩ := Prod.mk.inj hq
    subst q0
    subst q1
    exact bodyQ.pure (.inr rfl) rfl (Res.two rfl (RV.tmp rfl) (RV.tmp rfl))
  · refine RunC.regionW ?_
    refine ROps.d (r := AV.b false) (fs := []) (Γ' := []) rfl rfl rfl (TOp.eqb (TOp.callB (CallAs.func ent39 rfl rfl) (Bors.cons (Bor.ptr (Bors.cons (Bor.pure rfl) (Bors.cons (Bor.pure rfl) (Bors.cons (Bor.sl (fun _ => rfl)) Bors.nil)))) (Bors.cons (Bor.pure rfl) Bors.nil)) rfl rfl (s_l06Is_ok a0 a1 a2 1000000 r1 hf1)) hc2) rfl ?_
    refine ROps.l (r := AV.b true) rfl rfl rfl (LOp.eqb (LOp.not rfl rfl) rfl) ?_
    refine ROps.nil ?_
    refine RunC.cond_true rfl rfl ?_
    refine RunC.seq ?_
    refine RunC.regionW ?_
    refine ROps.l (r := AV.str lit_99ba06bc) rfl rfl rfl (LOp.assign rfl rfl) ?_
    refine ROps.l (r := AV.b false) rfl rfl rfl (LOp.assign rfl rfl) ?_
    refine ROps.nil ?_
    refine RunC.ret ?_
    have hq := Option.some.inj h
    obtain ⟨hq0, hq⟩ := Prod.mk.inj hq
    subst q0
    subst q1
    exact bodyQ.pure (.inr rfl) rfl (Res.two rfl (RV.tmp rfl) (RV.tmp rfl))
noncomputable def i_inRange (a0 : Int) (a1 : Int) (a2 : Int) : Option (Bool) :=
  bsel (decide (a1 ≤ a0)) (
    some (decide (a0 ≤ a2))) (
    some false)
theorem i_inRange_ok (a0 : Int) (a1 : Int) (a2 : Int) (q0 : Bool) (h : i_inRange a0 a1 a2 = some q0) : Ev Tryd.prog 87 [AV.i64 a0, AV.i64 a1, AV.i64 a2] [] (AV.b q0) [] := by
  refine Ev.start Tryd.func87 rfl rfl 0 (τ := [(0, AV.i64 a0), (1, AV.i64 a1), (2, AV.i64 a2)]) rfl (Γ' := []) rfl (n := 31) rfl (g := 0) rfl (fun _ => rfl) ?_
  unfold i_inRange at h
  refine RunC.seq ?_
  refine RunC.regionW ?_
  refine ROps.l (r := AV.b false) rfl rfl rfl (LOp.assign rfl rfl) ?_
  refine ROps.nil ?_
  refine RunC.seq ?_
  rcases bsel_some h with ⟨hc1, h⟩ | ⟨hc1, h⟩
  · refine RunC.regionW ?_
    refine ROps.l (r := AV.i64 a1) rfl rfl rfl (LOp.move rfl rfl) ?_
    refine ROps.l (r := AV.i64 a0) rfl rfl rfl (LOp.move rfl rfl) ?_
    refine ROps.l (r := AV.b true) rfl rfl rfl (LOp.eqb (LOp.leq rfl rfl rfl) hc1) ?_
    refine ROps.l (r := AV.b true) rfl rfl rfl (LOp.move rfl rfl) ?_
    refine ROps.l (r := AV.i64 a0) rfl rfl rfl (LOp.move rfl rfl) ?_
    refine ROps.l (r := AV.i64 a2) rfl rfl rfl (LOp.move rfl rfl) ?_
    refine ROps.l (r := AV.b (decide (a0 ≤ a2))) rfl rfl rfl (LOp.leq rfl rfl rfl) ?_
    refine ROps.l (r := AV.b (decide (a0 ≤ a2))) rfl rfl rfl (LOp.pick_true rfl rfl rfl) ?_
    refine ROps.l (r := AV.b (decide (a0 ≤ a2))) rfl rfl rfl (LOp.assign rfl rfl) ?_
    refine ROps.nil ?_
    refine RunC.ret ?_
    have hq := Option.some.inj h
    subst q0
    exact bodyQ.pure (.inr rfl) rfl (Res.one rfl (RV.tmp rfl))
  · refine RunC.regionW ?_
    refine ROps.l (r := AV.i64 a1) rfl rfl rfl (LOp.move rfl rfl) ?_
    refine ROps.l (r := AV.i64 a0) rfl rfl rfl (LOp.move rfl rfl) ?_
    refine ROps.l (r := AV.b false) rfl rfl rfl (LOp.eqb (LOp.leq rfl rfl rfl) hc1) ?_
    refine ROps.l (r := AV.b false) rfl rfl rfl (LOp.move rfl rfl) ?_
    refine ROps.s rfl rfl rfl ?_
    refine ROps.s rfl rfl rfl ?_
    refine ROps.s rfl rfl rfl ?_
    refine ROps.l (r := AV.b false) rfl rfl rfl (LOp.pick_false rfl rfl rfl) ?_
    refine ROps.l (r := AV.b false) rfl rfl rfl (LOp.assign rfl rfl) ?_
    refine ROps.nil ?_
    refine RunC.ret ?_
    have hq := Option.some.inj h
    subst q0
    exact bodyQ.pure (.inr rfl) rfl (Res.one rfl (RV.tmp rfl))
noncomputable def i_length_int64 (a0 : List Int) : Option (Int) :=
  some (a0.length : Int)
theorem i_length_int64_ok (a0 : List Int) (q0 : Int) (h : i_length_int64 a0 = some q0) : Ev Tryd.prog 88 [AV.sl a0.length (a0.map AV.i64)] [] (AV.i64 q0) [] := by
  refine Ev.start Tryd.func88 rfl rfl 0 (τ := [(0, AV.sl a0.length (a0.map AV.i64))]) rfl (Γ' := []) rfl (n := 11) rfl (g := 0) rfl (fun _ => rfl) ?_
  unfold i_length_int64 at h
  refine RunC.seq ?_
  refine RunC.regionW ?_
  refine ROps.l (r := AV.i64 0) rfl rfl rfl (LOp.assign rfl rfl) ?_
  refine ROps.nil ?_
  refine RunC.seq ?_
  refine RunC.regionW ?_
  refine ROps.l (r := AV.sl a0.length (a0.map AV.i64)) rfl rfl rfl (LOp.move rfl rfl) ?_
  refine ROps.l (r := AV.i64 (a0.length : Int)) rfl rfl rfl (LOp.len_sl und25 rfl rfl) ?_
  refine ROps.l (r := AV.i64 (a0.length : Int)) rfl rfl rfl (LOp.assign rfl rfl) ?_
  refine ROps.nil ?_
  refine RunC.ret ?_
  have hq := Option.some.inj h
  subst q0
  exact bodyQ.pure (.inr rfl) rfl (Res.one rfl (RV.tmp rfl))
noncomputable def i_allIn_1 (a0 : Int) (a1 : Int) (a2 : Int) : Option (Bool) :=
  obind (i_inRange a0 a1 a2) fun (r1 : Bool) =>
  some (!r1)
theorem i_allIn_1_ok (a0 : Int) (a1 : Int) (a2 : Int) (q0 : Bool) (h : i_allIn_1 a0 a1 a2 = some q0) : Ev Tryd.prog 104 [AV.i64 a0, AV.ptr [AV.i64 a1], AV.ptr [AV.i64 a2]] [] (AV.b q0) [] := by
  refine Ev.start Tryd.func104 rfl rfl 0 (τ := [(0, AV.i64 a0), (1, AV.ptr [AV.i64 a1]), (2, AV.ptr [AV.i64 a2])]) rfl (Γ' := []) rfl (n := 21) rfl (g := 0) rfl (fun _ => rfl) ?_
  unfold i_allIn_1 at h
  refine RunC.seq ?_
  refine RunC.regionW ?_
  refine ROps.l (r := AV.b false) rfl rfl rfl (LOp.assign rfl rfl) ?_
  refine ROps.nil ?_
  refine RunC.seq ?_
  obtain ⟨r1, hf1, h⟩ := obind_some h
  refine RunC.regionW ?_
  refine ROps.l (r := AV.i64 a0) rfl rfl rfl (LOp.move rfl rfl) ?_
  refine ROps.l (r := AV.i64 a1) rfl rfl rfl (LOp.load1 agg2 rfl rfl) ?_
  refine ROps.l (r := AV.i64 a2) rfl rfl rfl (LOp.load1 agg2 rfl rfl) ?_
  refine ROps.d (r := AV.b r1) (fs := []) (Γ' := []) rfl rfl rfl (TOp.callB (CallAs.func ent87 rfl rfl) (Bors.cons (Bor.pure rfl) (Bors.cons (Bor.pure rfl) (Bors.cons (Bor.pure rfl) Bors.nil))) rfl rfl (i_inRange_ok a0 a1 a2 r1 hf1)) rfl ?_
  refine ROps.l (r := AV.b (!r1)) rfl rfl rfl (LOp.not rfl rfl) ?_
  refine ROps.l (r := AV.b (!r1)) rfl rfl rfl (LOp.assign rfl rfl) ?_
  refine ROps.nil ?_
  refine RunC.ret ?_
  have hq := Option.some.inj h
  subst q0
  exact bodyQ.pure (.inr rfl) rfl (Res.one rfl (RV.tmp rfl))
noncomputable def x_slices_IndexFunc_int64_int64_1Fi_allIn_1_b1 (a0 : List Int) (a1 : Int) (a2 : Int) (v1 : Int) : Option (LR (Int) (Unit) (Int)) :=
  bsel (decide (v1 < (a0.length : Int))) (
    obind (at? a0 v1) fun (e2 : Int) =>
    obind (i_allIn_1 e2 a1 a2) fun (r3 : Bool) =>
    bsel r3 (
      some (LR.ret v1)) (
      olet (IntKind.i64.wrap (v1 + 1)) fun (x4 : Int) =>
      some (LR.next x4))) (
    some (LR.out ()))
noncomputable def x_slices_IndexFunc_int64_int64_1Fi_allIn_1_s1 (a0 : List Int) (a1 : Int) (a2 : Int) : (Int) → Option (LR (Int) (Unit) (Int)) := fun s => x_slices_IndexFunc_int64_int64_1Fi_allIn_1_b1 a0 a1 a2 s
noncomputable def x_slices_IndexFunc_int64_int64_1Fi_allIn_1_k1  : Option (Int) :=
  some (-1)
noncomputable def x_slices_IndexFunc_int64_int64_1Fi_allIn_1 (a0 : List Int) (a1 : Int) (a2 : Int) : Option (Int) :=
  obind (loopM (x_slices_IndexFunc_int64_int64_1Fi_allIn_1_s1 a0 a1 a2) 0) fun z => osum z (fun _ => x_slices_IndexFunc_int64_int64_1Fi_allIn_1_k1) (fun r => some r)
theorem x_slices_IndexFunc_int64_int64_1Fi_allIn_1_ok (a0 : List Int) (a1 : Int) (a2 : Int) (q0 : Int) (h : x_slices_IndexFunc_int64_int64_1Fi_allIn_1 a0 a1 a2 = some q0) : Ev Tryd.prog 123 [AV.sl a0.length (a0.map AV.i64), AV.fn (.func 104) [] [AV.ptr [AV.i64 a1], AV.ptr [AV.i64 a2]]] [] (AV.i64 q0) [] := by
  refine Ev.start Tryd.func123 rfl rfl 0 (τ := [(0, AV.sl a0.length (a0.map AV.i64)), (1, AV.fn (.func 104) [] [AV.ptr [AV.i64 a1], AV.ptr [AV.i64 a2]])]) rfl (Γ' := []) rfl (n := 39) rfl (g := 0) rfl (fun _ => rfl) ?_
  unfold x_slices_IndexFunc_int64_int64_1Fi_allIn_1 at h
  refine RunC.seq ?_
  refine RunC.regionW ?_
  refine ROps.l (r := AV.i64 0) rfl rfl rfl (LOp.assign rfl rfl) ?_
  refine ROps.nil ?_
  refine RunC.seq ?_
  refine RunC.seq ?_
  refine RunC.regionW ?_
  refine ROps.l (r := AV.sl a0.length (a0.map AV.i64)) rfl rfl rfl (LOp.move rfl rfl) ?_
  refine ROps.l (r := AV.i64 (a0.length : Int)) rfl rfl rfl (LOp.len_sl und25 rfl rfl) ?_
  refine ROps.l (r := AV.i64 0) rfl rfl rfl (LOp.move rfl rfl) ?_
  refine ROps.nil ?_
  obtain ⟨z2, hz_2, h⟩ := obind_some h
  refine RunC.cutN (fun τ Γ => WeakLe τ [] ∧ DeadLe Γ [] ∧ z2 = .inl ()) ?_ ?_
  · refine RunC.block (RunC.loop (RunL.loopM (x := z2) (x_slices_IndexFunc_int64_int64_1Fi_allIn_1_s1 a0 a1 a2) (fun (s : Int) τ Γ => WeakLe τ [(0, AV.sl a0.length (a0.map AV.i64)), (1, AV.fn (.func 104) [] [AV.ptr [AV.i64 a1], AV.ptr [AV.i64 a2]]), (7, AV.i64 (a0.length : Int)), (8, AV.i64 s)] ∧ DeadLe Γ []) ?_ _ _ _ hz_2 ⟨⟨(ALe.refl _), (ALe.refl _), (ALe.refl _), (ALe.refl _), trivial⟩, trivial⟩))
    rintro v1 τ2 Γ2 y2_ ⟨hw2, hd2⟩ h2_ ho2 hr2
    refine RunC.wl (τ' := [(0, AV.sl a0.length (a0.map AV.i64)), (1, AV.fn (.func 104) [] [AV.ptr [AV.i64 a1], AV.ptr [AV.i64 a2]]), (7, AV.i64 (a0.length : Int)), (8, AV.i64 v1)]) (Γ' := []) hw2 hd2 ?_
    replace h2_ : x_slices_IndexFunc_int64_int64_1Fi_allIn_1_b1 a0 a1 a2 v1 = some y2_ := h2_
    unfold x_slices_IndexFunc_int64_int64_1Fi_allIn_1_b1 at h2_
    refine RunC.seq ?_
    rcases bsel_some h2_ with ⟨hc1, h2_⟩ | ⟨hc1, h2_⟩
    · refine RunC.regionW ?_
      refine ROps.l (r := AV.b true) rfl rfl rfl (LOp.eqb (LOp.lss rfl rfl rfl) hc1) ?_
      refine ROps.nil ?_
      refine RunC.seq ?_
      refine RunC.cond_true rfl rfl ?_
      refine RunC.skip ?_
      refine RunC.seq ?_
      refine RunC.block ?_
      refine RunC.seq ?_
      refine RunC.regionW ?_
      refine ROps.l (r := AV.i64 v1) rfl rfl rfl (LOp.move rfl rfl) ?_
      refine ROps.l (r := AV.i64 v1) rfl rfl rfl (LOp.assign rfl rfl) ?_
      refine ROps.nil ?_
      refine RunC.seq ?_
      obtain ⟨e2, he2, h2_⟩ := obind_some h2_
      obtain ⟨r3, hf3, h2_⟩ := obind_some h2_
      rcases bsel_some h2_ with ⟨hc4, h2_⟩ | ⟨hc4, h2_⟩
      · refine RunC.regionW ?_
        refine ROps.l (r := AV.fn (.func 104) [] [AV.ptr [AV.i64 a1], AV.ptr [AV.i64 a2]]) rfl rfl rfl (LOp.move rfl rfl) ?_
        refine ROps.l (r := AV.sl a0.length (a0.map AV.i64)) rfl rfl rfl (LOp.move rfl rfl) ?_
        refine ROps.l (r := AV.i64 v1) rfl rfl rfl (LOp.move rfl rfl) ?_
        refine ROps.l (r := AV.ptr [AV.i64 e2]) rfl rfl rfl (LOp.le (LOp.ix (f := AV.i64) und25 siz2 rfl rfl rfl rfl he2) ALe.ptr) ?_
        refine ROps.l (r := AV.i64 e2) rfl rfl rfl (LOp.load1 agg2 rfl rfl) ?_
        refine ROps.d (r := AV.b true) (fs := []) (Γ' := []) rfl rfl rfl (TOp.eqb (TOp.callB (CallAs.fn ent104 rfl rfl rfl rfl) (Bors.cons (Bor.pure rfl) (Bors.cons (Bor.ptr (Bors.cons (Bor.pure rfl) Bors.nil)) (Bors.cons (Bor.ptr (Bors.cons (Bor.pure rfl) Bors.nil)) Bors.nil))) rfl rfl (i_allIn_1_ok e2 a1 a2 r3 hf3)) hc4) rfl ?_
        refine ROps.nil ?_
        refine RunC.cond_true rfl rfl ?_
        refine RunC.seq ?_
        refine RunC.regionW ?_
        refine ROps.l (r := AV.i64 v1) rfl rfl rfl (LOp.move rfl rfl) ?_
        refine ROps.l (r := AV.i64 v1) rfl rfl rfl (LOp.assign rfl rfl) ?_
        refine ROps.nil ?_
        refine RunC.ret ?_
        cases Option.some.inj h2_
        have hx3_ := hr2 _ rfl
        subst hx3_
        have hq := Option.some.inj h
        subst q0
        exact bodyQ.pure (.inr rfl) rfl (Res.one rfl (RV.tmp rfl))
      · refine RunC.regionW ?_
        refine ROps.l (r := AV.fn (.func 104) [] [AV.ptr [AV.i64 a1], AV.ptr [AV.i64 a2]]) rfl rfl rfl (LOp.move rfl rfl) ?_
        refine ROps.l (r := AV.sl a0.length (a0.map AV.i64)) rfl rfl rfl (LOp.move rfl rfl) ?_
        refine ROps.l (r := AV.i64 v1) rfl rfl rfl (LOp.move rfl rfl) ?_
        refine ROps.l (r := AV.ptr [AV.i64 e2]) rfl rfl rfl (LOp.le (LOp.ix (f := AV.i64) und25 siz2 rfl rfl rfl rfl he2) ALe.ptr) ?_
        refine ROps.l (r := AV.i64 e2) rfl rfl rfl (LOp.load1 agg2 rfl rfl) ?_
        refine ROps.d (r := AV.b false) (fs := []) (Γ' := []) rfl rfl rfl (TOp.eqb (TOp.callB (CallAs.fn ent104 rfl rfl rfl rfl) (Bors.cons (Bor.pure rfl) (Bors.cons (Bor.ptr (Bors.cons (Bor.pure rfl) Bors.nil)) (Bors.cons (Bor.ptr (Bors.cons (Bor.pure rfl) Bors.nil)) Bors.nil))) rfl rfl (i_allIn_1_ok e2 a1 a2 r3 hf3)) hc4) rfl ?_
        refine ROps.nil ?_
        refine RunC.cond_false rfl rfl ?_
        refine RunC.skip ?_
        obtain ⟨x4, hx5, h2_⟩ := olet_some h2_
        refine RunC.regionW ?_
        refine ROps.l (r := AV.i64 x4) rfl rfl rfl (LOp.eqr (LOp.add rfl rfl rfl) (congrArg (AV.ik .i64) hx5)) ?_
        refine ROps.l (r := AV.i64 x4) rfl rfl rfl (LOp.move rfl rfl) ?_
        refine ROps.nil ?_
        cases Option.some.inj h2_
        exact ⟨_, rfl, ⟨(ALe.refl _), (ALe.refl _), (ALe.refl _), (ALe.refl _), trivial⟩, trivial⟩
    · refine RunC.regionW ?_
      refine ROps.l (r := AV.b false) rfl rfl rfl (LOp.eqb (LOp.lss rfl rfl rfl) hc1) ?_
      refine ROps.nil ?_
      refine RunC.seq ?_
      refine RunC.cond_false rfl rfl ?_
      refine RunC.exit ?_
      cases Option.some.inj h2_
      have hx := ho2 _ rfl
      exact ⟨trivial, trivial, hx⟩
  · rintro τ4 Γ4 ⟨hw4, hd4, rfl⟩
    refine RunC.wl (τ' := []) (Γ' := []) hw4 hd4 ?_
    replace h : x_slices_IndexFunc_int64_int64_1Fi_allIn_1_k1 = some q0 := h
    unfold x_slices_IndexFunc_int64_int64_1Fi_allIn_1_k1 at h
    refine RunC.seq ?_
    refine RunC.regionW ?_
    refine ROps.l (r := AV.i64 (-1)) rfl rfl rfl (LOp.assign rfl rfl) ?_
    refine ROps.nil ?_
    refine RunC.ret ?_
    have hq := Option.some.inj h
    subst q0
    exact bodyQ.pure (.inr rfl) rfl (Res.one rfl (RV.tmp rfl))
noncomputable def x_slices_ContainsFunc_int64_int64_1Fi_allIn_1 (a0 : List Int) (a1 : Int) (a2 : Int) : Option (Bool) :=
  obind (x_slices_IndexFunc_int64_int64_1Fi_allIn_1 a0 a1 a2) fun (r1 : Int) =>
  some (decide (0 ≤ r1))
theorem x_slices_ContainsFunc_int64_int64_1Fi_allIn_1_ok (a0 : List Int) (a1 : Int) (a2 : Int) (q0 : Bool) (h : x_slices_ContainsFunc_int64_int64_1Fi_allIn_1 a0 a1 a2 = some q0) : Ev Tryd.prog 103 [AV.sl a0.length (a0.map AV.i64), AV.fn (.func 104) [] [AV.ptr [AV.i64 a1], AV.ptr [AV.i64 a2]]] [] (AV.b q0) [] := by
  refine Ev.start Tryd.func103 rfl rfl 0 (τ := [(0, AV.sl a0.length (a0.map AV.i64)), (1, AV.fn (.func 104) [] [AV.ptr [AV.i64 a1], AV.ptr [AV.i64 a2]])]) rfl (Γ' := []) rfl (n := 19) rfl (g := 0) rfl (fun _ => rfl) ?_
  unfold x_slices_ContainsFunc_int64_int64_1Fi_allIn_1 at h
  refine RunC.seq ?_
  refine RunC.regionW ?_
  refine ROps.l (r := AV.b false) rfl rfl rfl (LOp.assign rfl rfl) ?_
  refine ROps.nil ?_
  refine RunC.seq ?_
  obtain ⟨r1, hf1, h⟩ := obind_some h
  refine RunC.regionW ?_
  refine ROps.l (r := AV.sl a0.length (a0.map AV.i64)) rfl rfl rfl (LOp.move rfl rfl) ?_
  refine ROps.l (r := AV.fn (.func 104) [] [AV.ptr [AV.i64 a1], AV.ptr [AV.i64 a2]]) rfl rfl rfl (LOp.move rfl rfl) ?_
  refine ROps.d (r := AV.i64 r1) (fs := []) (Γ' := []) rfl rfl rfl (TOp.callB (CallAs.func ent123 rfl rfl) (Bors.cons (Bor.sl (fun _ => rfl)) (Bors.cons (Bor.fn Bors.nil (Bors.cons (Bor.ptr (Bors.cons (Bor.pure rfl) Bors.nil)) (Bors.cons (Bor.ptr (Bors.cons (Bor.pure rfl) Bors.nil)) Bors.nil))) Bors.nil)) rfl rfl (x_slices_IndexFunc_int64_int64_1Fi_allIn_1_ok a0 a1 a2 r1 hf1)) rfl ?_
  refine ROps.l (r := AV.b (decide (0 ≤ r1))) rfl rfl rfl (LOp.geq rfl rfl rfl) ?_
  refine ROps.l (r := AV.b (decide (0 ≤ r1))) rfl rfl rfl (LOp.assign rfl rfl) ?_
  refine ROps.nil ?_
  refine RunC.ret ?_
  have hq := Option.some.inj h
  subst q0
  exact bodyQ.pure (.inr rfl) rfl (Res.one rfl (RV.tmp rfl))
noncomputable def i_allIn (a0 : List Int) (a1 : Int) (a2 : Int) : Option (Bool) :=
  obind (x_slices_ContainsFunc_int64_int64_1Fi_allIn_1 a0 a1 a2) fun (r1 : Bool) =>
  some (!r1)
theorem i_allIn_ok (a0 : List Int) (a1 : Int) (a2 : Int) (q0 : Bool) (h : i_allIn a0 a1 a2 = some q0) : Ev Tryd.prog 89 [AV.sl a0.length (a0.map AV.i64), AV.i64 a1, AV.i64 a2] [] (AV.b q0) [] := by
  refine Ev.start Tryd.func89 rfl rfl 0 (τ := [(0, AV.sl a0.length (a0.map AV.i64)), (1, AV.i64 a1), (2, AV.i64 a2)]) rfl (Γ' := []) rfl (n := 23) rfl (g := 0) rfl (fun _ => rfl) ?_
  unfold i_allIn at h
  refine RunC.seq ?_
  refine RunC.regionW ?_
  refine ROps.d (r := AV.ptr [AV.i64 a1]) (fs := []) (Γ' := []) rfl rfl rfl (TOp.box_s rfl rfl rfl) rfl ?_
  refine ROps.d (r := AV.ptr [AV.i64 a2]) (fs := []) (Γ' := []) rfl rfl rfl (TOp.box_s rfl rfl rfl) rfl ?_
  refine ROps.l (r := AV.b false) rfl rfl rfl (LOp.assign rfl rfl) ?_
  refine ROps.nil ?_
  refine RunC.seq ?_
  obtain ⟨r1, hf1, h⟩ := obind_some h
  refine RunC.regionW ?_
  refine ROps.l (r := AV.sl a0.length (a0.map AV.i64)) rfl rfl rfl (LOp.move rfl rfl) ?_
  refine ROps.l (r := AV.fn (.func 104) [] [AV.ptr [AV.i64 a1], AV.ptr [AV.i64 a2]]) rfl rfl rfl (LOp.makeFunc rfl rfl) ?_
  refine ROps.d (r := AV.b r1) (fs := []) (Γ' := []) rfl rfl rfl (TOp.callB (CallAs.func ent103 rfl rfl) (Bors.cons (Bor.sl (fun _ => rfl)) (Bors.cons (Bor.fn Bors.nil (Bors.cons (Bor.ptr (Bors.cons (Bor.pure rfl) Bors.nil)) (Bors.cons (Bor.ptr (Bors.cons (Bor.pure rfl) Bors.nil)) Bors.nil))) Bors.nil)) rfl rfl (x_slices_ContainsFunc_int64_int64_1Fi_allIn_1_ok a0 a1 a2 r1 hf1)) rfl ?_
  refine ROps.l (r := AV.b (!r1)) rfl rfl rfl (LOp.not rfl rfl) ?_
  refine ROps.l (r := AV.b (!r1)) rfl rfl rfl (LOp.assign rfl rfl) ?_
  refine ROps.nil ?_
  refine RunC.ret ?_
  have hq := Option.some.inj h
  subst q0
  exact bodyQ.pure (.inr rfl) rfl (Res.one rfl (RV.tmp rfl))
noncomputable def i_isWhole (a0 : Int) (a1 : Int) (a2 : List Int) (a3 : Int) : Option (Bool) :=
  obind (i_inRange a0 1 6) fun (r1 : Bool) =>
  bsel r1 (
    obind (i_inRange a1 1 6) fun (r2 : Bool) =>
    bsel r2 (
      obind (i_length_int64 a2) fun (r3 : Int) =>
      olet (IntKind.i64.wrap (a0 * a1)) fun (x4 : Int) =>
      bsel (decide (r3 = x4)) (
        olet (IntKind.i64.wrap (0 - a3)) fun (x5 : Int) =>
        obind (i_allIn a2 x5 a3) fun (r6 : Bool) =>
        some r6) (
        some false)) (
      some false)) (
    some false)
theorem i_isWhole_ok (a0 : Int) (a1 : Int) (a2 : List Int) (a3 : Int) (q0 : Bool) (h : i_isWhole a0 a1 a2 a3 = some q0) : Ev Tryd.prog 70 [AV.agg [AV.i64 a0, AV.i64 a1, AV.sl a2.length (a2.map AV.i64)], AV.i64 a3] [] (AV.b q0) [] := by
  refine Ev.start Tryd.func70 rfl rfl 0 (τ := [(0, AV.agg [AV.i64 a0, AV.i64 a1, AV.sl a2.length (a2.map AV.i64)]), (1, AV.i64 a3)]) rfl (Γ' := []) rfl (n := 65) rfl (g := 0) rfl (fun _ => rfl) ?_
  unfold i_isWhole at h
  refine RunC.seq ?_
  refine RunC.regionW ?_
  refine ROps.d (r := AV.ptr [AV.i64 a0, AV.i64 a1, AV.sl a2.length (a2.map AV.i64)]) (fs := []) (Γ' := []) rfl rfl rfl (TOp.box_s rfl rfl rfl) rfl ?_
  refine ROps.l (r := AV.b false) rfl rfl rfl (LOp.assign rfl rfl) ?_
  refine ROps.nil ?_
  refine RunC.seq ?_
  obtain ⟨r1, hf1, h⟩ := obind_some h
  rcases bsel_some h with ⟨hc2, h⟩ | ⟨hc2, h⟩
  · obtain ⟨r2, hf3, h⟩ := obind_some h
    rcases bsel_some h with ⟨hc4, h⟩ | ⟨hc4, h⟩
    · obtain ⟨r3, hf5, h⟩ := obind_some h
      obtain ⟨x4, hx6, h⟩ := olet_some h
      rcases bsel_some h with ⟨hc7, h⟩ | ⟨hc7, h⟩
      · obtain ⟨x5, hx8, h⟩ := olet_some h
        obtain ⟨r6, hf9, h⟩ := obind_some h
        refine RunC.region_draw (Γ' := []) 28 mixed 
          (TR.l (r := AV.ptr [AV.i64 a0, AV.i64 a1, AV.sl a2.length (a2.map AV.i64)]) rfl rfl (LOp.fap und31 rfl siz2 rfl rfl rfl) <|
          (TR.l (r := AV.i64 a0) rfl rfl (LOp.load1 agg2 rfl rfl) <|
          (TR.d (r := AV.b true) (fs := []) rfl rfl (TOp.eqb (TOp.callB (CallAs.func ent87 rfl rfl) (Bors.cons (Bor.pure rfl) (Bors.cons (Bor.pure rfl) (Bors.cons (Bor.pure rfl) Bors.nil))) rfl rfl (i_inRange_ok a0 1 6 r1 hf1)) hc2) <|
          (TR.l (r := AV.b true) rfl rfl (LOp.move rfl rfl) <|
          (TR.l (r := AV.ptr [AV.i64 a1, AV.sl a2.length (a2.map AV.i64)]) rfl rfl (LOp.fap und31 rfl siz2 rfl rfl rfl) <|
          (TR.l (r := AV.i64 a1) rfl rfl (LOp.load1 agg2 rfl rfl) <|
          (TR.d (r := AV.b true) (fs := []) rfl rfl (TOp.eqb (TOp.callB (CallAs.func ent87 rfl rfl) (Bors.cons (Bor.pure rfl) (Bors.cons (Bor.pure rfl) (Bors.cons (Bor.pure rfl) Bors.nil))) rfl rfl (i_inRange_ok a1 1 6 r2 hf3)) hc4) <|
          (TR.l (r := AV.b true) rfl rfl (LOp.pick_true rfl rfl rfl) <|
          (TR.l (r := AV.b true) rfl rfl (LOp.move rfl rfl) <|
          (TR.l (r := AV.ptr [AV.sl a2.length (a2.map AV.i64)]) rfl rfl (LOp.fap und31 rfl siz25 rfl rfl rfl) <|
          (TR.l (r := AV.sl a2.length (a2.map AV.i64)) rfl rfl (LOp.load1 agg25 rfl rfl) <|
          (TR.d (r := AV.i64 r3) (fs := []) rfl rfl (TOp.callB (CallAs.func ent88 rfl rfl) (Bors.cons (Bor.sl (fun _ => rfl)) Bors.nil) rfl rfl (i_length_int64_ok a2 r3 hf5)) <|
          (TR.l (r := AV.ptr [AV.i64 a0, AV.i64 a1, AV.sl a2.length (a2.map AV.i64)]) rfl rfl (LOp.fap und31 rfl siz2 rfl rfl rfl) <|
          (TR.l (r := AV.i64 a0) rfl rfl (LOp.load1 agg2 rfl rfl) <|
          (TR.l (r := AV.ptr [AV.i64 a1, AV.sl a2.length (a2.map AV.i64)]) rfl rfl (LOp.fap und31 rfl siz2 rfl rfl rfl) <|
          (TR.l (r := AV.i64 a1) rfl rfl (LOp.load1 agg2 rfl rfl) <|
          (TR.l (r := AV.i64 x4) rfl rfl (LOp.eqr (LOp.mul rfl rfl rfl) (congrArg (AV.ik .i64) hx6)) <|
          (TR.l (r := AV.b true) rfl rfl (LOp.eqb (LOp.eql rfl rfl rfl) hc7) <|
          (TR.l (r := AV.b true) rfl rfl (LOp.pick_true rfl rfl rfl) <|
          (TR.l (r := AV.b true) rfl rfl (LOp.move rfl rfl) <|
          (TR.l (r := AV.ptr [AV.sl a2.length (a2.map AV.i64)]) rfl rfl (LOp.fap und31 rfl siz25 rfl rfl rfl) <|
          (TR.l (r := AV.sl a2.length (a2.map AV.i64)) rfl rfl (LOp.load1 agg25 rfl rfl) <|
          (TR.l (r := AV.i64 a3) rfl rfl (LOp.move rfl rfl) <|
          (TR.l (r := AV.i64 x5) rfl rfl (LOp.eqr (LOp.neg_int rfl rfl) (congrArg (AV.ik .i64) hx8)) <|
          (TR.l (r := AV.i64 a3) rfl rfl (LOp.move rfl rfl) <|
          (TR.d (r := AV.b r6) (fs := []) rfl rfl (TOp.callB (CallAs.func ent89 rfl rfl) (Bors.cons (Bor.sl (fun _ => rfl)) (Bors.cons (Bor.pure rfl) (Bors.cons (Bor.pure rfl) Bors.nil))) rfl rfl (i_allIn_ok a2 x5 a3 r6 hf9)) <|
          (TR.l (r := AV.b r6) rfl rfl (LOp.pick_true rfl rfl rfl) <|
          (TR.l (r := AV.b r6) rfl rfl (LOp.assign rfl rfl) <|
          TR.nil)))))))))))))))))))))))))))) rfl (by kernel_rfl) rfl fills_nil rfl ?_
        iterate 28 refine ROps.dropS ?_
        refine ROps.drop0 ?_
        refine ROps.nil ?_
        refine RunC.ret ?_
        have hq := Option.some.inj h
        subst q0
        exact bodyQ.pure (.inr rfl) rfl (Res.one rfl (RV.tmp rfl))
      · refine RunC.region_draw (Γ' := []) 28 mixed 
          (TR.l (r := AV.ptr [AV.i64 a0, AV.i64 a1, AV.sl a2.length (a2.map AV.i64)]) rfl rfl (LOp.fap und31 rfl siz2 rfl rfl rfl) <|
          (TR.l (r := AV.i64 a0) rfl rfl (LOp.load1 agg2 rfl rfl) <|
          (TR.d (r := AV.b true) (fs := []) rfl rfl (TOp.eqb (TOp.callB (CallAs.func ent87 rfl rfl) (Bors.cons (Bor.pure rfl) (Bors.cons (Bor.pure rfl) (Bors.cons (Bor.pure rfl) Bors.nil))) rfl rfl (i_inRange_ok a0 1 6 r1 hf1)) hc2) <|
          (TR.l (r := AV.b true) rfl rfl (LOp.move rfl rfl) <|
          (TR.l (r := AV.ptr [AV.i64 a1, AV.sl a2.length (a2.map AV.i64)]) rfl rfl (LOp.fap und31 rfl siz2 rfl rfl rfl) <|
          (TR.l (r := AV.i64 a1) rfl rfl (LOp.load1 agg2 rfl rfl) <|
          (TR.d (r := AV.b true) (fs := []) rfl rfl (TOp.eqb (TOp.callB (CallAs.func ent87 rfl rfl) (Bors.cons (Bor.pure rfl) (Bors.cons (Bor.pure rfl) (Bors.cons (Bor.pure rfl) Bors.nil))) rfl rfl (i_inRange_ok a1 1 6 r2 hf3)) hc4) <|
          (TR.l (r := AV.b true) rfl rfl (LOp.pick_true rfl rfl rfl) <|
          (TR.l (r := AV.b true) rfl rfl (LOp.move rfl rfl) <|
          (TR.l (r := AV.ptr [AV.sl a2.length (a2.map AV.i64)]) rfl rfl (LOp.fap und31 rfl siz25 rfl rfl rfl) <|
          (TR.l (r := AV.sl a2.length (a2.map AV.i64)) rfl rfl (LOp.load1 agg25 rfl rfl) <|
          (TR.d (r := AV.i64 r3) (fs := []) rfl rfl (TOp.callB (CallAs.func ent88 rfl rfl) (Bors.cons (Bor.sl (fun _ => rfl)) Bors.nil) rfl rfl (i_length_int64_ok a2 r3 hf5)) <|
          (TR.l (r := AV.ptr [AV.i64 a0, AV.i64 a1, AV.sl a2.length (a2.map AV.i64)]) rfl rfl (LOp.fap und31 rfl siz2 rfl rfl rfl) <|
          (TR.l (r := AV.i64 a0) rfl rfl (LOp.load1 agg2 rfl rfl) <|
          (TR.l (r := AV.ptr [AV.i64 a1, AV.sl a2.length (a2.map AV.i64)]) rfl rfl (LOp.fap und31 rfl siz2 rfl rfl rfl) <|
          (TR.l (r := AV.i64 a1) rfl rfl (LOp.load1 agg2 rfl rfl) <|
          (TR.l (r := AV.i64 x4) rfl rfl (LOp.eqr (LOp.mul rfl rfl rfl) (congrArg (AV.ik .i64) hx6)) <|
          (TR.l (r := AV.b false) rfl rfl (LOp.eqb (LOp.eql rfl rfl rfl) hc7) <|
          (TR.l (r := AV.b false) rfl rfl (LOp.pick_true rfl rfl rfl) <|
          (TR.l (r := AV.b false) rfl rfl (LOp.move rfl rfl) <|
          (TR.s rfl rfl <|
          (TR.s rfl rfl <|
          (TR.s rfl rfl <|
          (TR.s rfl rfl <|
          (TR.s rfl rfl <|
          (TR.s rfl rfl <|
          (TR.l (r := AV.b false) rfl rfl (LOp.pick_false rfl rfl rfl) <|
          (TR.l (r := AV.b false) rfl rfl (LOp.assign rfl rfl) <|
          TR.nil)))))))))))))))))))))))))))) rfl (by kernel_rfl) rfl fills_nil rfl ?_
        iterate 28 refine ROps.dropS ?_
        refine ROps.drop0 ?_
        refine ROps.nil ?_
        refine RunC.ret ?_
        have hq := Option.some.inj h
        subst q0
        exact bodyQ.pure (.inr rfl) rfl (Res.one rfl (RV.tmp rfl))
    · refine RunC.region_draw (Γ' := []) 28 mixed 
        (TR.l (r := AV.ptr [AV.i64 a0, AV.i64 a1, AV.sl a2.length (a2.map AV.i64)]) rfl rfl (LOp.fap und31 rfl siz2 rfl rfl rfl) <|
        (TR.l (r := AV.i64 a0) rfl rfl (LOp.load1 agg2 rfl rfl) <|
        (TR.d (r := AV.b true) (fs := []) rfl rfl (TOp.eqb (TOp.callB (CallAs.func ent87 rfl rfl) (Bors.cons (Bor.pure rfl) (Bors.cons (Bor.pure rfl) (Bors.cons (Bor.pure rfl) Bors.nil))) rfl rfl (i_inRange_ok a0 1 6 r1 hf1)) hc2) <|
        (TR.l (r := AV.b true) rfl rfl (LOp.move rfl rfl) <|
        (TR.l (r := AV.ptr [AV.i64 a1, AV.sl a2.length (a2.map AV.i64)]) rfl rfl (LOp.fap und31 rfl siz2 rfl rfl rfl) <|
        (TR.l (r := AV.i64 a1) rfl rfl (LOp.load1 agg2 rfl rfl) <|
        (TR.d (r := AV.b false) (fs := []) rfl rfl (TOp.eqb (TOp.callB (CallAs.func ent87 rfl rfl) (Bors.cons (Bor.pure rfl) (Bors.cons (Bor.pure rfl) (Bors.cons (Bor.pure rfl) Bors.nil))) rfl rfl (i_inRange_ok a1 1 6 r2 hf3)) hc4) <|
        (TR.l (r := AV.b false) rfl rfl (LOp.pick_true rfl rfl rfl) <|
        (TR.l (r := AV.b false) rfl rfl (LOp.move rfl rfl) <|
        (TR.s rfl rfl <|
        (TR.s rfl rfl <|
        (TR.s rfl rfl <|
        (TR.s rfl rfl <|
        (TR.s rfl rfl <|
        (TR.s rfl rfl <|
        (TR.s rfl rfl <|
        (TR.s rfl rfl <|
        (TR.s rfl rfl <|
        (TR.l (r := AV.b false) rfl rfl (LOp.pick_false rfl rfl rfl) <|
        (TR.l (r := AV.b false) rfl rfl (LOp.move rfl rfl) <|
        (TR.s rfl rfl <|
        (TR.s rfl rfl <|
        (TR.s rfl rfl <|
        (TR.s rfl rfl <|
        (TR.s rfl rfl <|
        (TR.s rfl rfl <|
        (TR.l (r := AV.b false) rfl rfl (LOp.pick_false rfl rfl rfl) <|
        (TR.l (r := AV.b false) rfl rfl (LOp.assign rfl rfl) <|
        TR.nil)))))))))))))))))))))))))))) rfl (by kernel_rfl) rfl fills_nil rfl ?_
      iterate 28 refine ROps.dropS ?_
      refine ROps.drop0 ?_
      refine ROps.nil ?_
      refine RunC.ret ?_
      have hq := Option.some.inj h
      subst q0
      exact bodyQ.pure (.inr rfl) rfl (Res.one rfl (RV.tmp rfl))
  · refine RunC.region_draw (Γ' := []) 28 mixed 
      (TR.l (r := AV.ptr [AV.i64 a0, AV.i64 a1, AV.sl a2.length (a2.map AV.i64)]) rfl rfl (LOp.fap und31 rfl siz2 rfl rfl rfl) <|
      (TR.l (r := AV.i64 a0) rfl rfl (LOp.load1 agg2 rfl rfl) <|
      (TR.d (r := AV.b false) (fs := []) rfl rfl (TOp.eqb (TOp.callB (CallAs.func ent87 rfl rfl) (Bors.cons (Bor.pure rfl) (Bors.cons (Bor.pure rfl) (Bors.cons (Bor.pure rfl) Bors.nil))) rfl rfl (i_inRange_ok a0 1 6 r1 hf1)) hc2) <|
      (TR.l (r := AV.b false) rfl rfl (LOp.move rfl rfl) <|
      (TR.s rfl rfl <|
      (TR.s rfl rfl <|
      (TR.s rfl rfl <|
      (TR.l (r := AV.b false) rfl rfl (LOp.pick_false rfl rfl rfl) <|
      (TR.l (r := AV.b false) rfl rfl (LOp.move rfl rfl) <|
      (TR.s rfl rfl <|
      (TR.s rfl rfl <|
      (TR.s rfl rfl <|
      (TR.s rfl rfl <|
      (TR.s rfl rfl <|
      (TR.s rfl rfl <|
      (TR.s rfl rfl <|
      (TR.s rfl rfl <|
      (TR.s rfl rfl <|
      (TR.l (r := AV.b false) rfl rfl (LOp.pick_false rfl rfl rfl) <|
      (TR.l (r := AV.b false) rfl rfl (LOp.move rfl rfl) <|
      (TR.s rfl rfl <|
      (TR.s rfl rfl <|
      (TR.s rfl rfl <|
      (TR.s rfl rfl <|
      (TR.s rfl rfl <|
      (TR.s rfl rfl <|
      (TR.l (r := AV.b false) rfl rfl (LOp.pick_false rfl rfl rfl) <|
      (TR.l (r := AV.b false) rfl rfl (LOp.assign rfl rfl) <|
      TR.nil)))))))))))))))))))))))))))) rfl (by kernel_rfl) rfl fills_nil rfl ?_
    iterate 28 refine ROps.dropS ?_
    refine ROps.drop0 ?_
    refine ROps.nil ?_
    refine RunC.ret ?_
    have hq := Option.some.inj h
    subst q0
    exact bodyQ.pure (.inr rfl) rfl (Res.one rfl (RV.tmp rfl))
noncomputable def i_ValidWhole (a0 : Int) (a1 : Int) (a2 : List Int) : Option (Bool) :=
  obind (i_isWhole a0 a1 a2 1000000) fun (r1 : Bool) =>
  some r1
theorem i_ValidWhole_ok (a0 : Int) (a1 : Int) (a2 : List Int) (q0 : Bool) (h : i_ValidWhole a0 a1 a2 = some q0) : Ev Tryd.prog 42 [AV.agg [AV.i64 a0, AV.i64 a1, AV.sl a2.length (a2.map AV.i64)]] [] (AV.b q0) [] := by
  refine Ev.start Tryd.func42 rfl rfl 0 (τ := [(0, AV.agg [AV.i64 a0, AV.i64 a1, AV.sl a2.length (a2.map AV.i64)])]) rfl (Γ' := []) rfl (n := 11) rfl (g := 0) rfl (fun _ => rfl) ?_
  unfold i_ValidWhole at h
  refine RunC.seq ?_
  refine RunC.regionW ?_
  refine ROps.d (r := AV.ptr [AV.i64 a0, AV.i64 a1, AV.sl a2.length (a2.map AV.i64)]) (fs := []) (Γ' := []) rfl rfl rfl (TOp.box_s rfl rfl rfl) rfl ?_
  refine ROps.l (r := AV.b false) rfl rfl rfl (LOp.assign rfl rfl) ?_
  refine ROps.nil ?_
  refine RunC.seq ?_
  obtain ⟨r1, hf1, h⟩ := obind_some h
  refine RunC.regionW ?_
  refine ROps.l (r := AV.agg [AV.i64 a0, AV.i64 a1, AV.sl a2.length (a2.map AV.i64)]) rfl rfl rfl (LOp.loadAgg agg31 siz31 rfl rfl rfl rfl) ?_
  refine ROps.d (r := AV.b r1) (fs := []) (Γ' := []) rfl rfl rfl (TOp.callB (CallAs.func ent70 rfl rfl) (Bors.cons (Bor.agg (Bors.cons (Bor.pure rfl) (Bors.cons (Bor.pure rfl) (Bors.cons (Bor.sl (fun _ => rfl)) Bors.nil)))) (Bors.cons (Bor.pure rfl) Bors.nil)) rfl rfl (i_isWhole_ok a0 a1 a2 1000000 r1 hf1)) rfl ?_
  refine ROps.l (r := AV.b r1) rfl rfl rfl (LOp.assign rfl rfl) ?_
  refine ROps.nil ?_
  refine RunC.ret ?_
  have hq := Option.some.inj h
  subst q0
  exact bodyQ.pure (.inr rfl) rfl (Res.one rfl (RV.tmp rfl))
noncomputable def x_strconv_FormatInt (a0 a1 : Int) : Option ByteArray :=
  need (decide (a1 = 10)) <|
  need (decide (-9223372036854775808 ≤ a0)) <|
  need (decide (a0 ≤ 9223372036854775807)) <|
  some ⟨(Go.Lib.itoa a0).toArray⟩
def fmt_ren : Go.Shelf.Ren :=
{
  f := fun x =>
    match x with
    | 173 => 75
    | 246 => 92
    | 283 => 106
    | 284 => 107
    | 285 => 108
    | 286 => 109
    | 129 => 126
    | 317 => 125
    | 318 => 127
    | 319 => 128
    | 320 => 129
    | 337 => 139
    | 338 => 140
    | n => n,
  t := fun x =>
    match x with
    | 2 => 2
    | 3 => 3
    | 9 => 9
    | 4 => 4
    | 171 => 136
    | 0 => 0
    | 53 => 137
    | 37 => 75
    | 5 => 5
    | 173 => 140
    | 212 => 156
    | 51 => 147
    | 20 => 20
    | 213 => 157
    | 46 => 144
    | 232 => 173
    | 233 => 174
    | n => n,
  g := fun x =>
    match x with
    | 17 => 1
    | 18 => 5
    | 19 => 6
    | n => n }theorem fmt_lays : Go.Proofs.LaysM.n173 Tryd.prog fmt_ren :=
  { f129 := (Eq.trans Tryd.func126 (congrArg some (by kernel_rfl))),
    f173 := (Eq.trans Tryd.func75 (congrArg some (by kernel_rfl))),
    f246 := (Eq.trans Tryd.func92 (congrArg some (by kernel_rfl))),
    f283 := (Eq.trans Tryd.func106 (congrArg some (by kernel_rfl))),
    f284 := (Eq.trans Tryd.func107 (congrArg some (by kernel_rfl))),
    f285 := (Eq.trans Tryd.func108 (congrArg some (by kernel_rfl))),
    f286 := (Eq.trans Tryd.func109 (congrArg some (by kernel_rfl))),
    f317 := (Eq.trans Tryd.func125 (congrArg some (by kernel_rfl))),
    f318 := (Eq.trans Tryd.func127 (congrArg some (by kernel_rfl))),
    f319 := (Eq.trans Tryd.func128 (congrArg some (by kernel_rfl))),
    f320 := (Eq.trans Tryd.func129 (congrArg some (by kernel_rfl))),
    f337 := (Eq.trans Tryd.func139 (congrArg some (by kernel_rfl))),
    f338 := (Eq.trans Tryd.func140 (congrArg some (by kernel_rfl))),
    t0 := Tryd.underlying0,
    a0 := Tryd.isAgg0,
    z0 := Tryd.sizeOf0,
    v0 := Tryd.zeroValue0,
    t2 := Tryd.underlying2,
    a2 := Tryd.isAgg2,
    z2 := Tryd.sizeOf2,
    v2 := Tryd.zeroValue2,
    t3 := Tryd.underlying3,
    a3 := Tryd.isAgg3,
    z3 := Tryd.sizeOf3,
    v3 := Tryd.zeroValue3,
    t4 := Tryd.underlying4,
    a4 := Tryd.isAgg4,
    z4 := Tryd.sizeOf4,
    v4 := Tryd.zeroValue4,
    t5 := Tryd.underlying5,
    a5 := Tryd.isAgg5,
    z5 := Tryd.sizeOf5,
    v5 := Tryd.zeroValue5,
    t9 := Tryd.underlying9,
    a9 := Tryd.isAgg9,
    z9 := Tryd.sizeOf9,
    v9 := Tryd.zeroValue9,
    t20 := Tryd.underlying20,
    a20 := Tryd.isAgg20,
    z20 := Tryd.sizeOf20,
    v20 := Tryd.zeroValue20,
    t37 := Tryd.underlying75,
    a37 := Tryd.isAgg75,
    z37 := Tryd.sizeOf75,
    v37 := Tryd.zeroValue75,
    t46 := Tryd.underlying144,
    a46 := Tryd.isAgg144,
    z46 := Tryd.sizeOf144,
    v46 := Tryd.zeroValue144,
    t51 := Tryd.underlying147,
    a51 := Tryd.isAgg147,
    z51 := Tryd.sizeOf147,
    v51 := Tryd.zeroValue147,
    t53 := Tryd.underlying137,
    a53 := Tryd.isAgg137,
    z53 := Tryd.sizeOf137,
    v53 := Tryd.zeroValue137,
    t171 := Tryd.underlying136,
    a171 := Tryd.isAgg136,
    z171 := Tryd.sizeOf136,
    v171 := Tryd.zeroValue136,
    t173 := Tryd.underlying140,
    a173 := Tryd.isAgg140,
    z173 := Tryd.sizeOf140,
    v173 := Tryd.zeroValue140,
    t212 := Tryd.underlying156,
    a212 := Tryd.isAgg156,
    z212 := Tryd.sizeOf156,
    v212 := Tryd.zeroValue156,
    t213 := Tryd.underlying157,
    a213 := Tryd.isAgg157,
    z213 := Tryd.sizeOf157,
    t232 := Tryd.underlying173,
    a232 := Tryd.isAgg173,
    z232 := Tryd.sizeOf173,
    v232 := Tryd.zeroValue173,
    t233 := Tryd.underlying174,
    a233 := Tryd.isAgg174,
    z233 := Tryd.sizeOf174,
    v233 := Tryd.zeroValue174,
    mixed := (by kernel_rfl),
    g17 := (by kernel_rfl),
    g18 := (by kernel_rfl),
    g19 := (by kernel_rfl),
    i0 := (by kernel_rfl),
    i2 := (by kernel_rfl),
    i3 := (by kernel_rfl),
    i4 := (by kernel_rfl),
    i5 := (by kernel_rfl),
    i9 := (by kernel_rfl),
    i20 := (by kernel_rfl),
    i37 := (by kernel_rfl),
    i46 := (by kernel_rfl),
    i51 := (by kernel_rfl),
    i53 := (by kernel_rfl),
    i171 := (by kernel_rfl),
    i173 := (by kernel_rfl),
    i212 := (by kernel_rfl),
    i232 := (by kernel_rfl),
    i233 := (by kernel_rfl),
    m17 := (by kernel_rfl),
    m18 := (by kernel_rfl),
    m19 := (by kernel_rfl) }
theorem x_strconv_FormatInt_tab {S : Snap} {w : World} (h : SnapOK S w) : Go.Lib.TabIs Tryd.prog w "internal/strconv.uint64pow10" .u64 Go.Lib.pow10Tab := by
  obtain ⟨T, m, e⟩ := globs_at h (g := 1) (cs := (Go.Lib.pow10Tab.map fun z => Value.int .u64 z).toArray) (by unfold globs; exact List.mem_cons_self ..)
  unfold Go.Lib.TabIs World.var?
  rw [show Tryd.prog.globalNamed "internal/strconv.uint64pow10" = some 1 by kernel_rfl]
  simp only [Option.bind_some, e]
theorem x_strconv_FormatInt_ok (a0 a1 : Int) (q0 : ByteArray) (h : x_strconv_FormatInt a0 a1 = some q0) : Ev Tryd.prog 75 [AV.i64 a0, AV.i64 a1] [] (AV.str q0) [] := by
  unfold x_strconv_FormatInt at h
  obtain ⟨h1, h⟩ := need_some h
  obtain ⟨h2, h⟩ := need_some h
  obtain ⟨h3, h⟩ := need_some h
  have hq := Option.some.inj h
  subst hq
  have e1 : a1 = 10 := of_decide_eq_true h1
  subst e1
  refine Ev.ofGrow fun S w vs hs ha => ?_
  obtain ⟨vl⟩ := vs
  match vl, ha with
  | [v0, v1], ha =>
    simp only [VL, V] at ha
    obtain ⟨rfl, rfl, _⟩ := ha
    refine (Go.Proofs.Any.strconv_FormatInt_10 fmt_lays a0 (of_decide_eq_true h2) (of_decide_eq_true h3) w (x_strconv_FormatInt_tab hs)).mono ?_
    rintro e w' ⟨rfl, k, os, rfl⟩
    refine ⟨_, rfl, by simp only [V], ?_⟩
    exact ⟨by simp [Go.Sort.grow, World.drewN], fun b hb => by simp [Go.Sort.grow, World.drewN, Array.getElem?_append, hb], rfl, rfl, rfl⟩
  | [], ha => simp only [VL] at ha
  | [_], ha => simp only [VL] at ha; exact ha.2.elim
  | _ :: _ :: _ :: _, ha => simp only [VL] at ha; exact ha.2.2.elim
noncomputable def i_Decimal (a0 : Int) : Option (ByteArray) :=
  obind (x_strconv_FormatInt a0 10) fun (r1 : ByteArray) =>
  some r1
theorem i_Decimal_ok (a0 : Int) (q0 : ByteArray) (h : i_Decimal a0 = some q0) : Ev Tryd.prog 48 [AV.i64 a0] [] (AV.str q0) [] := by
  refine Ev.start Tryd.func48 rfl rfl 0 (τ := [(0, AV.i64 a0)]) rfl (Γ' := []) rfl (n := 11) rfl (g := 0) rfl (fun _ => rfl) ?_
  unfold i_Decimal at h
  refine RunC.seq ?_
  refine RunC.regionW ?_
  refine ROps.l (r := AV.str lit_99ba06bc) rfl rfl rfl (LOp.assign rfl rfl) ?_
  refine ROps.nil ?_
  refine RunC.seq ?_
  obtain ⟨r1, hf1, h⟩ := obind_some h
  refine RunC.regionW ?_
  refine ROps.l (r := AV.i64 a0) rfl rfl rfl (LOp.move rfl rfl) ?_
  refine ROps.d (r := AV.str r1) (fs := []) (Γ' := []) rfl rfl rfl (TOp.callB (CallAs.func ent75 rfl rfl) (Bors.cons (Bor.pure rfl) (Bors.cons (Bor.pure rfl) Bors.nil)) rfl rfl (x_strconv_FormatInt_ok a0 10 r1 hf1)) rfl ?_
  refine ROps.l (r := AV.str r1) rfl rfl rfl (LOp.assign rfl rfl) ?_
  refine ROps.nil ?_
  refine RunC.ret ?_
  have hq := Option.some.inj h
  subst q0
  exact bodyQ.pure (.inr rfl) rfl (Res.one rfl (RV.tmp rfl))
noncomputable def x_strings_Join (a0 : List ByteArray) (a1 : ByteArray) : Option ByteArray :=
  need (decide (0 < a0.length)) <|
  need (decide (a0.length ≤ 140737488355328)) <|
  need (decide ((Go.Lib.join (a0.map (·.data.toList)) a1.data.toList).length ≤ 140737488355328)) <|
  some ⟨(Go.Lib.join (a0.map (·.data.toList)) a1.data.toList).toArray⟩
def join_ren : Go.Shelf.Ren :=
{
  f := fun x =>
    match x with
    | 156 => 90
    | 165 => 105
    | 166 => 47
    | 169 => 51
    | 240 => 74
    | 241 => 124
    | 276 => 91
    | 277 => 138
    | n => n,
  t := fun x =>
    match x with
    | 31 => 35
    | 9 => 9
    | 3 => 3
    | 4 => 4
    | 0 => 0
    | 20 => 20
    | 72 => 77
    | 76 => 81
    | 70 => 74
    | 37 => 75
    | 75 => 80
    | 127 => 112
    | 164 => 127
    | 5 => 5
    | 80 => 86
    | n => n,
  g := fun x =>
    have n := x;
    n }
theorem join_lays : Go.Proofs.Lays.n156 Tryd.prog join_ren :=
  { f156 := (Eq.trans Tryd.func90 (congrArg some (by kernel_rfl))),
    f165 := (Eq.trans Tryd.func105 (congrArg some (by kernel_rfl))),
    f166 := (Eq.trans Tryd.func47 (congrArg some (by kernel_rfl))),
    f169 := (Eq.trans Tryd.func51 (congrArg some (by kernel_rfl))),
    f240 := (Eq.trans Tryd.func74 (congrArg some (by kernel_rfl))),
    f241 := (Eq.trans Tryd.func124 (congrArg some (by kernel_rfl))),
    f276 := (Eq.trans Tryd.func91 (congrArg some (by kernel_rfl))),
    f277 := (Eq.trans Tryd.func138 (congrArg some (by kernel_rfl))),
    t0 := Tryd.underlying0,
    a0 := Tryd.isAgg0,
    z0 := Tryd.sizeOf0,
    v0 := Tryd.zeroValue0,
    t3 := Tryd.underlying3,
    a3 := Tryd.isAgg3,
    z3 := Tryd.sizeOf3,
    v3 := Tryd.zeroValue3,
    t4 := Tryd.underlying4,
    a4 := Tryd.isAgg4,
    z4 := Tryd.sizeOf4,
    v4 := Tryd.zeroValue4,
    t9 := Tryd.underlying9,
    a9 := Tryd.isAgg9,
    z9 := Tryd.sizeOf9,
    v9 := Tryd.zeroValue9,
    t20 := Tryd.underlying20,
    a20 := Tryd.isAgg20,
    z20 := Tryd.sizeOf20,
    v20 := Tryd.zeroValue20,
    t31 := Tryd.underlying35,
    a31 := Tryd.isAgg35,
    z31 := Tryd.sizeOf35,
    v31 := Tryd.zeroValue35,
    t37 := Tryd.underlying75,
    a37 := Tryd.isAgg75,
    z37 := Tryd.sizeOf75,
    v37 := Tryd.zeroValue75,
    t70 := Tryd.underlying74,
    a70 := Tryd.isAgg74,
    z70 := Tryd.sizeOf74,
    v70 := Tryd.zeroValue74,
    t72 := Tryd.underlying77,
    a72 := Tryd.isAgg77,
    z72 := Tryd.sizeOf77,
    v72 := Tryd.zeroValue77,
    t75 := Tryd.underlying80,
    a75 := Tryd.isAgg80,
    z75 := Tryd.sizeOf80,
    v75 := Tryd.zeroValue80,
    t76 := Tryd.underlying81,
    a76 := Tryd.isAgg81,
    z76 := Tryd.sizeOf81,
    v76 := Tryd.zeroValue81,
    t127 := Tryd.underlying112,
    a127 := Tryd.isAgg112,
    z127 := Tryd.sizeOf112,
    v127 := Tryd.zeroValue112,
    t164 := Tryd.underlying127,
    a164 := Tryd.isAgg127,
    z164 := Tryd.sizeOf127,
    v164 := Tryd.zeroValue127,
    mixed := (by kernel_rfl) }
theorem join_extra : Go.Proofs.Builder.Extra Tryd.prog join_ren where
  sizeBuilder := by kernel_rfl
  liesBuilder := by kernel_rfl
  t5 := Tryd.underlying5
  a5 := Tryd.isAgg5
  z5 := Tryd.sizeOf5
  v5 := Tryd.zeroValue5
  infoByte := by kernel_rfl
  cellsByte := by kernel_rfl
  sizeByte := by kernel_rfl
  neB5 := by decide
theorem x_strings_Join_ok (a0 : List ByteArray) (a1 : ByteArray) (q0 : ByteArray) (h : x_strings_Join a0 a1 = some q0) : Ev Tryd.prog 90 [AV.sl a0.length (a0.map AV.str), AV.str a1] [] (AV.str q0) [] := by
  unfold x_strings_Join at h
  obtain ⟨h1, h⟩ := need_some h
  obtain ⟨h2, h⟩ := need_some h
  obtain ⟨h3, h⟩ := need_some h
  have h1 := of_decide_eq_true h1
  have h2 := of_decide_eq_true h2
  have h3 := of_decide_eq_true h3
  have hq := Option.some.inj h
  subst hq
  refine Ev.ofGrow fun S w vs hs ha => ?_
  obtain ⟨vl⟩ := vs
  match vl, ha with
  | [v0, v1], ha =>
    simp only [VL] at ha
    obtain ⟨ha0, ha1, _⟩ := ha
    simp only [V] at ha0 ha1
    subst ha1
    obtain ⟨a, cap, rfl, hcap, hl⟩ := ha0
    rcases hl with hl | ⟨b, off, cs, rfl, hb, hv⟩
    · have : a0 = [] := by simpa using hl
      subst this; simp at h1
    · obtain ⟨T, m, hT⟩ := hs b cs hb
      have hcell : ∀ (j : Nat) x, a0[j]? = some x → w.cell? ⟨b, off + j, none⟩ = some (.string x) := fun j x hj => by
        obtain ⟨v, e1, e2⟩ := hv.get (i := j) (a := AV.str x) (by rw [List.getElem?_map, hj]; rfl)
        simp only [V] at e2
        subst e2
        rw [List.getElem?_drop] at e1
        simp only [World.cell?, hT]
        simpa using e1
      refine (Go.Proofs.Any.strings_Join join_lays join_extra b off cap a0 a1 w hcell (Array.getElem?_eq_some_iff.1 hT).1 h2 hcap h3).mono ?_
      rintro e w' ⟨rfl, hB⟩
      exact ⟨_, rfl, by simp only [V], hB.size, fun k hk => hB.block k hk, hB.os, hB.tape, hB.output⟩
  | [], ha => simp only [VL] at ha
  | [_], ha => simp only [VL] at ha; exact ha.2.elim
  | _ :: _ :: _ :: _, ha => simp only [VL] at ha; exact ha.2.2.elim
noncomputable def i_joined (a0 : List ByteArray) : Option (ByteArray) :=
  bsel (decide ((a0.length : Int) = 0)) (
    some lit_5ac87db9) (
    obind (x_strings_Join a0 lit_be717853) fun (r1 : ByteArray) =>
    some r1)
theorem i_joined_ok (a0 : List ByteArray) (q0 : ByteArray) (h : i_joined a0 = some q0) : Ev Tryd.prog 71 [AV.sl a0.length (a0.map AV.str)] [] (AV.str q0) [] := by
  refine Ev.start Tryd.func71 rfl rfl 0 (τ := [(0, AV.sl a0.length (a0.map AV.str))]) rfl (Γ' := []) rfl (n := 17) rfl (g := 0) rfl (fun _ => rfl) ?_
  unfold i_joined at h
  refine RunC.seq ?_
  refine RunC.regionW ?_
  refine ROps.l (r := AV.str lit_99ba06bc) rfl rfl rfl (LOp.assign rfl rfl) ?_
  refine ROps.nil ?_
  refine RunC.seq ?_
  refine RunC.seq ?_
  rcases bsel_some h with ⟨hc1, h⟩ | ⟨hc1, h⟩
  · refine RunC.regionW ?_
    refine ROps.l (r := AV.sl a0.length (a0.map AV.str)) rfl rfl rfl (LOp.move rfl rfl) ?_
    refine ROps.l (r := AV.i64 (a0.length : Int)) rfl rfl rfl (LOp.len_sl und35 rfl rfl) ?_
    refine ROps.l (r := AV.b true) rfl rfl rfl (LOp.eqb (LOp.eql rfl rfl rfl) hc1) ?_
    refine ROps.nil ?_
    refine RunC.cond_true rfl rfl ?_
    refine RunC.seq ?_
    refine RunC.regionW ?_
    refine ROps.l (r := AV.str lit_5ac87db9) rfl rfl rfl (LOp.assign rfl rfl) ?_
    refine ROps.nil ?_
    refine RunC.ret ?_
    have hq := Option.some.inj h
    subst q0
    exact bodyQ.pure (.inr rfl) rfl (Res.one rfl (RV.tmp rfl))
  · refine RunC.regionW ?_
    refine ROps.l (r := AV.sl a0.length (a0.map AV.str)) rfl rfl rfl (LOp.move rfl rfl) ?_
    refine ROps.l (r := AV.i64 (a0.length : Int)) rfl rfl rfl (LOp.len_sl und35 rfl rfl) ?_
    refine ROps.l (r := AV.b false) rfl rfl rfl (LOp.eqb (LOp.eql rfl rfl rfl) hc1) ?_
    refine ROps.nil ?_
    refine RunC.cond_false rfl rfl ?_
    refine RunC.skip ?_
    refine RunC.seq ?_
    obtain ⟨r1, hf2, h⟩ := obind_some h
    refine RunC.regionW ?_
    refine ROps.l (r := AV.sl a0.length (a0.map AV.str)) rfl rfl rfl (LOp.move rfl rfl) ?_
    refine ROps.d (r := AV.str r1) (fs := []) (Γ' := []) rfl rfl rfl (TOp.callB (CallAs.func ent90 rfl rfl) (Bors.cons (Bor.sl (fun _ => rfl)) (Bors.cons (Bor.pure rfl) Bors.nil)) rfl rfl (x_strings_Join_ok a0 lit_be717853 r1 hf2)) rfl ?_
    refine ROps.l (r := AV.str r1) rfl rfl rfl (LOp.assign rfl rfl) ?_
    refine ROps.nil ?_
    refine RunC.ret ?_
    have hq := Option.some.inj h
    subst q0
    exact bodyQ.pure (.inr rfl) rfl (Res.one rfl (RV.tmp rfl))
noncomputable def i_listText_b1 (a0 : List Int) (L3 : List ByteArray) (v4 : Int) : Option (LR ((List ByteArray) × Int) ((List ByteArray)) (ByteArray)) :=
  bsel (decide (v4 < (a0.length : Int))) (
    obind (at? a0 v4) fun (e5 : Int) =>
    obind (i_Decimal e5) fun (r6 : ByteArray) =>
    need (apok 16 L3.length 1) <|
    olet (IntKind.i64.wrap (v4 + 1)) fun (x7 : Int) =>
    some (LR.next ((L3 ++ ([r6] : List ByteArray)), x7))) (
    some (LR.out L3))
noncomputable def i_listText_s1 (a0 : List Int) : ((List ByteArray) × Int) → Option (LR ((List ByteArray) × Int) ((List ByteArray)) (ByteArray)) := fun s => i_listText_b1 a0 s.1 s.2
noncomputable def i_listText_k1 (L10 : List ByteArray) : Option (ByteArray) :=
  obind (i_joined L10) fun (r11 : ByteArray) =>
  some r11
noncomputable def i_listText (a0 : List Int) : Option (ByteArray) :=
  obind (loopM (i_listText_s1 a0) (([] : List ByteArray), 0)) fun z => osum z (fun e => i_listText_k1 e) (fun r => some r)
theorem i_listText_ok (a0 : List Int) (q0 : ByteArray) (h : i_listText a0 = some q0) : Ev Tryd.prog 43 [AV.sl a0.length (a0.map AV.i64)] [] (AV.str q0) [] := by
  refine Ev.start Tryd.func43 rfl rfl 2 (τ := [(0, AV.sl a0.length (a0.map AV.i64))]) rfl (Γ' := [⟨0, none⟩, ⟨0, none⟩]) rfl (n := 43) rfl (g := 0) rfl (fun _ => rfl) ?_
  unfold i_listText at h
  refine RunC.seq ?_
  refine RunC.regionW ?_
  refine ROps.l (r := AV.str lit_99ba06bc) rfl rfl rfl (LOp.assign rfl rfl) ?_
  refine ROps.nil ?_
  refine RunC.seq ?_
  refine RunC.regionW ?_
  refine ROps.d (r := AV.oref 0 1 0 0) (fs := [(0, (([] : List ByteArray).map AV.str))]) (Γ' := [⟨1, some (([] : List ByteArray).map AV.str)⟩, ⟨0, none⟩]) rfl rfl rfl (TOp.buildSlice_o (g := ⟨0, none⟩) (za := AV.str lit_99ba06bc) (qs := []) 0 rfl und35 siz9 zer9 rfl zel9 rfl rfl trivial rfl) rfl ?_
  refine ROps.l (r := AV.oref 0 1 0 0) rfl rfl rfl (LOp.assign rfl rfl) ?_
  refine ROps.nil ?_
  refine RunC.seq ?_
  refine RunC.seq ?_
  refine RunC.regionW ?_
  refine ROps.l (r := AV.sl a0.length (a0.map AV.i64)) rfl rfl rfl (LOp.move rfl rfl) ?_
  refine ROps.l (r := AV.i64 (a0.length : Int)) rfl rfl rfl (LOp.len_sl und25 rfl rfl) ?_
  refine ROps.l (r := AV.i64 0) rfl rfl rfl (LOp.move rfl rfl) ?_
  refine ROps.nil ?_
  obtain ⟨z2, hz_2, h⟩ := obind_some h
  refine RunC.cutN (fun τ Γ => ∃ (L10 : List ByteArray) (u8 : Nat) (u9 : Nat), WeakLe τ [(3, AV.oref 0 u8 0 L10.length)] ∧ DeadLe Γ [⟨u8, some (L10.map AV.str)⟩, ⟨u9, none⟩] ∧ z2 = .inl L10) ?_ ?_
  · refine RunC.block (RunC.loop (RunL.loopM (x := z2) (i_listText_s1 a0) (fun (s : (List ByteArray) × Int) τ Γ => ∃ (u1 : Nat) (u2 : Nat), WeakLe τ [(3, AV.oref 0 u1 0 s.1.length), (7, AV.sl a0.length (a0.map AV.i64)), (8, AV.i64 (a0.length : Int)), (9, AV.i64 s.2)] ∧ DeadLe Γ [⟨u1, some (s.1.map AV.str)⟩, ⟨u2, none⟩]) ?_ _ _ _ hz_2 ⟨1, 0, ⟨(ALe.refl _), (ALe.refl _), (ALe.refl _), (ALe.refl _), trivial⟩, ⟨⟨rfl, .inr rfl⟩, ⟨rfl, .inl rfl⟩, trivial⟩⟩))
    rintro ⟨L3, v4⟩ τ2 Γ2 y2_ ⟨u1, u2, hw2, hd2⟩ h2_ ho2 hr2
    refine RunC.wl (τ' := [(3, AV.oref 0 u1 0 L3.length), (7, AV.sl a0.length (a0.map AV.i64)), (8, AV.i64 (a0.length : Int)), (9, AV.i64 v4)]) (Γ' := [⟨u1, some (L3.map AV.str)⟩, ⟨u2, none⟩]) hw2 hd2 ?_
    replace h2_ : i_listText_b1 a0 L3 v4 = some y2_ := h2_
    unfold i_listText_b1 at h2_
    refine RunC.seq ?_
    rcases bsel_some h2_ with ⟨hc1, h2_⟩ | ⟨hc1, h2_⟩
    · refine RunC.regionW ?_
      refine ROps.l (r := AV.b true) rfl rfl rfl (LOp.eqb (LOp.lss rfl rfl rfl) hc1) ?_
      refine ROps.nil ?_
      refine RunC.seq ?_
      refine RunC.cond_true rfl rfl ?_
      refine RunC.skip ?_
      refine RunC.seq ?_
      refine RunC.block ?_
      refine RunC.seq ?_
      obtain ⟨e5, he2, h2_⟩ := obind_some h2_
      refine RunC.regionW ?_
      refine ROps.l (r := AV.ptr [AV.i64 e5]) rfl rfl rfl (LOp.le (LOp.ix (f := AV.i64) und25 siz2 rfl rfl rfl rfl he2) ALe.ptr) ?_
      refine ROps.l (r := AV.i64 e5) rfl rfl rfl (LOp.load1 agg2 rfl rfl) ?_
      refine ROps.l (r := AV.i64 e5) rfl rfl rfl (LOp.assign rfl rfl) ?_
      refine ROps.nil ?_
      obtain ⟨r6, hf3, h2_⟩ := obind_some h2_
      obtain ⟨hm4, h2_⟩ := need_some h2_
      refine RunC.regionW ?_
      refine ROps.l (r := AV.oref 0 u1 0 L3.length) rfl rfl rfl (LOp.move rfl rfl) ?_
      refine ROps.l (r := AV.i64 e5) rfl rfl rfl (LOp.move rfl rfl) ?_
      refine ROps.d (r := AV.str r6) (fs := []) (Γ' := [⟨u1, some (L3.map AV.str)⟩, ⟨u2, none⟩]) rfl rfl rfl (TOp.callB (CallAs.func ent48 rfl rfl) (Bors.cons (Bor.pure rfl) Bors.nil) rfl rfl (i_Decimal_ok e5 r6 hf3)) rfl ?_
      refine ROps.d (r := AV.oref 1 (u2 + 1) 0 1) (fs := [(1, (([r6] : List ByteArray).map AV.str))]) (Γ' := [⟨u1, some (L3.map AV.str)⟩, ⟨(u2 + 1), some (([r6] : List ByteArray).map AV.str)⟩]) rfl rfl rfl (TOp.buildSlice_o (g := ⟨u2, none⟩) (za := AV.str lit_99ba06bc) (qs := [(0, [AV.str r6])]) 1 rfl und35 siz9 zer9 rfl zel9 rfl rfl ⟨rfl, ⟨_, ALe.refl _, rfl⟩, trivial⟩ rfl) rfl ?_
      refine ROps.app (f := AV.str) (xs := L3) (ys := ([r6] : List ByteArray)) (Γ' := [⟨(u1 + 1), some ((L3 ++ ([r6] : List ByteArray)).map AV.str)⟩, ⟨(u2 + 1), some (([r6] : List ByteArray).map AV.str)⟩]) rfl pun35 inf9 rfl rfl rfl rfl rfl rfl rfl rfl rfl (by simp) (ReadAs.own rfl (by simp)) (ones_map (fun _ => rfl)) (ap_by hm4) (ap_mx hm4) rfl ?_
      refine ROps.l (r := AV.oref 0 (u1 + 1) 0 (L3.length + 1)) rfl rfl rfl (LOp.assign rfl rfl) ?_
      refine ROps.nil ?_
      refine RunC.wl (τ' := [(3, AV.oref 0 (u1 + 1) 0 (L3.length + 1)), (7, AV.sl a0.length (a0.map AV.i64)), (8, AV.i64 (a0.length : Int)), (9, AV.i64 v4)]) (Γ' := [⟨(u1 + 1), some ((L3 ++ ([r6] : List ByteArray)).map AV.str)⟩, ⟨(u2 + 1), none⟩]) ⟨(ALe.refl _), (ALe.refl _), (ALe.refl _), (ALe.refl _), trivial⟩ ⟨⟨rfl, .inr rfl⟩, ⟨rfl, .inl rfl⟩, trivial⟩ ?_
      obtain ⟨x7, hx5, h2_⟩ := olet_some h2_
      refine RunC.regionW ?_
      refine ROps.l (r := AV.i64 x7) rfl rfl rfl (LOp.eqr (LOp.add rfl rfl rfl) (congrArg (AV.ik .i64) hx5)) ?_
      refine ROps.l (r := AV.i64 x7) rfl rfl rfl (LOp.move rfl rfl) ?_
      refine ROps.nil ?_
      cases Option.some.inj h2_
      exact ⟨_, rfl, (u1 + 1), (u2 + 1), ⟨(ALe.eq (by rw [(app_len rfl rfl)] <;> rfl)), (ALe.refl _), (ALe.refl _), (ALe.refl _), trivial⟩, ⟨⟨rfl, .inr rfl⟩, ⟨rfl, .inl rfl⟩, trivial⟩⟩
    · refine RunC.regionW ?_
      refine ROps.l (r := AV.b false) rfl rfl rfl (LOp.eqb (LOp.lss rfl rfl rfl) hc1) ?_
      refine ROps.nil ?_
      refine RunC.seq ?_
      refine RunC.cond_false rfl rfl ?_
      refine RunC.exit ?_
      cases Option.some.inj h2_
      have hx := ho2 _ rfl
      exact ⟨L3, u1, u2, ⟨(ALe.refl _), trivial⟩, ⟨⟨rfl, .inr rfl⟩, ⟨rfl, .inl rfl⟩, trivial⟩, hx⟩
  · rintro τ3 Γ3 ⟨L10, u8, u9, hw3, hd3, rfl⟩
    refine RunC.wl (τ' := [(3, AV.oref 0 u8 0 L10.length)]) (Γ' := [⟨u8, some (L10.map AV.str)⟩, ⟨u9, none⟩]) hw3 hd3 ?_
    replace h : i_listText_k1 L10 = some q0 := h
    unfold i_listText_k1 at h
    refine RunC.seq ?_
    obtain ⟨r11, hf6, h⟩ := obind_some h
    refine RunC.regionW ?_
    refine ROps.l (r := AV.oref 0 u8 0 L10.length) rfl rfl rfl (LOp.move rfl rfl) ?_
    refine ROps.d (r := AV.str r11) (fs := []) (Γ' := [⟨u8, some (L10.map AV.str)⟩, ⟨u9, none⟩]) rfl rfl rfl (TOp.callB (CallAs.func ent71 rfl rfl) (Bors.cons (Bor.own (f := AV.str) (fun _ => rfl) rfl rfl) Bors.nil) rfl rfl (i_joined_ok L10 r11 hf6)) rfl ?_
    refine ROps.l (r := AV.str r11) rfl rfl rfl (LOp.assign rfl rfl) ?_
    refine ROps.nil ?_
    refine RunC.ret ?_
    have hq := Option.some.inj h
    subst q0
    exact bodyQ.pure (.inr rfl) rfl (Res.one rfl (RV.tmp rfl))
noncomputable def i_WholeText (a0 : Int) (a1 : Int) (a2 : List Int) : Option (ByteArray × Bool) :=
  obind (i_ValidWhole a0 a1 a2) fun (r1 : Bool) =>
  bsel r1 (
    obind (i_listText ([a0, a1] : List Int)) fun (r2 : ByteArray) =>
    obind (cats? r2 lit_b7340269) fun (t3 : ByteArray) =>
    obind (i_listText a2) fun (r4 : ByteArray) =>
    obind (cats? t3 r4) fun (t5 : ByteArray) =>
    some (t5, true)) (
    some (lit_99ba06bc, false))
theorem i_WholeText_ok (a0 : Int) (a1 : Int) (a2 : List Int) (q0 : ByteArray) (q1 : Bool) (h : i_WholeText a0 a1 a2 = some (q0, q1)) : Ev Tryd.prog 14 [AV.agg [AV.i64 a0, AV.i64 a1, AV.sl a2.length (a2.map AV.i64)]] [] (AV.tup [AV.str q0, AV.b q1]) [] := by
  refine Ev.start Tryd.func14 rfl rfl 0 (τ := [(0, AV.agg [AV.i64 a0, AV.i64 a1, AV.sl a2.length (a2.map AV.i64)])]) rfl (Γ' := []) rfl (n := 37) rfl (g := 0) rfl (fun _ => rfl) ?_
  unfold i_WholeText at h
  refine RunC.seq ?_
  refine RunC.regionW ?_
  refine ROps.d (r := AV.ptr [AV.i64 a0, AV.i64 a1, AV.sl a2.length (a2.map AV.i64)]) (fs := []) (Γ' := []) rfl rfl rfl (TOp.box_s rfl rfl rfl) rfl ?_
  refine ROps.l (r := AV.str lit_99ba06bc) rfl rfl rfl (LOp.assign rfl rfl) ?_
  refine ROps.l (r := AV.b false) rfl rfl rfl (LOp.assign rfl rfl) ?_
  refine ROps.nil ?_
  refine RunC.seq ?_
  refine RunC.seq ?_
  obtain ⟨r1, hf1, h⟩ := obind_some h
  rcases bsel_some h with ⟨hc2, h⟩ | ⟨hc2, h⟩
  · refine RunC.regionW ?_
    refine ROps.l (r := AV.agg [AV.i64 a0, AV.i64 a1, AV.sl a2.length (a2.map AV.i64)]) rfl rfl rfl (LOp.loadAgg agg31 siz31 rfl rfl rfl rfl) ?_
    refine ROps.d (r := AV.b true) (fs := []) (Γ' := []) rfl rfl rfl (TOp.eqb (TOp.callB (CallAs.func ent42 rfl rfl) (Bors.cons (Bor.agg (Bors.cons (Bor.pure rfl) (Bors.cons (Bor.pure rfl) (Bors.cons (Bor.sl (fun _ => rfl)) Bors.nil)))) Bors.nil) rfl rfl (i_ValidWhole_ok a0 a1 a2 r1 hf1)) hc2) rfl ?_
    refine ROps.l (r := AV.b false) rfl rfl rfl (LOp.eqb (LOp.not rfl rfl) rfl) ?_
    refine ROps.nil ?_
    refine RunC.cond_false rfl rfl ?_
    refine RunC.skip ?_
    refine RunC.seq ?_
    obtain ⟨r2, hf3, h⟩ := obind_some h
    obtain ⟨t3, hs4, h⟩ := obind_some h
    obtain ⟨r4, hf5, h⟩ := obind_some h
    obtain ⟨t5, hs6, h⟩ := obind_some h
    refine RunC.region_draw (Γ' := []) 13 mixed 
      (TR.l (r := AV.ptr [AV.i64 a0, AV.i64 a1, AV.sl a2.length (a2.map AV.i64)]) rfl rfl (LOp.fap und31 rfl siz2 rfl rfl rfl) <|
      (TR.l (r := AV.i64 a0) rfl rfl (LOp.load1 agg2 rfl rfl) <|
      (TR.l (r := AV.ptr [AV.i64 a1, AV.sl a2.length (a2.map AV.i64)]) rfl rfl (LOp.fap und31 rfl siz2 rfl rfl rfl) <|
      (TR.l (r := AV.i64 a1) rfl rfl (LOp.load1 agg2 rfl rfl) <|
      (TR.d (r := AV.sl ([a0, a1] : List Int).length (([a0, a1] : List Int).map AV.i64)) (fs := []) rfl rfl (TOp.buildSlice_s (za := AV.i64 0) (qs := [(0, [AV.i64 a0]), (1, [AV.i64 a1])]) und25 siz2 zer2 rfl zel2 rfl rfl ⟨rfl, ⟨_, ALe.refl _, rfl⟩, ⟨rfl, ⟨_, ALe.refl _, rfl⟩, trivial⟩⟩ rfl) <|
      (TR.d (r := AV.str r2) (fs := []) rfl rfl (TOp.callB (CallAs.func ent43 rfl rfl) (Bors.cons (Bor.sl (fun _ => rfl)) Bors.nil) rfl rfl (i_listText_ok ([a0, a1] : List Int) r2 hf3)) <|
      (TR.l (r := AV.str t3) rfl rfl (LOp.cats rfl rfl rfl hs4) <|
      (TR.l (r := AV.ptr [AV.sl a2.length (a2.map AV.i64)]) rfl rfl (LOp.fap und31 rfl siz25 rfl rfl rfl) <|
      (TR.l (r := AV.sl a2.length (a2.map AV.i64)) rfl rfl (LOp.load1 agg25 rfl rfl) <|
      (TR.d (r := AV.str r4) (fs := []) rfl rfl (TOp.callB (CallAs.func ent43 rfl rfl) (Bors.cons (Bor.sl (fun _ => rfl)) Bors.nil) rfl rfl (i_listText_ok a2 r4 hf5)) <|
      (TR.l (r := AV.str t5) rfl rfl (LOp.cats rfl rfl rfl hs6) <|
      (TR.l (r := AV.str t5) rfl rfl (LOp.assign rfl rfl) <|
      (TR.l (r := AV.b true) rfl rfl (LOp.assign rfl rfl) <|
      TR.nil))))))))))))) rfl (by kernel_rfl) rfl fills_nil rfl ?_
    iterate 13 refine ROps.dropS ?_
    refine ROps.drop0 ?_
    refine ROps.nil ?_
    refine RunC.ret ?_
    have hq := Option.some.inj h
    obtain ⟨hq0, hq⟩ := Prod.mk.inj hq
    subst q0
    subst q1
    exact bodyQ.pure (.inr rfl) rfl (Res.two rfl (RV.tmp rfl) (RV.tmp rfl))
  · refine RunC.regionW ?_
    refine ROps.l (r := AV.agg [AV.i64 a0, AV.i64 a1, AV.sl a2.length (a2.map AV.i64)]) rfl rfl rfl (LOp.loadAgg agg31 siz31 rfl rfl rfl rfl) ?_
    refine ROps.d (r := AV.b false) (fs := []) (Γ' := []) rfl rfl rfl (TOp.eqb (TOp.callB (CallAs.func ent42 rfl rfl) (Bors.cons (Bor.agg (Bors.cons (Bor.pure rfl) (Bors.cons (Bor.pure rfl) (Bors.cons (Bor.sl (fun _ => rfl)) Bors.nil)))) Bors.nil) rfl rfl (i_ValidWhole_ok a0 a1 a2 r1 hf1)) hc2) rfl ?_
    refine ROps.l (r := AV.b true) rfl rfl rfl (LOp.eqb (LOp.not rfl rfl) rfl) ?_
    refine ROps.nil ?_
    refine RunC.cond_true rfl rfl ?_
    refine RunC.seq ?_
    refine RunC.regionW ?_
    refine ROps.l (r := AV.str lit_99ba06bc) rfl rfl rfl (LOp.assign rfl rfl) ?_
    refine ROps.l (r := AV.b false) rfl rfl rfl (LOp.assign rfl rfl) ?_
    refine ROps.nil ?_
    refine RunC.ret ?_
    have hq := Option.some.inj h
    obtain ⟨hq0, hq⟩ := Prod.mk.inj hq
    subst q0
    subst q1
    exact bodyQ.pure (.inr rfl) rfl (Res.two rfl (RV.tmp rfl) (RV.tmp rfl))
noncomputable def w_eqInt64S_b1 (a0 : List Int) (a1 : List Int) (v1 : Int) : Option (LR (Int) (Unit) (Bool)) :=
  bsel (decide (v1 < (a0.length : Int))) (
    obind (at? a0 v1) fun (e2 : Int) =>
    obind (at? a1 v1) fun (e3 : Int) =>
    bsel (!decide (e2 = e3)) (
      some (LR.ret false)) (
      olet (IntKind.i64.wrap (v1 + 1)) fun (x4 : Int) =>
      some (LR.next x4))) (
    some (LR.out ()))
noncomputable def w_eqInt64S_s1 (a0 : List Int) (a1 : List Int) : (Int) → Option (LR (Int) (Unit) (Bool)) := fun s => w_eqInt64S_b1 a0 a1 s
noncomputable def w_eqInt64S_k1  : Option (Bool) :=
  some true
noncomputable def w_eqInt64S (a0 : List Int) (a1 : List Int) : Option (Bool) :=
  bsel (!decide ((a0.length : Int) = (a1.length : Int))) (
    some false) (
    obind (loopM (w_eqInt64S_s1 a0 a1) 0) fun z => osum z (fun _ => w_eqInt64S_k1) (fun r => some r))
theorem w_eqInt64S_ok (a0 : List Int) (a1 : List Int) (q0 : Bool) (h : w_eqInt64S a0 a1 = some q0) : Ev Tryd.prog 44 [AV.sl a0.length (a0.map AV.i64), AV.sl a1.length (a1.map AV.i64)] [] (AV.b q0) [] := by
  refine Ev.start Tryd.func44 rfl rfl 0 (τ := [(0, AV.sl a0.length (a0.map AV.i64)), (1, AV.sl a1.length (a1.map AV.i64))]) rfl (Γ' := []) rfl (n := 53) rfl (g := 0) rfl (fun _ => rfl) ?_
  unfold w_eqInt64S at h
  refine RunC.seq ?_
  refine RunC.regionW ?_
  refine ROps.l (r := AV.b false) rfl rfl rfl (LOp.assign rfl rfl) ?_
  refine ROps.nil ?_
  refine RunC.seq ?_
  refine RunC.seq ?_
  rcases bsel_some h with ⟨hc1, h⟩ | ⟨hc1, h⟩
  · refine RunC.regionW ?_
    refine ROps.l (r := AV.sl a0.length (a0.map AV.i64)) rfl rfl rfl (LOp.move rfl rfl) ?_
    refine ROps.l (r := AV.i64 (a0.length : Int)) rfl rfl rfl (LOp.len_sl und25 rfl rfl) ?_
    refine ROps.l (r := AV.sl a1.length (a1.map AV.i64)) rfl rfl rfl (LOp.move rfl rfl) ?_
    refine ROps.l (r := AV.i64 (a1.length : Int)) rfl rfl rfl (LOp.len_sl und25 rfl rfl) ?_
    refine ROps.l (r := AV.b true) rfl rfl rfl (LOp.eqb (LOp.neq rfl rfl rfl) hc1) ?_
    refine ROps.nil ?_
    refine RunC.cond_true rfl rfl ?_
    refine RunC.seq ?_
    refine RunC.regionW ?_
    refine ROps.l (r := AV.b false) rfl rfl rfl (LOp.assign rfl rfl) ?_
    refine ROps.nil ?_
    refine RunC.ret ?_
    have hq := Option.some.inj h
    subst q0
    exact bodyQ.pure (.inr rfl) rfl (Res.one rfl (RV.tmp rfl))
  · refine RunC.regionW ?_
    refine ROps.l (r := AV.sl a0.length (a0.map AV.i64)) rfl rfl rfl (LOp.move rfl rfl) ?_
    refine ROps.l (r := AV.i64 (a0.length : Int)) rfl rfl rfl (LOp.len_sl und25 rfl rfl) ?_
    refine ROps.l (r := AV.sl a1.length (a1.map AV.i64)) rfl rfl rfl (LOp.move rfl rfl) ?_
    refine ROps.l (r := AV.i64 (a1.length : Int)) rfl rfl rfl (LOp.len_sl und25 rfl rfl) ?_
    refine ROps.l (r := AV.b false) rfl rfl rfl (LOp.eqb (LOp.neq rfl rfl rfl) hc1) ?_
    refine ROps.nil ?_
    refine RunC.cond_false rfl rfl ?_
    refine RunC.skip ?_
    refine RunC.seq ?_
    refine RunC.seq ?_
    refine RunC.regionW ?_
    refine ROps.l (r := AV.i64 0) rfl rfl rfl (LOp.assign rfl rfl) ?_
    refine ROps.nil ?_
    obtain ⟨z2, hz_2, h⟩ := obind_some h
    refine RunC.cutN (fun τ Γ => WeakLe τ [] ∧ DeadLe Γ [] ∧ z2 = .inl ()) ?_ ?_
    · refine RunC.block (RunC.loop (RunL.loopM (x := z2) (w_eqInt64S_s1 a0 a1) (fun (s : Int) τ Γ => WeakLe τ [(0, AV.sl a0.length (a0.map AV.i64)), (1, AV.sl a1.length (a1.map AV.i64)), (5, AV.i64 s)] ∧ DeadLe Γ []) ?_ _ _ _ hz_2 ⟨⟨(ALe.refl _), (ALe.refl _), (ALe.refl _), trivial⟩, trivial⟩))
      rintro v1 τ2 Γ2 y2_ ⟨hw2, hd2⟩ h2_ ho2 hr2
      refine RunC.wl (τ' := [(0, AV.sl a0.length (a0.map AV.i64)), (1, AV.sl a1.length (a1.map AV.i64)), (5, AV.i64 v1)]) (Γ' := []) hw2 hd2 ?_
      replace h2_ : w_eqInt64S_b1 a0 a1 v1 = some y2_ := h2_
      unfold w_eqInt64S_b1 at h2_
      refine RunC.seq ?_
      refine RunC.seq ?_
      rcases bsel_some h2_ with ⟨hc2, h2_⟩ | ⟨hc2, h2_⟩
      · refine RunC.regionW ?_
        refine ROps.l (r := AV.i64 v1) rfl rfl rfl (LOp.move rfl rfl) ?_
        refine ROps.l (r := AV.sl a0.length (a0.map AV.i64)) rfl rfl rfl (LOp.move rfl rfl) ?_
        refine ROps.l (r := AV.i64 (a0.length : Int)) rfl rfl rfl (LOp.len_sl und25 rfl rfl) ?_
        refine ROps.l (r := AV.b true) rfl rfl rfl (LOp.eqb (LOp.lss rfl rfl rfl) hc2) ?_
        refine ROps.nil ?_
        refine RunC.cond_true rfl rfl ?_
        refine RunC.skip ?_
        refine RunC.seq ?_
        refine RunC.block ?_
        refine RunC.seq ?_
        obtain ⟨e2, he3, h2_⟩ := obind_some h2_
        obtain ⟨e3, he4, h2_⟩ := obind_some h2_
        rcases bsel_some h2_ with ⟨hc5, h2_⟩ | ⟨hc5, h2_⟩
        · refine RunC.region_draw (Γ' := []) 9 mixed 
            (TR.l (r := AV.sl a0.length (a0.map AV.i64)) rfl rfl (LOp.move rfl rfl) <|
            (TR.l (r := AV.i64 v1) rfl rfl (LOp.move rfl rfl) <|
            (TR.l (r := AV.ptr [AV.i64 e2]) rfl rfl (LOp.le (LOp.ix (f := AV.i64) und25 siz2 rfl rfl rfl rfl he3) ALe.ptr) <|
            (TR.l (r := AV.i64 e2) rfl rfl (LOp.load1 agg2 rfl rfl) <|
            (TR.l (r := AV.sl a1.length (a1.map AV.i64)) rfl rfl (LOp.move rfl rfl) <|
            (TR.l (r := AV.i64 v1) rfl rfl (LOp.move rfl rfl) <|
            (TR.l (r := AV.ptr [AV.i64 e3]) rfl rfl (LOp.le (LOp.ix (f := AV.i64) und25 siz2 rfl rfl rfl rfl he4) ALe.ptr) <|
            (TR.l (r := AV.i64 e3) rfl rfl (LOp.load1 agg2 rfl rfl) <|
            (TR.l (r := AV.b true) rfl rfl (LOp.eqb (LOp.neq rfl rfl rfl) hc5) <|
            TR.nil))))))))) rfl (by kernel_rfl) rfl fills_nil rfl ?_
          iterate 9 refine ROps.dropS ?_
          refine ROps.drop0 ?_
          refine ROps.nil ?_
          refine RunC.cond_true rfl rfl ?_
          refine RunC.seq ?_
          refine RunC.regionW ?_
          refine ROps.l (r := AV.b false) rfl rfl rfl (LOp.assign rfl rfl) ?_
          refine ROps.nil ?_
          refine RunC.ret ?_
          cases Option.some.inj h2_
          have hx3_ := hr2 _ rfl
          subst hx3_
          have hq := Option.some.inj h
          subst q0
          exact bodyQ.pure (.inr rfl) rfl (Res.one rfl (RV.tmp rfl))
        · refine RunC.region_draw (Γ' := []) 9 mixed 
            (TR.l (r := AV.sl a0.length (a0.map AV.i64)) rfl rfl (LOp.move rfl rfl) <|
            (TR.l (r := AV.i64 v1) rfl rfl (LOp.move rfl rfl) <|
            (TR.l (r := AV.ptr [AV.i64 e2]) rfl rfl (LOp.le (LOp.ix (f := AV.i64) und25 siz2 rfl rfl rfl rfl he3) ALe.ptr) <|
            (TR.l (r := AV.i64 e2) rfl rfl (LOp.load1 agg2 rfl rfl) <|
            (TR.l (r := AV.sl a1.length (a1.map AV.i64)) rfl rfl (LOp.move rfl rfl) <|
            (TR.l (r := AV.i64 v1) rfl rfl (LOp.move rfl rfl) <|
            (TR.l (r := AV.ptr [AV.i64 e3]) rfl rfl (LOp.le (LOp.ix (f := AV.i64) und25 siz2 rfl rfl rfl rfl he4) ALe.ptr) <|
            (TR.l (r := AV.i64 e3) rfl rfl (LOp.load1 agg2 rfl rfl) <|
            (TR.l (r := AV.b false) rfl rfl (LOp.eqb (LOp.neq rfl rfl rfl) hc5) <|
            TR.nil))))))))) rfl (by kernel_rfl) rfl fills_nil rfl ?_
          iterate 9 refine ROps.dropS ?_
          refine ROps.drop0 ?_
          refine ROps.nil ?_
          refine RunC.cond_false rfl rfl ?_
          refine RunC.skip ?_
          refine RunC.wl (τ' := [(0, AV.sl a0.length (a0.map AV.i64)), (1, AV.sl a1.length (a1.map AV.i64)), (5, AV.i64 v1)]) (Γ' := []) ⟨(ALe.refl _), (ALe.refl _), (ALe.refl _), trivial⟩ trivial ?_
          obtain ⟨x4, hx6, h2_⟩ := olet_some h2_
          refine RunC.regionW ?_
          refine ROps.l (r := AV.i64 v1) rfl rfl rfl (LOp.move rfl rfl) ?_
          refine ROps.l (r := AV.i64 x4) rfl rfl rfl (LOp.eqr (LOp.add rfl rfl rfl) (congrArg (AV.ik .i64) hx6)) ?_
          refine ROps.l (r := AV.i64 x4) rfl rfl rfl (LOp.assign rfl rfl) ?_
          refine ROps.nil ?_
          cases Option.some.inj h2_
          exact ⟨_, rfl, ⟨(ALe.refl _), (ALe.refl _), (ALe.refl _), trivial⟩, trivial⟩
      · refine RunC.regionW ?_
        refine ROps.l (r := AV.i64 v1) rfl rfl rfl (LOp.move rfl rfl) ?_
        refine ROps.l (r := AV.sl a0.length (a0.map AV.i64)) rfl rfl rfl (LOp.move rfl rfl) ?_
        refine ROps.l (r := AV.i64 (a0.length : Int)) rfl rfl rfl (LOp.len_sl und25 rfl rfl) ?_
        refine ROps.l (r := AV.b false) rfl rfl rfl (LOp.eqb (LOp.lss rfl rfl rfl) hc2) ?_
        refine ROps.nil ?_
        refine RunC.cond_false rfl rfl ?_
        refine RunC.exit ?_
        cases Option.some.inj h2_
        have hx := ho2 _ rfl
        exact ⟨trivial, trivial, hx⟩
    · rintro τ4 Γ4 ⟨hw4, hd4, rfl⟩
      refine RunC.wl (τ' := []) (Γ' := []) hw4 hd4 ?_
      replace h : w_eqInt64S_k1 = some q0 := h
      unfold w_eqInt64S_k1 at h
      refine RunC.seq ?_
      refine RunC.regionW ?_
      refine ROps.l (r := AV.b true) rfl rfl rfl (LOp.assign rfl rfl) ?_
      refine ROps.nil ?_
      refine RunC.ret ?_
      have hq := Option.some.inj h
      subst q0
      exact bodyQ.pure (.inr rfl) rfl (Res.one rfl (RV.tmp rfl))
noncomputable def w_eqWhole (a0 : Int) (a1 : Int) (a2 : List Int) (a3 : Int) (a4 : Int) (a5 : List Int) : Option (Bool) :=
  bsel (!decide (a0 = a3)) (
    some false) (
    bsel (!decide (a1 = a4)) (
      some false) (
      obind (w_eqInt64S a2 a5) fun (r1 : Bool) =>
      bsel r1 (
        some true) (
        some false)))
theorem w_eqWhole_ok (a0 : Int) (a1 : Int) (a2 : List Int) (a3 : Int) (a4 : Int) (a5 : List Int) (q0 : Bool) (h : w_eqWhole a0 a1 a2 a3 a4 a5 = some q0) : Ev Tryd.prog 15 [AV.agg [AV.i64 a0, AV.i64 a1, AV.sl a2.length (a2.map AV.i64)], AV.agg [AV.i64 a3, AV.i64 a4, AV.sl a5.length (a5.map AV.i64)]] [] (AV.b q0) [] := by
  refine Ev.start Tryd.func15 rfl rfl 0 (τ := [(0, AV.agg [AV.i64 a0, AV.i64 a1, AV.sl a2.length (a2.map AV.i64)]), (1, AV.agg [AV.i64 a3, AV.i64 a4, AV.sl a5.length (a5.map AV.i64)])]) rfl (Γ' := []) rfl (n := 43) rfl (g := 0) rfl (fun _ => rfl) ?_
  unfold w_eqWhole at h
  refine RunC.seq ?_
  refine RunC.regionW ?_
  refine ROps.d (r := AV.ptr [AV.i64 a0, AV.i64 a1, AV.sl a2.length (a2.map AV.i64)]) (fs := []) (Γ' := []) rfl rfl rfl (TOp.box_s rfl rfl rfl) rfl ?_
  refine ROps.d (r := AV.ptr [AV.i64 a3, AV.i64 a4, AV.sl a5.length (a5.map AV.i64)]) (fs := []) (Γ' := []) rfl rfl rfl (TOp.box_s rfl rfl rfl) rfl ?_
  refine ROps.l (r := AV.b false) rfl rfl rfl (LOp.assign rfl rfl) ?_
  refine ROps.nil ?_
  refine RunC.seq ?_
  refine RunC.seq ?_
  rcases bsel_some h with ⟨hc1, h⟩ | ⟨hc1, h⟩
  · refine RunC.regionW ?_
    refine ROps.l (r := AV.ptr [AV.i64 a0, AV.i64 a1, AV.sl a2.length (a2.map AV.i64)]) rfl rfl rfl (LOp.fap und31 rfl siz2 rfl rfl rfl) ?_
    refine ROps.l (r := AV.i64 a0) rfl rfl rfl (LOp.load1 agg2 rfl rfl) ?_
    refine ROps.l (r := AV.ptr [AV.i64 a3, AV.i64 a4, AV.sl a5.length (a5.map AV.i64)]) rfl rfl rfl (LOp.fap und31 rfl siz2 rfl rfl rfl) ?_
    refine ROps.l (r := AV.i64 a3) rfl rfl rfl (LOp.load1 agg2 rfl rfl) ?_
    refine ROps.l (r := AV.b true) rfl rfl rfl (LOp.eqb (LOp.neq rfl rfl rfl) hc1) ?_
    refine ROps.nil ?_
    refine RunC.cond_true rfl rfl ?_
    refine RunC.seq ?_
    refine RunC.regionW ?_
    refine ROps.l (r := AV.b false) rfl rfl rfl (LOp.assign rfl rfl) ?_
    refine ROps.nil ?_
    refine RunC.ret ?_
    have hq := Option.some.inj h
    subst q0
    exact bodyQ.pure (.inr rfl) rfl (Res.one rfl (RV.tmp rfl))
  · refine RunC.regionW ?_
    refine ROps.l (r := AV.ptr [AV.i64 a0, AV.i64 a1, AV.sl a2.length (a2.map AV.i64)]) rfl rfl rfl (LOp.fap und31 rfl siz2 rfl rfl rfl) ?_
    refine ROps.l (r := AV.i64 a0) rfl rfl rfl (LOp.load1 agg2 rfl rfl) ?_
    refine ROps.l (r := AV.ptr [AV.i64 a3, AV.i64 a4, AV.sl a5.length (a5.map AV.i64)]) rfl rfl rfl (LOp.fap und31 rfl siz2 rfl rfl rfl) ?_
    refine ROps.l (r := AV.i64 a3) rfl rfl rfl (LOp.load1 agg2 rfl rfl) ?_
    refine ROps.l (r := AV.b false) rfl rfl rfl (LOp.eqb (LOp.neq rfl rfl rfl) hc1) ?_
    refine ROps.nil ?_
    refine RunC.cond_false rfl rfl ?_
    refine RunC.skip ?_
    refine RunC.seq ?_
    refine RunC.seq ?_
    rcases bsel_some h with ⟨hc2, h⟩ | ⟨hc2, h⟩
    · refine RunC.regionW ?_
      refine ROps.l (r := AV.ptr [AV.i64 a1, AV.sl a2.length (a2.map AV.i64)]) rfl rfl rfl (LOp.fap und31 rfl siz2 rfl rfl rfl) ?_
      refine ROps.l (r := AV.i64 a1) rfl rfl rfl (LOp.load1 agg2 rfl rfl) ?_
      refine ROps.l (r := AV.ptr [AV.i64 a4, AV.sl a5.length (a5.map AV.i64)]) rfl rfl rfl (LOp.fap und31 rfl siz2 rfl rfl rfl) ?_
      refine ROps.l (r := AV.i64 a4) rfl rfl rfl (LOp.load1 agg2 rfl rfl) ?_
      refine ROps.l (r := AV.b true) rfl rfl rfl (LOp.eqb (LOp.neq rfl rfl rfl) hc2) ?_
      refine ROps.nil ?_
      refine RunC.cond_true rfl rfl ?_
      refine RunC.seq ?_
      refine RunC.regionW ?_
      refine ROps.l (r := AV.b false) rfl rfl rfl (LOp.assign rfl rfl) ?_
      refine ROps.nil ?_
      refine RunC.ret ?_
      have hq := Option.some.inj h
      subst q0
      exact bodyQ.pure (.inr rfl) rfl (Res.one rfl (RV.tmp rfl))
    · refine RunC.regionW ?_
      refine ROps.l (r := AV.ptr [AV.i64 a1, AV.sl a2.length (a2.map AV.i64)]) rfl rfl rfl (LOp.fap und31 rfl siz2 rfl rfl rfl) ?_
      refine ROps.l (r := AV.i64 a1) rfl rfl rfl (LOp.load1 agg2 rfl rfl) ?_
      refine ROps.l (r := AV.ptr [AV.i64 a4, AV.sl a5.length (a5.map AV.i64)]) rfl rfl rfl (LOp.fap und31 rfl siz2 rfl rfl rfl) ?_
      refine ROps.l (r := AV.i64 a4) rfl rfl rfl (LOp.load1 agg2 rfl rfl) ?_
      refine ROps.l (r := AV.b false) rfl rfl rfl (LOp.eqb (LOp.neq rfl rfl rfl) hc2) ?_
      refine ROps.nil ?_
      refine RunC.cond_false rfl rfl ?_
      refine RunC.skip ?_
      refine RunC.wl (τ' := [(2, AV.ptr [AV.i64 a0, AV.i64 a1, AV.sl a2.length (a2.map AV.i64)]), (3, AV.ptr [AV.i64 a3, AV.i64 a4, AV.sl a5.length (a5.map AV.i64)])]) (Γ' := []) ⟨(ALe.refl _), (ALe.refl _), trivial⟩ trivial ?_
      refine RunC.seq ?_
      refine RunC.seq ?_
      obtain ⟨r1, hf3, h⟩ := obind_some h
      rcases bsel_some h with ⟨hc4, h⟩ | ⟨hc4, h⟩
      · refine RunC.regionW ?_
        refine ROps.l (r := AV.ptr [AV.sl a2.length (a2.map AV.i64)]) rfl rfl rfl (LOp.fap und31 rfl siz25 rfl rfl rfl) ?_
        refine ROps.l (r := AV.sl a2.length (a2.map AV.i64)) rfl rfl rfl (LOp.load1 agg25 rfl rfl) ?_
        refine ROps.l (r := AV.ptr [AV.sl a5.length (a5.map AV.i64)]) rfl rfl rfl (LOp.fap und31 rfl siz25 rfl rfl rfl) ?_
        refine ROps.l (r := AV.sl a5.length (a5.map AV.i64)) rfl rfl rfl (LOp.load1 agg25 rfl rfl) ?_
        refine ROps.d (r := AV.b true) (fs := []) (Γ' := []) rfl rfl rfl (TOp.eqb (TOp.callB (CallAs.func ent44 rfl rfl) (Bors.cons (Bor.sl (fun _ => rfl)) (Bors.cons (Bor.sl (fun _ => rfl)) Bors.nil)) rfl rfl (w_eqInt64S_ok a2 a5 r1 hf3)) hc4) rfl ?_
        refine ROps.l (r := AV.b false) rfl rfl rfl (LOp.eqb (LOp.not rfl rfl) rfl) ?_
        refine ROps.nil ?_
        refine RunC.cond_false rfl rfl ?_
        refine RunC.skip ?_
        refine RunC.seq ?_
        refine RunC.regionW ?_
        refine ROps.l (r := AV.b true) rfl rfl rfl (LOp.assign rfl rfl) ?_
        refine ROps.nil ?_
        refine RunC.ret ?_
        have hq := Option.some.inj h
        subst q0
        exact bodyQ.pure (.inr rfl) rfl (Res.one rfl (RV.tmp rfl))
      · refine RunC.regionW ?_
        refine ROps.l (r := AV.ptr [AV.sl a2.length (a2.map AV.i64)]) rfl rfl rfl (LOp.fap und31 rfl siz25 rfl rfl rfl) ?_
        refine ROps.l (r := AV.sl a2.length (a2.map AV.i64)) rfl rfl rfl (LOp.load1 agg25 rfl rfl) ?_
        refine ROps.l (r := AV.ptr [AV.sl a5.length (a5.map AV.i64)]) rfl rfl rfl (LOp.fap und31 rfl siz25 rfl rfl rfl) ?_
        refine ROps.l (r := AV.sl a5.length (a5.map AV.i64)) rfl rfl rfl (LOp.load1 agg25 rfl rfl) ?_
        refine ROps.d (r := AV.b false) (fs := []) (Γ' := []) rfl rfl rfl (TOp.eqb (TOp.callB (CallAs.func ent44 rfl rfl) (Bors.cons (Bor.sl (fun _ => rfl)) (Bors.cons (Bor.sl (fun _ => rfl)) Bors.nil)) rfl rfl (w_eqInt64S_ok a2 a5 r1 hf3)) hc4) rfl ?_
        refine ROps.l (r := AV.b true) rfl rfl rfl (LOp.eqb (LOp.not rfl rfl) rfl) ?_
        refine ROps.nil ?_
        refine RunC.cond_true rfl rfl ?_
        refine RunC.seq ?_
        refine RunC.regionW ?_
        refine ROps.l (r := AV.b false) rfl rfl rfl (LOp.assign rfl rfl) ?_
        refine ROps.nil ?_
        refine RunC.ret ?_
        have hq := Option.some.inj h
        subst q0
        exact bodyQ.pure (.inr rfl) rfl (Res.one rfl (RV.tmp rfl))
noncomputable def w_FnExactWholeText (a0 : Int) (a1 : Int) (a2 : List Int) : Option (Bool) :=
  obind (w_szWhole a0 a1 a2 1048576) fun (r1 : Int) =>
  bsel (decide (r1 < 0)) (
    some true) (
    obind3 (w_toWhole a0 a1 a2) fun (r2 : Int) (r3 : Int) (r4 : List Int) =>
    obind2 (s_WholeText r2 r3 r4) fun (r5 : ByteArray) (r6 : Bool) =>
    obind3 (w_toWhole a0 a1 a2) fun (r7 : Int) (r8 : Int) (r9 : List Int) =>
    obind2 (i_WholeText r7 r8 r9) fun (r10 : ByteArray) (r11 : Bool) =>
    bsel (!eqs r10 r5) (
      some false) (
      bsel (!(r11 == r6)) (
        some false) (
        obind3 (w_toWhole a0 a1 a2) fun (r12 : Int) (r13 : Int) (r14 : List Int) =>
        obind (w_eqWhole r7 r8 r9 r12 r13 r14) fun (r15 : Bool) =>
        bsel r15 (
          some true) (
          some false))))
theorem w_FnExactWholeText_ok (a0 : Int) (a1 : Int) (a2 : List Int) (q0 : Bool) (h : w_FnExactWholeText a0 a1 a2 = some q0) : Ev Tryd.prog 4 [AV.agg [AV.i64 a0, AV.i64 a1, AV.sl a2.length (a2.map AV.i64)]] [] (AV.b q0) [] := by
  refine Ev.start Tryd.func4 rfl rfl 2 (τ := [(0, AV.agg [AV.i64 a0, AV.i64 a1, AV.sl a2.length (a2.map AV.i64)])]) rfl (Γ' := [⟨0, none⟩, ⟨0, none⟩]) rfl (n := 81) rfl (g := 0) rfl (fun _ => rfl) ?_
  unfold w_FnExactWholeText at h
  refine RunC.seq ?_
  refine RunC.regionW ?_
  refine ROps.d (r := AV.ptr [AV.i64 a0, AV.i64 a1, AV.sl a2.length (a2.map AV.i64)]) (fs := []) (Γ' := [⟨0, none⟩, ⟨0, none⟩]) rfl rfl rfl (TOp.box_s rfl rfl rfl) rfl ?_
  refine ROps.l (r := AV.b false) rfl rfl rfl (LOp.assign rfl rfl) ?_
  refine ROps.nil ?_
  refine RunC.seq ?_
  refine RunC.regionW ?_
  refine ROps.l (r := AV.i64 1048576) rfl rfl rfl (LOp.assign rfl rfl) ?_
  refine ROps.nil ?_
  refine RunC.seq ?_
  obtain ⟨r1, hf1, h⟩ := obind_some h
  refine RunC.regionW ?_
  refine ROps.l (r := AV.agg [AV.i64 a0, AV.i64 a1, AV.sl a2.length (a2.map AV.i64)]) rfl rfl rfl (LOp.loadAgg agg27 siz27 rfl rfl rfl rfl) ?_
  refine ROps.l (r := AV.i64 1048576) rfl rfl rfl (LOp.move rfl rfl) ?_
  refine ROps.d (r := AV.i64 r1) (fs := []) (Γ' := [⟨0, none⟩, ⟨0, none⟩]) rfl rfl rfl (TOp.callB (CallAs.func ent11 rfl rfl) (Bors.cons (Bor.agg (Bors.cons (Bor.pure rfl) (Bors.cons (Bor.pure rfl) (Bors.cons (Bor.sl (fun _ => rfl)) Bors.nil)))) (Bors.cons (Bor.pure rfl) Bors.nil)) rfl rfl (w_szWhole_ok a0 a1 a2 1048576 r1 hf1)) rfl ?_
  refine ROps.l (r := AV.i64 r1) rfl rfl rfl (LOp.assign rfl rfl) ?_
  refine ROps.nil ?_
  refine RunC.seq ?_
  refine RunC.seq ?_
  rcases bsel_some h with ⟨hc2, h⟩ | ⟨hc2, h⟩
  · refine RunC.regionW ?_
    refine ROps.l (r := AV.i64 r1) rfl rfl rfl (LOp.move rfl rfl) ?_
    refine ROps.l (r := AV.b true) rfl rfl rfl (LOp.eqb (LOp.lss rfl rfl rfl) hc2) ?_
    refine ROps.nil ?_
    refine RunC.cond_true rfl rfl ?_
    refine RunC.seq ?_
    refine RunC.regionW ?_
    refine ROps.l (r := AV.b true) rfl rfl rfl (LOp.assign rfl rfl) ?_
    refine ROps.nil ?_
    refine RunC.ret ?_
    have hq := Option.some.inj h
    subst q0
    exact bodyQ.pure (.inr rfl) rfl (Res.one rfl (RV.tmp rfl))
  · refine RunC.regionW ?_
    refine ROps.l (r := AV.i64 r1) rfl rfl rfl (LOp.move rfl rfl) ?_
    refine ROps.l (r := AV.b false) rfl rfl rfl (LOp.eqb (LOp.lss rfl rfl rfl) hc2) ?_
    refine ROps.nil ?_
    refine RunC.cond_false rfl rfl ?_
    refine RunC.skip ?_
    refine RunC.seq ?_
    obtain ⟨r2, r3, r4, hf3, h⟩ := obind3_some h
    obtain ⟨r5, r6, hf4, h⟩ := obind2_some h
    refine RunC.regionW ?_
    refine ROps.l (r := AV.agg [AV.i64 a0, AV.i64 a1, AV.sl a2.length (a2.map AV.i64)]) rfl rfl rfl (LOp.loadAgg agg27 siz27 rfl rfl rfl rfl) ?_
    refine ROps.d (r := AV.agg [AV.i64 r2, AV.i64 r3, AV.oref 0 1 0 r4.length]) (fs := [(0, (r4.map AV.i64))]) (Γ' := [⟨1, some (r4.map AV.i64)⟩, ⟨0, none⟩]) rfl rfl rfl (TOp.callBN (ls := [(r4.map AV.i64)]) [0] (CallAs.func ent13 rfl rfl) (Bors.cons (Bor.agg (Bors.cons (Bor.pure rfl) (Bors.cons (Bor.pure rfl) (Bors.cons (Bor.sl (fun _ => rfl)) Bors.nil)))) Bors.nil) rfl (w_toWhole_ok a0 a1 a2 r2 r3 r4 hf3) (and_all (lts0_map (f := AV.i64) (fun _ => rfl) _) rfl) (and_all (noss_map (f := AV.i64) (fun _ => rfl) _) rfl) rfl (by decide) (ns_of ⟨⟨_, rfl⟩, trivial⟩)) rfl ?_
    refine ROps.d (r := AV.tup [AV.str r5, AV.b r6]) (fs := []) (Γ' := [⟨1, some (r4.map AV.i64)⟩, ⟨0, none⟩]) rfl rfl rfl (TOp.callB (CallAs.func ent12 rfl rfl) (Bors.cons (Bor.agg (Bors.cons (Bor.pure rfl) (Bors.cons (Bor.pure rfl) (Bors.cons (Bor.own (f := AV.i64) (fun _ => rfl) rfl rfl) Bors.nil)))) Bors.nil) rfl rfl (s_WholeText_ok r2 r3 r4 r5 r6 hf4)) rfl ?_
    refine ROps.l (r := AV.tup [AV.str r5, AV.b r6]) rfl rfl rfl (LOp.move rfl rfl) ?_
    refine ROps.l (r := AV.str r5) rfl rfl rfl (LOp.extract rfl rfl rfl) ?_
    refine ROps.l (r := AV.b r6) rfl rfl rfl (LOp.extract rfl rfl rfl) ?_
    refine ROps.l (r := AV.str r5) rfl rfl rfl (LOp.assign rfl rfl) ?_
    refine ROps.l (r := AV.b r6) rfl rfl rfl (LOp.assign rfl rfl) ?_
    refine ROps.nil ?_
    refine RunC.wl (τ' := [(1, AV.ptr [AV.i64 a0, AV.i64 a1, AV.sl a2.length (a2.map AV.i64)]), (4, AV.str r5), (5, AV.b r6)]) (Γ' := [⟨1, none⟩, ⟨0, none⟩]) ⟨(ALe.refl _), (ALe.refl _), (ALe.refl _), trivial⟩ ⟨⟨rfl, .inl rfl⟩, ⟨rfl, .inr rfl⟩, trivial⟩ ?_
    refine RunC.seq ?_
    obtain ⟨r7, r8, r9, hf5, h⟩ := obind3_some h
    refine RunC.regionW ?_
    refine ROps.l (r := AV.agg [AV.i64 a0, AV.i64 a1, AV.sl a2.length (a2.map AV.i64)]) rfl rfl rfl (LOp.loadAgg agg27 siz27 rfl rfl rfl rfl) ?_
    refine ROps.d (r := AV.agg [AV.i64 r7, AV.i64 r8, AV.oref 0 2 0 r9.length]) (fs := [(0, (r9.map AV.i64))]) (Γ' := [⟨2, some (r9.map AV.i64)⟩, ⟨0, none⟩]) rfl rfl rfl (TOp.callBN (ls := [(r9.map AV.i64)]) [0] (CallAs.func ent13 rfl rfl) (Bors.cons (Bor.agg (Bors.cons (Bor.pure rfl) (Bors.cons (Bor.pure rfl) (Bors.cons (Bor.sl (fun _ => rfl)) Bors.nil)))) Bors.nil) rfl (w_toWhole_ok a0 a1 a2 r7 r8 r9 hf5) (and_all (lts0_map (f := AV.i64) (fun _ => rfl) _) rfl) (and_all (noss_map (f := AV.i64) (fun _ => rfl) _) rfl) rfl (by decide) (ns_of ⟨⟨_, rfl⟩, trivial⟩)) rfl ?_
    refine ROps.d (r := AV.optr 1 1 0) (fs := [(1, [AV.i64 0, AV.i64 0, AV.nilsl])]) (Γ' := [⟨2, some (r9.map AV.i64)⟩, ⟨1, some [AV.i64 0, AV.i64 0, AV.nilsl]⟩]) rfl rfl rfl (TOp.alloc_o (g := ⟨0, none⟩) 1 rfl zer31 zok31 rfl) rfl ?_
    refine ROps.store_le (r := AV.agg [AV.i64 r7, AV.i64 r8, AV.oref 0 2 0 r9.length]) (l' := [AV.i64 r7, AV.i64 r8, AV.oref 0 2 0 r9.length]) (Γ' := [⟨2, some (r9.map AV.i64)⟩, ⟨1, some [AV.i64 r7, AV.i64 r8, AV.oref 0 2 0 r9.length]⟩]) rfl siz31 rfl rfl rfl (ALe.refl _) rfl rfl rfl rfl (Nat.le_of_ble_eq_true rfl) rfl rfl ?_
    refine ROps.nil ?_
    refine RunC.seq ?_
    obtain ⟨r10, r11, hf6, h⟩ := obind2_some h
    refine RunC.regionW ?_
    refine ROps.d (r := AV.agg [AV.i64 r7, AV.i64 r8, AV.oref 0 2 0 r9.length]) (fs := []) (Γ' := [⟨2, some (r9.map AV.i64)⟩, ⟨1, some [AV.i64 r7, AV.i64 r8, AV.oref 0 2 0 r9.length]⟩]) rfl rfl rfl (TOp.loadAgg_o rfl agg31 siz31 rfl rfl rfl rfl) rfl ?_
    refine ROps.d (r := AV.tup [AV.str r10, AV.b r11]) (fs := []) (Γ' := [⟨2, some (r9.map AV.i64)⟩, ⟨1, some [AV.i64 r7, AV.i64 r8, AV.oref 0 2 0 r9.length]⟩]) rfl rfl rfl (TOp.callB (CallAs.func ent14 rfl rfl) (Bors.cons (Bor.agg (Bors.cons (Bor.pure rfl) (Bors.cons (Bor.pure rfl) (Bors.cons (Bor.own (f := AV.i64) (fun _ => rfl) rfl rfl) Bors.nil)))) Bors.nil) rfl rfl (i_WholeText_ok r7 r8 r9 r10 r11 hf6)) rfl ?_
    refine ROps.l (r := AV.tup [AV.str r10, AV.b r11]) rfl rfl rfl (LOp.move rfl rfl) ?_
    refine ROps.l (r := AV.str r10) rfl rfl rfl (LOp.extract rfl rfl rfl) ?_
    refine ROps.l (r := AV.b r11) rfl rfl rfl (LOp.extract rfl rfl rfl) ?_
    refine ROps.l (r := AV.str r10) rfl rfl rfl (LOp.assign rfl rfl) ?_
    refine ROps.l (r := AV.b r11) rfl rfl rfl (LOp.assign rfl rfl) ?_
    refine ROps.nil ?_
    refine RunC.seq ?_
    refine RunC.seq ?_
    rcases bsel_some h with ⟨hc7, h⟩ | ⟨hc7, h⟩
    · refine RunC.regionW ?_
      refine ROps.l (r := AV.str r10) rfl rfl rfl (LOp.move rfl rfl) ?_
      refine ROps.l (r := AV.str r5) rfl rfl rfl (LOp.move rfl rfl) ?_
      refine ROps.l (r := AV.b true) rfl rfl rfl (LOp.eqb (LOp.neqs rfl rfl rfl) hc7) ?_
      refine ROps.l (r := AV.b true) rfl rfl rfl (LOp.move rfl rfl) ?_
      refine ROps.s rfl rfl rfl ?_
      refine ROps.s rfl rfl rfl ?_
      refine ROps.s rfl rfl rfl ?_
      refine ROps.l (r := AV.b true) rfl rfl rfl (LOp.pick_true rfl rfl rfl) ?_
      refine ROps.nil ?_
      refine RunC.wl (τ' := [(1, AV.ptr [AV.i64 a0, AV.i64 a1, AV.sl a2.length (a2.map AV.i64)]), (6, AV.optr 1 1 0), (34, AV.b true)]) (Γ' := [⟨2, some (r9.map AV.i64)⟩, ⟨1, some [AV.i64 r7, AV.i64 r8, AV.oref 0 2 0 r9.length]⟩]) ⟨(ALe.refl _), (ALe.refl _), (ALe.refl _), trivial⟩ ⟨⟨rfl, .inr rfl⟩, ⟨rfl, .inr rfl⟩, trivial⟩ ?_
      refine RunC.cond_true rfl rfl ?_
      refine RunC.seq ?_
      refine RunC.regionW ?_
      refine ROps.l (r := AV.b false) rfl rfl rfl (LOp.assign rfl rfl) ?_
      refine ROps.nil ?_
      refine RunC.ret ?_
      have hq := Option.some.inj h
      subst q0
      exact bodyQ.pure (.inr rfl) rfl (Res.one rfl (RV.tmp rfl))
    · rcases bsel_some h with ⟨hc8, h⟩ | ⟨hc8, h⟩
      · refine RunC.regionW ?_
        refine ROps.l (r := AV.str r10) rfl rfl rfl (LOp.move rfl rfl) ?_
        refine ROps.l (r := AV.str r5) rfl rfl rfl (LOp.move rfl rfl) ?_
        refine ROps.l (r := AV.b false) rfl rfl rfl (LOp.eqb (LOp.neqs rfl rfl rfl) hc7) ?_
        refine ROps.l (r := AV.b false) rfl rfl rfl (LOp.move rfl rfl) ?_
        refine ROps.l (r := AV.b r11) rfl rfl rfl (LOp.move rfl rfl) ?_
        refine ROps.l (r := AV.b r6) rfl rfl rfl (LOp.move rfl rfl) ?_
        refine ROps.l (r := AV.b true) rfl rfl rfl (LOp.eqb (LOp.neqb pun4 rfl rfl rfl) hc8) ?_
        refine ROps.l (r := AV.b true) rfl rfl rfl (LOp.pick_false rfl rfl rfl) ?_
        refine ROps.nil ?_
        refine RunC.wl (τ' := [(1, AV.ptr [AV.i64 a0, AV.i64 a1, AV.sl a2.length (a2.map AV.i64)]), (6, AV.optr 1 1 0), (34, AV.b true)]) (Γ' := [⟨2, some (r9.map AV.i64)⟩, ⟨1, some [AV.i64 r7, AV.i64 r8, AV.oref 0 2 0 r9.length]⟩]) ⟨(ALe.refl _), (ALe.refl _), (ALe.refl _), trivial⟩ ⟨⟨rfl, .inr rfl⟩, ⟨rfl, .inr rfl⟩, trivial⟩ ?_
        refine RunC.cond_true rfl rfl ?_
        refine RunC.seq ?_
        refine RunC.regionW ?_
        refine ROps.l (r := AV.b false) rfl rfl rfl (LOp.assign rfl rfl) ?_
        refine ROps.nil ?_
        refine RunC.ret ?_
        have hq := Option.some.inj h
        subst q0
        exact bodyQ.pure (.inr rfl) rfl (Res.one rfl (RV.tmp rfl))
      · refine RunC.regionW ?_
        refine ROps.l (r := AV.str r10) rfl rfl rfl (LOp.move rfl rfl) ?_
        refine ROps.l (r := AV.str r5) rfl rfl rfl (LOp.move rfl rfl) ?_
        refine ROps.l (r := AV.b false) rfl rfl rfl (LOp.eqb (LOp.neqs rfl rfl rfl) hc7) ?_
        refine ROps.l (r := AV.b false) rfl rfl rfl (LOp.move rfl rfl) ?_
        refine ROps.l (r := AV.b r11) rfl rfl rfl (LOp.move rfl rfl) ?_
        refine ROps.l (r := AV.b r6) rfl rfl rfl (LOp.move rfl rfl) ?_
        refine ROps.l (r := AV.b false) rfl rfl rfl (LOp.eqb (LOp.neqb pun4 rfl rfl rfl) hc8) ?_
        refine ROps.l (r := AV.b false) rfl rfl rfl (LOp.pick_false rfl rfl rfl) ?_
        refine ROps.nil ?_
        refine RunC.wl (τ' := [(1, AV.ptr [AV.i64 a0, AV.i64 a1, AV.sl a2.length (a2.map AV.i64)]), (6, AV.optr 1 1 0), (34, AV.b false)]) (Γ' := [⟨2, some (r9.map AV.i64)⟩, ⟨1, some [AV.i64 r7, AV.i64 r8, AV.oref 0 2 0 r9.length]⟩]) ⟨(ALe.refl _), (ALe.refl _), (ALe.refl _), trivial⟩ ⟨⟨rfl, .inr rfl⟩, ⟨rfl, .inr rfl⟩, trivial⟩ ?_
        refine RunC.cond_false rfl rfl ?_
        refine RunC.skip ?_
        refine RunC.seq ?_
        refine RunC.seq ?_
        obtain ⟨r12, r13, r14, hf9, h⟩ := obind3_some h
        obtain ⟨r15, hf10, h⟩ := obind_some h
        rcases bsel_some h with ⟨hc11, h⟩ | ⟨hc11, h⟩
        · refine RunC.region_draw (Γ' := [⟨2, some (r9.map AV.i64)⟩, ⟨1, some [AV.i64 r7, AV.i64 r8, AV.oref 0 2 0 r9.length]⟩]) 5 mixed 
            (TR.d (r := AV.agg [AV.i64 r7, AV.i64 r8, AV.oref 0 2 0 r9.length]) (fs := []) rfl rfl (TOp.loadAgg_o rfl agg31 siz31 rfl rfl rfl rfl) <|
            (TR.l (r := AV.agg [AV.i64 a0, AV.i64 a1, AV.sl a2.length (a2.map AV.i64)]) rfl rfl (LOp.loadAgg agg27 siz27 rfl rfl rfl rfl) <|
            (TR.d (r := AV.agg [AV.i64 r12, AV.i64 r13, AV.sl r14.length (r14.map AV.i64)]) (fs := []) rfl rfl (TOp.callS (CallAs.func ent13 rfl rfl) (ALes.cons (ALe.refl _) ALes.nil) (lts_cons (lt_agg (lts_cons rfl (lts_cons rfl (lts_cons (lt_sl (fun _ => rfl)) lts_nil)))) lts_nil) (lt_agg (lts_cons rfl (lts_cons rfl (lts_cons (lt_sl (fun _ => rfl)) lts_nil)))) (w_toWhole_ok a0 a1 a2 r12 r13 r14 hf9) (Bor.agg (Bors.cons (Bor.pure rfl) (Bors.cons (Bor.pure rfl) (Bors.cons (Bor.own (f := AV.i64) (fun _ => rfl) rfl rfl) Bors.nil))))) <|
            (TR.d (r := AV.b true) (fs := []) rfl rfl (TOp.eqb (TOp.callB (CallAs.func ent15 rfl rfl) (Bors.cons (Bor.agg (Bors.cons (Bor.pure rfl) (Bors.cons (Bor.pure rfl) (Bors.cons (Bor.own (f := AV.i64) (fun _ => rfl) rfl rfl) Bors.nil)))) (Bors.cons (Bor.agg (Bors.cons (Bor.pure rfl) (Bors.cons (Bor.pure rfl) (Bors.cons (Bor.sl (fun _ => rfl)) Bors.nil)))) Bors.nil)) rfl rfl (w_eqWhole_ok r7 r8 r9 r12 r13 r14 r15 hf10)) hc11) <|
            (TR.l (r := AV.b false) rfl rfl (LOp.eqb (LOp.not rfl rfl) rfl) <|
            TR.nil))))) rfl (by kernel_rfl) rfl fills_nil rfl ?_
          iterate 5 refine ROps.dropS ?_
          refine ROps.drop0 ?_
          refine ROps.nil ?_
          refine RunC.wl (τ' := [(39, AV.b false)]) (Γ' := [⟨2, none⟩, ⟨1, none⟩]) ⟨(ALe.refl _), trivial⟩ ⟨⟨rfl, .inl rfl⟩, ⟨rfl, .inl rfl⟩, trivial⟩ ?_
          refine RunC.cond_false rfl rfl ?_
          refine RunC.skip ?_
          refine RunC.seq ?_
          refine RunC.regionW ?_
          refine ROps.l (r := AV.b true) rfl rfl rfl (LOp.assign rfl rfl) ?_
          refine ROps.nil ?_
          refine RunC.ret ?_
          have hq := Option.some.inj h
          subst q0
          exact bodyQ.pure (.inr rfl) rfl (Res.one rfl (RV.tmp rfl))
        · refine RunC.region_draw (Γ' := [⟨2, some (r9.map AV.i64)⟩, ⟨1, some [AV.i64 r7, AV.i64 r8, AV.oref 0 2 0 r9.length]⟩]) 5 mixed 
            (TR.d (r := AV.agg [AV.i64 r7, AV.i64 r8, AV.oref 0 2 0 r9.length]) (fs := []) rfl rfl (TOp.loadAgg_o rfl agg31 siz31 rfl rfl rfl rfl) <|
            (TR.l (r := AV.agg [AV.i64 a0, AV.i64 a1, AV.sl a2.length (a2.map AV.i64)]) rfl rfl (LOp.loadAgg agg27 siz27 rfl rfl rfl rfl) <|
            (TR.d (r := AV.agg [AV.i64 r12, AV.i64 r13, AV.sl r14.length (r14.map AV.i64)]) (fs := []) rfl rfl (TOp.callS (CallAs.func ent13 rfl rfl) (ALes.cons (ALe.refl _) ALes.nil) (lts_cons (lt_agg (lts_cons rfl (lts_cons rfl (lts_cons (lt_sl (fun _ => rfl)) lts_nil)))) lts_nil) (lt_agg (lts_cons rfl (lts_cons rfl (lts_cons (lt_sl (fun _ => rfl)) lts_nil)))) (w_toWhole_ok a0 a1 a2 r12 r13 r14 hf9) (Bor.agg (Bors.cons (Bor.pure rfl) (Bors.cons (Bor.pure rfl) (Bors.cons (Bor.own (f := AV.i64) (fun _ => rfl) rfl rfl) Bors.nil))))) <|
            (TR.d (r := AV.b false) (fs := []) rfl rfl (TOp.eqb (TOp.callB (CallAs.func ent15 rfl rfl) (Bors.cons (Bor.agg (Bors.cons (Bor.pure rfl) (Bors.cons (Bor.pure rfl) (Bors.cons (Bor.own (f := AV.i64) (fun _ => rfl) rfl rfl) Bors.nil)))) (Bors.cons (Bor.agg (Bors.cons (Bor.pure rfl) (Bors.cons (Bor.pure rfl) (Bors.cons (Bor.sl (fun _ => rfl)) Bors.nil)))) Bors.nil)) rfl rfl (w_eqWhole_ok r7 r8 r9 r12 r13 r14 r15 hf10)) hc11) <|
            (TR.l (r := AV.b true) rfl rfl (LOp.eqb (LOp.not rfl rfl) rfl) <|
            TR.nil))))) rfl (by kernel_rfl) rfl fills_nil rfl ?_
          iterate 5 refine ROps.dropS ?_
          refine ROps.drop0 ?_
          refine ROps.nil ?_
          refine RunC.wl (τ' := [(39, AV.b true)]) (Γ' := [⟨2, none⟩, ⟨1, none⟩]) ⟨(ALe.refl _), trivial⟩ ⟨⟨rfl, .inl rfl⟩, ⟨rfl, .inl rfl⟩, trivial⟩ ?_
          refine RunC.cond_true rfl rfl ?_
          refine RunC.seq ?_
          refine RunC.regionW ?_
          refine ROps.l (r := AV.b false) rfl rfl rfl (LOp.assign rfl rfl) ?_
          refine ROps.nil ?_
          refine RunC.ret ?_
          have hq := Option.some.inj h
          subst q0
          exact bodyQ.pure (.inr rfl) rfl (Res.one rfl (RV.tmp rfl))
end Go.Proofs.YtddegdokdpeboaaDoor
