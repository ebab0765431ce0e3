/- Generated. -/
import Derived.Test.YtbebfcolmdfopaaDoorTys
namespace Go.Proofs.YtbebfcolmdfopaaDoor
open Go Go.AM
set_option maxRecDepth 20000
set_option maxHeartbeats 4000000
set_option linter.unusedVariables false
set_option linter.unusedSimpArgs false
noncomputable def w_szStringS_b1 (a0 : List ByteArray) (v2 : Int) (v3 : Int) : Option (LR (Int × Int) (Int) (Int)) :=
  bsel (decide (v3 < (a0.length : Int))) (
    obind (at? a0 v3) fun (e4 : ByteArray) =>
    olet (IntKind.i64.wrap (v2 - (e4.size : Int))) fun (x5 : Int) =>
    bsel (decide (x5 < 0)) (
      some (LR.ret (-1))) (
      olet (IntKind.i64.wrap (v3 + 1)) fun (x6 : Int) =>
      some (LR.next (x5, x6)))) (
    some (LR.out v2))
noncomputable def w_szStringS_s1 (a0 : List ByteArray) : (Int × Int) → Option (LR (Int × Int) (Int) (Int)) := fun s => w_szStringS_b1 a0 s.1 s.2
noncomputable def w_szStringS_k1 (v7 : Int) : Option (Int) :=
  some v7
noncomputable def w_szStringS (a0 : List ByteArray) (a1 : Int) : Option (Int) :=
  olet (IntKind.i64.wrap (a1 - (a0.length : Int))) fun (x1 : Int) =>
  bsel (decide (x1 < 0)) (
    some (-1)) (
    obind (loopM (w_szStringS_s1 a0) (x1, 0)) fun z => osum z (fun e => w_szStringS_k1 e) (fun r => some r))
theorem w_szStringS_ok (a0 : List ByteArray) (a1 : Int) (q0 : Int) (h : w_szStringS a0 a1 = some q0) : Ev Tryd.prog 4 [AV.sl a0.length (a0.map AV.str), AV.i64 a1] [] (AV.i64 q0) [] := by
  refine Ev.start Tryd.func4 rfl rfl 0 (τ := [(0, AV.sl a0.length (a0.map AV.str)), (1, AV.i64 a1)]) rfl (Γ' := []) rfl (n := 57) rfl (g := 0) rfl (fun _ => rfl) ?_
  unfold w_szStringS at h
  refine RunC.seq ?_
  refine RunC.regionW ?_
  refine ROps.l (r := AV.i64 0) rfl rfl rfl (LOp.assign rfl rfl) ?_
  refine ROps.nil ?_
  refine RunC.seq ?_
  obtain ⟨x1, hx1, h⟩ := olet_some h
  refine RunC.regionW ?_
  refine ROps.l (r := AV.i64 a1) rfl rfl rfl (LOp.move rfl rfl) ?_
  refine ROps.l (r := AV.sl a0.length (a0.map AV.str)) rfl rfl rfl (LOp.move rfl rfl) ?_
  refine ROps.l (r := AV.i64 (a0.length : Int)) rfl rfl rfl (LOp.len_sl und22 rfl rfl) ?_
  refine ROps.l (r := AV.i64 x1) rfl rfl rfl (LOp.eqr (LOp.sub rfl rfl rfl) (congrArg (AV.ik .i64) hx1)) ?_
  refine ROps.l (r := AV.i64 x1) rfl rfl rfl (LOp.assign rfl rfl) ?_
  refine ROps.nil ?_
  refine RunC.seq ?_
  refine RunC.seq ?_
  rcases bsel_some h with ⟨hc2, h⟩ | ⟨hc2, h⟩
  · refine RunC.regionW ?_
    refine ROps.l (r := AV.i64 x1) rfl rfl rfl (LOp.move rfl rfl) ?_
    refine ROps.l (r := AV.b true) rfl rfl rfl (LOp.eqb (LOp.lss rfl rfl rfl) hc2) ?_
    refine ROps.nil ?_
    refine RunC.cond_true rfl rfl ?_
    refine RunC.seq ?_
    refine RunC.regionW ?_
    refine ROps.l (r := AV.i64 (-1)) rfl rfl rfl (LOp.assign rfl rfl) ?_
    refine ROps.nil ?_
    refine RunC.ret ?_
    have hq := Option.some.inj h
    subst q0
    exact bodyQ.pure (.inr rfl) rfl (Res.one rfl (RV.tmp rfl))
  · refine RunC.regionW ?_
    refine ROps.l (r := AV.i64 x1) rfl rfl rfl (LOp.move rfl rfl) ?_
    refine ROps.l (r := AV.b false) rfl rfl rfl (LOp.eqb (LOp.lss rfl rfl rfl) hc2) ?_
    refine ROps.nil ?_
    refine RunC.cond_false rfl rfl ?_
    refine RunC.skip ?_
    refine RunC.seq ?_
    refine RunC.seq ?_
    refine RunC.regionW ?_
    refine ROps.l (r := AV.i64 0) rfl rfl rfl (LOp.assign rfl rfl) ?_
    refine ROps.nil ?_
    obtain ⟨z2, hz_2, h⟩ := obind_some h
    refine RunC.cutN (fun τ Γ => ∃ (v7 : Int), WeakLe τ [(1, AV.i64 v7)] ∧ DeadLe Γ [] ∧ z2 = .inl v7) ?_ ?_
    · refine RunC.block (RunC.loop (RunL.loopM (x := z2) (w_szStringS_s1 a0) (fun (s : Int × Int) τ Γ => WeakLe τ [(0, AV.sl a0.length (a0.map AV.str)), (1, AV.i64 s.1), (5, AV.i64 s.2)] ∧ DeadLe Γ []) ?_ _ _ _ hz_2 ⟨⟨(ALe.refl _), (ALe.refl _), (ALe.refl _), trivial⟩, trivial⟩))
      rintro ⟨v2, v3⟩ τ2 Γ2 y2_ ⟨hw2, hd2⟩ h2_ ho2 hr2
      refine RunC.wl (τ' := [(0, AV.sl a0.length (a0.map AV.str)), (1, AV.i64 v2), (5, AV.i64 v3)]) (Γ' := []) hw2 hd2 ?_
      replace h2_ : w_szStringS_b1 a0 v2 v3 = some y2_ := h2_
      unfold w_szStringS_b1 at h2_
      refine RunC.seq ?_
      refine RunC.seq ?_
      rcases bsel_some h2_ with ⟨hc3, h2_⟩ | ⟨hc3, h2_⟩
      · refine RunC.regionW ?_
        refine ROps.l (r := AV.i64 v3) rfl rfl rfl (LOp.move rfl rfl) ?_
        refine ROps.l (r := AV.sl a0.length (a0.map AV.str)) rfl rfl rfl (LOp.move rfl rfl) ?_
        refine ROps.l (r := AV.i64 (a0.length : Int)) rfl rfl rfl (LOp.len_sl und22 rfl rfl) ?_
        refine ROps.l (r := AV.b true) rfl rfl rfl (LOp.eqb (LOp.lss rfl rfl rfl) hc3) ?_
        refine ROps.nil ?_
        refine RunC.cond_true rfl rfl ?_
        refine RunC.skip ?_
        refine RunC.seq ?_
        refine RunC.block ?_
        refine RunC.seq ?_
        obtain ⟨e4, he4, h2_⟩ := obind_some h2_
        obtain ⟨x5, hx5, h2_⟩ := olet_some h2_
        refine RunC.regionW ?_
        refine ROps.l (r := AV.i64 v2) rfl rfl rfl (LOp.move rfl rfl) ?_
        refine ROps.l (r := AV.sl a0.length (a0.map AV.str)) rfl rfl rfl (LOp.move rfl rfl) ?_
        refine ROps.l (r := AV.i64 v3) rfl rfl rfl (LOp.move rfl rfl) ?_
        refine ROps.l (r := AV.ptr [AV.str e4]) rfl rfl rfl (LOp.le (LOp.ix (f := AV.str) und22 siz9 rfl rfl rfl rfl he4) ALe.ptr) ?_
        refine ROps.l (r := AV.str e4) rfl rfl rfl (LOp.load1 agg9 rfl rfl) ?_
        refine ROps.l (r := AV.i64 (e4.size : Int)) rfl rfl rfl (LOp.len_str und9 rfl rfl) ?_
        refine ROps.l (r := AV.i64 x5) rfl rfl rfl (LOp.eqr (LOp.sub rfl rfl rfl) (congrArg (AV.ik .i64) hx5)) ?_
        refine ROps.l (r := AV.i64 x5) rfl rfl rfl (LOp.assign rfl rfl) ?_
        refine ROps.nil ?_
        refine RunC.seq ?_
        rcases bsel_some h2_ with ⟨hc6, h2_⟩ | ⟨hc6, h2_⟩
        · refine RunC.regionW ?_
          refine ROps.l (r := AV.i64 x5) rfl rfl rfl (LOp.move rfl rfl) ?_
          refine ROps.l (r := AV.b true) rfl rfl rfl (LOp.eqb (LOp.lss rfl rfl rfl) hc6) ?_
          refine ROps.nil ?_
          refine RunC.cond_true rfl rfl ?_
          refine RunC.seq ?_
          refine RunC.regionW ?_
          refine ROps.l (r := AV.i64 (-1)) rfl rfl rfl (LOp.assign rfl rfl) ?_
          refine ROps.nil ?_
          refine RunC.ret ?_
          cases Option.some.inj h2_
          have hx3_ := hr2 _ rfl
          subst hx3_
          have hq := Option.some.inj h
          subst q0
          exact bodyQ.pure (.inr rfl) rfl (Res.one rfl (RV.tmp rfl))
        · refine RunC.regionW ?_
          refine ROps.l (r := AV.i64 x5) rfl rfl rfl (LOp.move rfl rfl) ?_
          refine ROps.l (r := AV.b false) rfl rfl rfl (LOp.eqb (LOp.lss rfl rfl rfl) hc6) ?_
          refine ROps.nil ?_
          refine RunC.cond_false rfl rfl ?_
          refine RunC.skip ?_
          refine RunC.wl (τ' := [(0, AV.sl a0.length (a0.map AV.str)), (1, AV.i64 x5), (5, AV.i64 v3)]) (Γ' := []) ⟨(ALe.refl _), (ALe.refl _), (ALe.refl _), trivial⟩ trivial ?_
          obtain ⟨x6, hx7, h2_⟩ := olet_some h2_
          refine RunC.regionW ?_
          refine ROps.l (r := AV.i64 v3) rfl rfl rfl (LOp.move rfl rfl) ?_
          refine ROps.l (r := AV.i64 x6) rfl rfl rfl (LOp.eqr (LOp.add rfl rfl rfl) (congrArg (AV.ik .i64) hx7)) ?_
          refine ROps.l (r := AV.i64 x6) rfl rfl rfl (LOp.assign rfl rfl) ?_
          refine ROps.nil ?_
          cases Option.some.inj h2_
          exact ⟨_, rfl, ⟨(ALe.refl _), (ALe.refl _), (ALe.refl _), trivial⟩, trivial⟩
      · refine RunC.regionW ?_
        refine ROps.l (r := AV.i64 v3) rfl rfl rfl (LOp.move rfl rfl) ?_
        refine ROps.l (r := AV.sl a0.length (a0.map AV.str)) rfl rfl rfl (LOp.move rfl rfl) ?_
        refine ROps.l (r := AV.i64 (a0.length : Int)) rfl rfl rfl (LOp.len_sl und22 rfl rfl) ?_
        refine ROps.l (r := AV.b false) rfl rfl rfl (LOp.eqb (LOp.lss rfl rfl rfl) hc3) ?_
        refine ROps.nil ?_
        refine RunC.cond_false rfl rfl ?_
        refine RunC.exit ?_
        cases Option.some.inj h2_
        have hx := ho2 _ rfl
        exact ⟨v2, ⟨(ALe.refl _), trivial⟩, trivial, hx⟩
    · rintro τ4 Γ4 ⟨v7, hw4, hd4, rfl⟩
      refine RunC.wl (τ' := [(1, AV.i64 v7)]) (Γ' := []) hw4 hd4 ?_
      replace h : w_szStringS_k1 v7 = some q0 := h
      unfold w_szStringS_k1 at h
      refine RunC.seq ?_
      refine RunC.regionW ?_
      refine ROps.l (r := AV.i64 v7) rfl rfl rfl (LOp.move rfl rfl) ?_
      refine ROps.l (r := AV.i64 v7) rfl rfl rfl (LOp.assign rfl rfl) ?_
      refine ROps.nil ?_
      refine RunC.ret ?_
      have hq := Option.some.inj h
      subst q0
      exact bodyQ.pure (.inr rfl) rfl (Res.one rfl (RV.tmp rfl))
noncomputable def w_toStringS_b1 (a0 : List ByteArray) (L1 : List ByteArray) (v3 : Int) : Option (LR ((List ByteArray) × Int) ((List ByteArray)) ((List ByteArray))) :=
  bsel (decide (v3 < (a0.length : Int))) (
    obind (at? a0 v3) fun (e4 : ByteArray) =>
    obind (setAt? L1 v3 e4) fun (L5 : List ByteArray) =>
    olet (IntKind.i64.wrap (v3 + 1)) fun (x6 : Int) =>
    some (LR.next (L5, x6))) (
    some (LR.out L1))
noncomputable def w_toStringS_s1 (a0 : List ByteArray) : ((List ByteArray) × Int) → Option (LR ((List ByteArray) × Int) ((List ByteArray)) ((List ByteArray))) := fun s => w_toStringS_b1 a0 s.1 s.2
noncomputable def w_toStringS_k1 (L7 : List ByteArray) : Option ((List ByteArray)) :=
  some L7
noncomputable def w_toStringS (a0 : List ByteArray) : Option ((List ByteArray)) :=
  need (mkok 16 (a0.length : Int)) <|
  obind (loopM (w_toStringS_s1 a0) ((List.replicate (a0.length : Int).toNat lit_99ba06bc), 0)) fun z => osum z (fun e => w_toStringS_k1 e) (fun r => some r)
theorem w_toStringS_ok (a0 : List ByteArray) (q0 : List ByteArray) (h : w_toStringS a0 = some q0) : Ev Tryd.prog 6 [AV.sl a0.length (a0.map AV.str)] [] (AV.oref 0 0 0 q0.length) [⟨0, some (q0.map AV.str)⟩] := by
  refine Ev.start Tryd.func6 rfl rfl 1 (τ := [(0, AV.sl a0.length (a0.map AV.str))]) rfl (Γ' := [⟨0, none⟩]) rfl (n := 45) rfl (g := 0) rfl (fun _ => rfl) ?_
  unfold w_toStringS at h
  refine RunC.seq ?_
  refine RunC.regionW ?_
  refine ROps.l (r := AV.nilsl) rfl rfl rfl (LOp.assign rfl rfl) ?_
  refine ROps.nil ?_
  refine RunC.seq ?_
  obtain ⟨hm1, h⟩ := need_some h
  refine RunC.regionW ?_
  refine ROps.l (r := AV.sl a0.length (a0.map AV.str)) rfl rfl rfl (LOp.move rfl rfl) ?_
  refine ROps.l (r := AV.i64 (a0.length : Int)) rfl rfl rfl (LOp.len_sl und22 rfl rfl) ?_
  refine ROps.d (r := AV.oref 0 1 0 ((a0.length : Int).toNat)) (fs := [(0, ((List.replicate (a0.length : Int).toNat lit_99ba06bc).map AV.str))]) (Γ' := [⟨1, some ((List.replicate (a0.length : Int).toNat lit_99ba06bc).map AV.str)⟩]) rfl rfl rfl (TOp.mkS (g := ⟨0, none⟩) (t := 22) (e := 9) (by_ := 16) (f := AV.str) (zv := lit_99ba06bc) 0 rfl und22 tin9 rfl siz9 zer9 rfl zel9 rfl rfl rfl hm1) rfl ?_
  refine ROps.l (r := AV.oref 0 1 0 ((a0.length : Int).toNat)) rfl rfl rfl (LOp.assign rfl rfl) ?_
  refine ROps.nil ?_
  refine RunC.seq ?_
  refine RunC.seq ?_
  refine RunC.regionW ?_
  refine ROps.l (r := AV.i64 0) rfl rfl rfl (LOp.assign rfl rfl) ?_
  refine ROps.nil ?_
  obtain ⟨z2, hz_2, h⟩ := obind_some h
  refine RunC.cutN (fun τ Γ => ∃ (L7 : List ByteArray), L7.length = (a0.length : Int).toNat ∧ WeakLe τ [(3, AV.oref 0 1 0 ((a0.length : Int).toNat))] ∧ DeadLe Γ [⟨1, some (L7.map AV.str)⟩] ∧ z2 = .inl L7) ?_ ?_
  · refine RunC.block (RunC.loop (RunL.loopM (x := z2) (w_toStringS_s1 a0) (fun (s : (List ByteArray) × Int) τ Γ => s.1.length = (a0.length : Int).toNat ∧ WeakLe τ [(0, AV.sl a0.length (a0.map AV.str)), (3, AV.oref 0 1 0 ((a0.length : Int).toNat)), (4, AV.i64 s.2)] ∧ DeadLe Γ [⟨1, some (s.1.map AV.str)⟩]) ?_ _ _ _ hz_2 ⟨List.length_replicate, ⟨(ALe.refl _), (ALe.refl _), (ALe.refl _), trivial⟩, ⟨⟨rfl, .inr rfl⟩, trivial⟩⟩))
    rintro ⟨L1, v3⟩ τ2 Γ2 y2_ ⟨hl2, hw2, hd2⟩ h2_ ho2 hr2
    refine RunC.wl (τ' := [(0, AV.sl a0.length (a0.map AV.str)), (3, AV.oref 0 1 0 ((a0.length : Int).toNat)), (4, AV.i64 v3)]) (Γ' := [⟨1, some (L1.map AV.str)⟩]) hw2 hd2 ?_
    replace hl2 : L1.length = (a0.length : Int).toNat := hl2
    replace h2_ : w_toStringS_b1 a0 L1 v3 = some y2_ := h2_
    unfold w_toStringS_b1 at h2_
    refine RunC.seq ?_
    refine RunC.seq ?_
    rcases bsel_some h2_ with ⟨hc2, h2_⟩ | ⟨hc2, h2_⟩
    · refine RunC.regionW ?_
      refine ROps.l (r := AV.i64 v3) rfl rfl rfl (LOp.move rfl rfl) ?_
      refine ROps.l (r := AV.sl a0.length (a0.map AV.str)) rfl rfl rfl (LOp.move rfl rfl) ?_
      refine ROps.l (r := AV.i64 (a0.length : Int)) rfl rfl rfl (LOp.len_sl und22 rfl rfl) ?_
      refine ROps.l (r := AV.b true) rfl rfl rfl (LOp.eqb (LOp.lss rfl rfl rfl) hc2) ?_
      refine ROps.nil ?_
      refine RunC.cond_true rfl rfl ?_
      refine RunC.skip ?_
      refine RunC.seq ?_
      refine RunC.block ?_
      obtain ⟨e4, he3, h2_⟩ := obind_some h2_
      obtain ⟨L5, he4, h2_⟩ := obind_some h2_
      refine RunC.regionW ?_
      refine ROps.l (r := AV.oref 0 1 0 ((a0.length : Int).toNat)) rfl rfl rfl (LOp.move rfl rfl) ?_
      refine ROps.l (r := AV.i64 v3) rfl rfl rfl (LOp.move rfl rfl) ?_
      refine ROps.l (r := AV.sl a0.length (a0.map AV.str)) rfl rfl rfl (LOp.move rfl rfl) ?_
      refine ROps.l (r := AV.i64 v3) rfl rfl rfl (LOp.move rfl rfl) ?_
      refine ROps.l (r := AV.ptr [AV.str e4]) rfl rfl rfl (LOp.le (LOp.ix (f := AV.str) und22 siz9 rfl rfl rfl rfl he3) ALe.ptr) ?_
      refine ROps.l (r := AV.str e4) rfl rfl rfl (LOp.load1 agg9 rfl rfl) ?_
      refine ROps.d (r := AV.optr 0 1 v3.toNat) (fs := []) (Γ' := [⟨1, some (L1.map AV.str)⟩]) rfl rfl rfl (TOp.ixo und22 siz9 rfl rfl rfl (set_in he4 hl2) rfl) rfl ?_
      refine ROps.st (f := AV.str) (i := v3) (Γ' := [⟨1, some (L5.map AV.str)⟩]) rfl siz9 rfl rfl rfl (ALe.refl _) rfl rfl rfl he4 rfl ?_
      refine ROps.nil ?_
      obtain ⟨x6, hx5, h2_⟩ := olet_some h2_
      refine RunC.regionW ?_
      refine ROps.l (r := AV.i64 v3) rfl rfl rfl (LOp.move rfl rfl) ?_
      refine ROps.l (r := AV.i64 x6) rfl rfl rfl (LOp.eqr (LOp.add rfl rfl rfl) (congrArg (AV.ik .i64) hx5)) ?_
      refine ROps.l (r := AV.i64 x6) rfl rfl rfl (LOp.assign rfl rfl) ?_
      refine ROps.nil ?_
      cases Option.some.inj h2_
      exact ⟨_, rfl, ((setAt?_len he4).trans hl2), ⟨(ALe.refl _), (ALe.refl _), (ALe.refl _), trivial⟩, ⟨⟨rfl, .inr rfl⟩, trivial⟩⟩
    · refine RunC.regionW ?_
      refine ROps.l (r := AV.i64 v3) rfl rfl rfl (LOp.move rfl rfl) ?_
      refine ROps.l (r := AV.sl a0.length (a0.map AV.str)) rfl rfl rfl (LOp.move rfl rfl) ?_
      refine ROps.l (r := AV.i64 (a0.length : Int)) rfl rfl rfl (LOp.len_sl und22 rfl rfl) ?_
      refine ROps.l (r := AV.b false) rfl rfl rfl (LOp.eqb (LOp.lss rfl rfl rfl) hc2) ?_
      refine ROps.nil ?_
      refine RunC.cond_false rfl rfl ?_
      refine RunC.exit ?_
      cases Option.some.inj h2_
      have hx := ho2 _ rfl
      exact ⟨L1, hl2, ⟨(ALe.refl _), trivial⟩, ⟨⟨rfl, .inr rfl⟩, trivial⟩, hx⟩
  · rintro τ3 Γ3 ⟨L7, hl8, hw3, hd3, rfl⟩
    refine RunC.wl (τ' := [(3, AV.oref 0 1 0 ((a0.length : Int).toNat))]) (Γ' := [⟨1, some (L7.map AV.str)⟩]) hw3 hd3 ?_
    replace h : w_toStringS_k1 L7 = some q0 := h
    unfold w_toStringS_k1 at h
    refine RunC.seq ?_
    refine RunC.regionW ?_
    refine ROps.l (r := AV.oref 0 1 0 ((a0.length : Int).toNat)) rfl rfl rfl (LOp.move rfl rfl) ?_
    refine ROps.l (r := AV.oref 0 1 0 ((a0.length : Int).toNat)) rfl rfl rfl (LOp.assign rfl rfl) ?_
    refine ROps.nil ?_
    refine RunC.ret ?_
    have hq := Option.some.inj h
    subst q0
    exact bodyQ.mk (r' := AV.oref 0 1 0 L7.length) [(0, 1)] (.inr rfl) rfl (show List.Nodup [0] from by decide) rfl rfl (Res.eq (Res.one rfl (RV.tmp rfl)) (by rw [(show L7.length = (a0.length : Int).toNat from hl8)] <;> rfl)) (SelL.arr0 (f := AV.str) (fun _ => rfl) rfl trivial)
noncomputable def s_l01Check_b1 (a1 : ByteArray) (v1 : Int) (v2 : Int) : Option (LR (Int × Int) (Int) (Int)) :=
  bsel (decide (v2 < (a1.size : Int))) (
    olet (IntKind.i64.wrap (863 * v1)) fun (x3 : Int) =>
    obind (sat? a1 v2) fun (e4 : Int) =>
    olet (IntKind.i64.wrap e4) fun (x5 : Int) =>
    olet (IntKind.i64.wrap (x3 + x5)) fun (x6 : Int) =>
    olet (IntKind.i64.wrap (x6 + 157)) fun (x7 : Int) =>
    need (!decide (65003 = 0)) <|
    olet (x7.tmod 65003) fun (x8 : Int) =>
    olet (IntKind.i64.wrap (v2 + 1)) fun (x9 : Int) =>
    some (LR.next (x8, x9))) (
    some (LR.out v1))
noncomputable def s_l01Check_s1 (a1 : ByteArray) : (Int × Int) → Option (LR (Int × Int) (Int) (Int)) := fun s => s_l01Check_b1 a1 s.1 s.2
noncomputable def s_l01Check_k1 (v10 : Int) : Option (Int) :=
  some v10
noncomputable def s_l01Check (a0 : Int) (a1 : ByteArray) : Option (Int) :=
  obind (loopM (s_l01Check_s1 a1) (a0, 0)) fun z => osum z (fun e => s_l01Check_k1 e) (fun r => some r)
theorem s_l01Check_ok (a0 : Int) (a1 : ByteArray) (q0 : Int) (h : s_l01Check a0 a1 = some q0) : Ev Tryd.prog 16 [AV.i64 a0, AV.str a1] [] (AV.i64 q0) [] := by
  refine Ev.start Tryd.func16 rfl rfl 0 (τ := [(0, AV.i64 a0), (1, AV.str a1)]) rfl (Γ' := []) rfl (n := 45) rfl (g := 0) rfl (fun _ => rfl) ?_
  unfold s_l01Check at h
  refine RunC.seq ?_
  refine RunC.regionW ?_
  refine ROps.l (r := AV.i64 0) rfl rfl rfl (LOp.assign rfl rfl) ?_
  refine ROps.nil ?_
  refine RunC.seq ?_
  refine RunC.seq ?_
  refine RunC.regionW ?_
  refine ROps.l (r := AV.i64 0) rfl rfl rfl (LOp.assign rfl rfl) ?_
  refine ROps.nil ?_
  obtain ⟨z2, hz_2, h⟩ := obind_some h
  refine RunC.cutN (fun τ Γ => ∃ (v10 : Int), WeakLe τ [(0, AV.i64 v10)] ∧ DeadLe Γ [] ∧ z2 = .inl v10) ?_ ?_
  · refine RunC.block (RunC.loop (RunL.loopM (x := z2) (s_l01Check_s1 a1) (fun (s : Int × Int) τ Γ => WeakLe τ [(0, AV.i64 s.1), (1, AV.str a1), (5, AV.i64 s.2)] ∧ DeadLe Γ []) ?_ _ _ _ hz_2 ⟨⟨(ALe.refl _), (ALe.refl _), (ALe.refl _), trivial⟩, trivial⟩))
    rintro ⟨v1, v2⟩ τ2 Γ2 y2_ ⟨hw2, hd2⟩ h2_ ho2 hr2
    refine RunC.wl (τ' := [(0, AV.i64 v1), (1, AV.str a1), (5, AV.i64 v2)]) (Γ' := []) hw2 hd2 ?_
    replace h2_ : s_l01Check_b1 a1 v1 v2 = some y2_ := h2_
    unfold s_l01Check_b1 at h2_
    refine RunC.seq ?_
    refine RunC.seq ?_
    rcases bsel_some h2_ with ⟨hc1, h2_⟩ | ⟨hc1, h2_⟩
    · refine RunC.regionW ?_
      refine ROps.l (r := AV.i64 v2) rfl rfl rfl (LOp.move rfl rfl) ?_
      refine ROps.l (r := AV.str a1) rfl rfl rfl (LOp.move rfl rfl) ?_
      refine ROps.l (r := AV.i64 (a1.size : Int)) rfl rfl rfl (LOp.len_str und9 rfl rfl) ?_
      refine ROps.l (r := AV.b true) rfl rfl rfl (LOp.eqb (LOp.lss rfl rfl rfl) hc1) ?_
      refine ROps.nil ?_
      refine RunC.cond_true rfl rfl ?_
      refine RunC.skip ?_
      refine RunC.seq ?_
      refine RunC.block ?_
      obtain ⟨x3, hx2, h2_⟩ := olet_some h2_
      obtain ⟨e4, he3, h2_⟩ := obind_some h2_
      obtain ⟨x5, hx4, h2_⟩ := olet_some h2_
      obtain ⟨x6, hx5, h2_⟩ := olet_some h2_
      obtain ⟨x7, hx6, h2_⟩ := olet_some h2_
      obtain ⟨hz7, h2_⟩ := need_some h2_
      obtain ⟨x8, hx8, h2_⟩ := olet_some h2_
      refine RunC.regionW ?_
      refine ROps.l (r := AV.i64 v1) rfl rfl rfl (LOp.move rfl rfl) ?_
      refine ROps.l (r := AV.i64 x3) rfl rfl rfl (LOp.eqr (LOp.mul rfl rfl rfl) (congrArg (AV.ik .i64) hx2)) ?_
      refine ROps.l (r := AV.str a1) rfl rfl rfl (LOp.move rfl rfl) ?_
      refine ROps.l (r := AV.i64 v2) rfl rfl rfl (LOp.move rfl rfl) ?_
      refine ROps.l (r := AV.ik .u8 e4) rfl rfl rfl (LOp.index_str und9 rfl rfl rfl he3) ?_
      refine ROps.l (r := AV.i64 x5) rfl rfl rfl (LOp.eqr (LOp.i2i (src := 5) (dst := 2) ⟨_, pun5⟩ pun2 rfl rfl) (congrArg (AV.ik .i64) hx4)) ?_
      refine ROps.l (r := AV.i64 x6) rfl rfl rfl (LOp.eqr (LOp.add rfl rfl rfl) (congrArg (AV.ik .i64) hx5)) ?_
      refine ROps.l (r := AV.i64 x7) rfl rfl rfl (LOp.eqr (LOp.add rfl rfl rfl) (congrArg (AV.ik .i64) hx6)) ?_
      refine ROps.l (r := AV.i64 x8) rfl rfl rfl (LOp.eqr (LOp.rem rfl rfl rfl (nz hz7)) (congrArg (AV.ik .i64) hx8)) ?_
      refine ROps.l (r := AV.i64 x8) rfl rfl rfl (LOp.assign rfl rfl) ?_
      refine ROps.nil ?_
      refine RunC.wl (τ' := [(0, AV.i64 x8), (1, AV.str a1), (5, AV.i64 v2)]) (Γ' := []) ⟨(ALe.refl _), (ALe.refl _), (ALe.refl _), trivial⟩ trivial ?_
      obtain ⟨x9, hx9, h2_⟩ := olet_some h2_
      refine RunC.regionW ?_
      refine ROps.l (r := AV.i64 v2) rfl rfl rfl (LOp.move rfl rfl) ?_
      refine ROps.l (r := AV.i64 x9) rfl rfl rfl (LOp.eqr (LOp.add rfl rfl rfl) (congrArg (AV.ik .i64) hx9)) ?_
      refine ROps.l (r := AV.i64 x9) rfl rfl rfl (LOp.assign rfl rfl) ?_
      refine ROps.nil ?_
      cases Option.some.inj h2_
      exact ⟨_, rfl, ⟨(ALe.refl _), (ALe.refl _), (ALe.refl _), trivial⟩, trivial⟩
    · refine RunC.regionW ?_
      refine ROps.l (r := AV.i64 v2) rfl rfl rfl (LOp.move rfl rfl) ?_
      refine ROps.l (r := AV.str a1) rfl rfl rfl (LOp.move rfl rfl) ?_
      refine ROps.l (r := AV.i64 (a1.size : Int)) rfl rfl rfl (LOp.len_str und9 rfl rfl) ?_
      refine ROps.l (r := AV.b false) rfl rfl rfl (LOp.eqb (LOp.lss rfl rfl rfl) hc1) ?_
      refine ROps.nil ?_
      refine RunC.cond_false rfl rfl ?_
      refine RunC.exit ?_
      cases Option.some.inj h2_
      have hx := ho2 _ rfl
      exact ⟨v1, ⟨(ALe.refl _), trivial⟩, trivial, hx⟩
  · rintro τ3 Γ3 ⟨v10, hw3, hd3, rfl⟩
    refine RunC.wl (τ' := [(0, AV.i64 v10)]) (Γ' := []) hw3 hd3 ?_
    replace h : s_l01Check_k1 v10 = some q0 := h
    unfold s_l01Check_k1 at h
    refine RunC.seq ?_
    refine RunC.regionW ?_
    refine ROps.l (r := AV.i64 v10) rfl rfl rfl (LOp.move rfl rfl) ?_
    refine ROps.l (r := AV.i64 v10) rfl rfl rfl (LOp.assign rfl rfl) ?_
    refine ROps.nil ?_
    refine RunC.ret ?_
    have hq := Option.some.inj h
    subst q0
    exact bodyQ.pure (.inr rfl) rfl (Res.one rfl (RV.tmp rfl))
noncomputable def s_l01Dec_k6 (l3 : List Int) (v4 : Int) (v7 : Int) : Option (LR ((List Int) × Int) ((List Int)) (ByteArray)) :=
  olet (IntKind.i64.wrap (48 + v7)) fun (x8 : Int) =>
  olet (IntKind.u8.wrap x8) fun (x9 : Int) =>
  need (apok 1 1 l3.length) <|
  need (!decide (10 = 0)) <|
  olet (IntKind.i64.wrap (v4.tdiv 10)) fun (x10 : Int) =>
  some (LR.next ((([x9] : List Int) ++ l3), x10))
noncomputable def s_l01Dec_k5 (l3 : List Int) (v4 : Int) : Option (LR ((List Int) × Int) ((List Int)) (ByteArray)) :=
  need (!decide (10 = 0)) <|
  olet (v4.tmod 10) fun (x5 : Int) =>
  bsel (decide (x5 < 0)) (
    olet (IntKind.i64.wrap (0 - x5)) fun (x6 : Int) =>
    s_l01Dec_k6 l3 v4 x6) (
    s_l01Dec_k6 l3 v4 x5)
noncomputable def s_l01Dec_b7 (l3 : List Int) (v4 : Int) : Option (LR ((List Int) × Int) ((List Int)) (ByteArray)) :=
  bsel (decide ((l3.length : Int) = 0)) (
    s_l01Dec_k5 l3 v4) (
    bsel (!decide (v4 = 0)) (
      s_l01Dec_k5 l3 v4) (
      some (LR.out l3)))
noncomputable def s_l01Dec_s7  : ((List Int) × Int) → Option (LR ((List Int) × Int) ((List Int)) (ByteArray)) := fun s => s_l01Dec_b7 s.1 s.2
noncomputable def s_l01Dec_k8 (l15 : List Int) : Option (ByteArray) :=
  some (strOfNums l15)
noncomputable def s_l01Dec_k7 (a0 : Int) (l13 : List Int) : Option (ByteArray) :=
  bsel (decide (a0 < 0)) (
    need (apok 1 1 l13.length) <|
    s_l01Dec_k8 (([45] : List Int) ++ l13)) (
    s_l01Dec_k8 l13)
noncomputable def s_l01Dec (a0 : Int) : Option (ByteArray) :=
  obind (loopM (s_l01Dec_s7) (([] : List Int), a0)) fun z => osum z (fun e => s_l01Dec_k7 a0 e) (fun r => some r)
theorem s_l01Dec_ok (a0 : Int) (q0 : ByteArray) (h : s_l01Dec a0 = some q0) : Ev Tryd.prog 17 [AV.i64 a0] [] (AV.str q0) [] := by
  refine Ev.start Tryd.func17 rfl rfl 2 (τ := [(0, AV.i64 a0)]) rfl (Γ' := [⟨0, none⟩, ⟨0, none⟩]) rfl (n := 73) rfl (g := 0) rfl (fun _ => rfl) ?_
  unfold s_l01Dec at h
  refine RunC.seq ?_
  refine RunC.regionW ?_
  refine ROps.l (r := AV.str lit_99ba06bc) rfl rfl rfl (LOp.assign rfl rfl) ?_
  refine ROps.nil ?_
  refine RunC.seq ?_
  refine RunC.regionW ?_
  refine ROps.d (r := AV.oref 0 1 0 0) (fs := [(0, (([] : List Int).map (AV.ik .u8)))]) (Γ' := [⟨1, some (([] : List Int).map (AV.ik .u8))⟩, ⟨0, none⟩]) rfl rfl rfl (TOp.buildSlice_o (g := ⟨0, none⟩) (za := AV.ik .u8 0) (qs := []) 0 rfl und31 siz5 zer5 rfl zel5 rfl rfl trivial rfl) rfl ?_
  refine ROps.l (r := AV.oref 0 1 0 0) rfl rfl rfl (LOp.assign rfl rfl) ?_
  refine ROps.nil ?_
  refine RunC.seq ?_
  refine RunC.regionW ?_
  refine ROps.l (r := AV.i64 a0) rfl rfl rfl (LOp.move rfl rfl) ?_
  refine ROps.l (r := AV.i64 a0) rfl rfl rfl (LOp.assign rfl rfl) ?_
  refine ROps.nil ?_
  refine RunC.seq ?_
  obtain ⟨z9, hz_9, h⟩ := obind_some h
  refine RunC.cutN (fun τ Γ => ∃ (l13 : List Int) (u11 : Nat) (u12 : Nat), Le 73 τ Γ [(0, AV.i64 a0), (3, AV.sl l13.length (l13.map (AV.ik .u8)))] [⟨u11, none⟩, ⟨u12, none⟩] ∧ z9 = .inl l13) ?_ ?_
  · refine RunC.block (RunC.loop (RunL.loopM (x := z9) (s_l01Dec_s7) (fun (s : (List Int) × Int) τ Γ => ∃ (u1 : Nat) (u2 : Nat), Le 73 τ Γ [(0, AV.i64 a0), (3, AV.sl s.1.length (s.1.map (AV.ik .u8))), (4, AV.i64 s.2)] [⟨u1, none⟩, ⟨u2, none⟩]) ?_ _ _ _ hz_9 ⟨1, 0, (Le.trans (Le.settle 0 [(0, AV.i64 a0), (3, AV.sl ([] : List Int).length (([] : List Int).map (AV.ik .u8))), (4, AV.i64 a0)] rfl rfl rfl ⟨.inl rfl, .inr (Bor.own (f := (AV.ik .u8)) (n := 0) (l := ([] : List Int)) (fun _ => rfl) rfl rfl), .inl rfl, trivial⟩) (Le.of ⟨(ALe.refl _), (ALe.refl _), (ALe.refl _), trivial⟩ ⟨⟨rfl, .inl rfl⟩, ⟨rfl, .inl rfl⟩, trivial⟩))⟩))
    rintro ⟨l3, v4⟩ τ9 Γ9 y9_ ⟨u1, u2, hw9⟩ h9_ ho9 hr9
    refine RunC.le (τ' := [(0, AV.i64 a0), (3, AV.sl l3.length (l3.map (AV.ik .u8))), (4, AV.i64 v4)]) (Γ' := [⟨u1, none⟩, ⟨u2, none⟩]) hw9 ?_
    replace h9_ : s_l01Dec_b7 l3 v4 = some y9_ := h9_
    unfold s_l01Dec_b7 at h9_
    refine RunC.seq ?_
    refine RunC.cutN (fun τ Γ =>  Le 73 τ Γ [(0, AV.i64 a0), (3, AV.sl l3.length (l3.map (AV.ik .u8))), (4, AV.i64 v4)] [⟨u1, none⟩, ⟨u2, none⟩] ∧ s_l01Dec_k5 l3 v4 = some y9_) ?_ ?_
    · refine RunC.seq ?_
      rcases bsel_some h9_ with ⟨hc1, h9_⟩ | ⟨hc1, h9_⟩
      · refine RunC.regionW ?_
        refine ROps.l (r := AV.sl l3.length (l3.map (AV.ik .u8))) rfl rfl rfl (LOp.move rfl rfl) ?_
        refine ROps.l (r := AV.i64 (l3.length : Int)) rfl rfl rfl (LOp.len_sl und31 rfl rfl) ?_
        refine ROps.l (r := AV.b true) rfl rfl rfl (LOp.eqb (LOp.eql rfl rfl rfl) hc1) ?_
        refine ROps.l (r := AV.b true) rfl rfl rfl (LOp.move rfl rfl) ?_
        refine ROps.s rfl rfl rfl ?_
        refine ROps.s rfl rfl rfl ?_
        refine ROps.l (r := AV.b true) rfl rfl rfl (LOp.pick_true rfl rfl rfl) ?_
        refine ROps.nil ?_
        refine RunC.cond_true rfl rfl ?_
        refine RunC.skip ?_
        exact ⟨(Le.of ⟨(ALe.refl _), (ALe.refl _), (ALe.refl _), trivial⟩ ⟨⟨rfl, .inl rfl⟩, ⟨rfl, .inl rfl⟩, trivial⟩), h9_⟩
      · rcases bsel_some h9_ with ⟨hc2, h9_⟩ | ⟨hc2, h9_⟩
        · refine RunC.regionW ?_
          refine ROps.l (r := AV.sl l3.length (l3.map (AV.ik .u8))) rfl rfl rfl (LOp.move rfl rfl) ?_
          refine ROps.l (r := AV.i64 (l3.length : Int)) rfl rfl rfl (LOp.len_sl und31 rfl rfl) ?_
          refine ROps.l (r := AV.b false) rfl rfl rfl (LOp.eqb (LOp.eql rfl rfl rfl) hc1) ?_
          refine ROps.l (r := AV.b false) rfl rfl rfl (LOp.move rfl rfl) ?_
          refine ROps.l (r := AV.i64 v4) rfl rfl rfl (LOp.move rfl rfl) ?_
          refine ROps.l (r := AV.b true) rfl rfl rfl (LOp.eqb (LOp.neq rfl rfl rfl) hc2) ?_
          refine ROps.l (r := AV.b true) rfl rfl rfl (LOp.pick_false rfl rfl rfl) ?_
          refine ROps.nil ?_
          refine RunC.cond_true rfl rfl ?_
          refine RunC.skip ?_
          exact ⟨(Le.of ⟨(ALe.refl _), (ALe.refl _), (ALe.refl _), trivial⟩ ⟨⟨rfl, .inl rfl⟩, ⟨rfl, .inl rfl⟩, trivial⟩), h9_⟩
        · refine RunC.regionW ?_
          refine ROps.l (r := AV.sl l3.length (l3.map (AV.ik .u8))) rfl rfl rfl (LOp.move rfl rfl) ?_
          refine ROps.l (r := AV.i64 (l3.length : Int)) rfl rfl rfl (LOp.len_sl und31 rfl rfl) ?_
          refine ROps.l (r := AV.b false) rfl rfl rfl (LOp.eqb (LOp.eql rfl rfl rfl) hc1) ?_
          refine ROps.l (r := AV.b false) rfl rfl rfl (LOp.move rfl rfl) ?_
          refine ROps.l (r := AV.i64 v4) rfl rfl rfl (LOp.move rfl rfl) ?_
          refine ROps.l (r := AV.b false) rfl rfl rfl (LOp.eqb (LOp.neq rfl rfl rfl) hc2) ?_
          refine ROps.l (r := AV.b false) rfl rfl rfl (LOp.pick_false rfl rfl rfl) ?_
          refine ROps.nil ?_
          refine RunC.cond_false rfl rfl ?_
          refine RunC.exit ?_
          cases Option.some.inj h9_
          have hx := ho9 _ rfl
          exact ⟨l3, u1, u2, (Le.of ⟨(ALe.refl _), (ALe.refl _), trivial⟩ ⟨⟨rfl, .inl rfl⟩, ⟨rfl, .inl rfl⟩, trivial⟩), hx⟩
    · rintro τ10 Γ10 ⟨hw10, h9_⟩
      refine RunC.le (τ' := [(0, AV.i64 a0), (3, AV.sl l3.length (l3.map (AV.ik .u8))), (4, AV.i64 v4)]) (Γ' := [⟨u1, none⟩, ⟨u2, none⟩]) hw10 ?_
      unfold s_l01Dec_k5 at h9_
      refine RunC.block ?_
      refine RunC.seq ?_
      obtain ⟨hz3, h9_⟩ := need_some h9_
      obtain ⟨x5, hx4, h9_⟩ := olet_some h9_
      refine RunC.regionW ?_
      refine ROps.l (r := AV.i64 v4) rfl rfl rfl (LOp.move rfl rfl) ?_
      refine ROps.l (r := AV.i64 x5) rfl rfl rfl (LOp.eqr (LOp.rem rfl rfl rfl (nz hz3)) (congrArg (AV.ik .i64) hx4)) ?_
      refine ROps.l (r := AV.i64 x5) rfl rfl rfl (LOp.assign rfl rfl) ?_
      refine ROps.nil ?_
      refine RunC.seq ?_
      refine RunC.cutN (fun τ Γ => ∃ (v7 : Int), Le 73 τ Γ [(0, AV.i64 a0), (3, AV.sl l3.length (l3.map (AV.ik .u8))), (4, AV.i64 v4), (5, AV.i64 v7)] [⟨u1, none⟩, ⟨u2, none⟩] ∧ s_l01Dec_k6 l3 v4 v7 = some y9_) ?_ ?_
      · refine RunC.seq ?_
        rcases bsel_some h9_ with ⟨hc5, h9_⟩ | ⟨hc5, h9_⟩
        · refine RunC.regionW ?_
          refine ROps.l (r := AV.i64 x5) rfl rfl rfl (LOp.move rfl rfl) ?_
          refine ROps.l (r := AV.b true) rfl rfl rfl (LOp.eqb (LOp.lss rfl rfl rfl) hc5) ?_
          refine ROps.nil ?_
          refine RunC.cond_true rfl rfl ?_
          obtain ⟨x6, hx6, h9_⟩ := olet_some h9_
          refine RunC.regionW ?_
          refine ROps.l (r := AV.i64 x5) rfl rfl rfl (LOp.move rfl rfl) ?_
          refine ROps.l (r := AV.i64 x6) rfl rfl rfl (LOp.eqr (LOp.neg_int rfl rfl) (congrArg (AV.ik .i64) hx6)) ?_
          refine ROps.l (r := AV.i64 x6) rfl rfl rfl (LOp.assign rfl rfl) ?_
          refine ROps.nil ?_
          exact ⟨x6, (Le.of ⟨(ALe.refl _), (ALe.refl _), (ALe.refl _), (ALe.refl _), trivial⟩ ⟨⟨rfl, .inl rfl⟩, ⟨rfl, .inl rfl⟩, trivial⟩), h9_⟩
        · refine RunC.regionW ?_
          refine ROps.l (r := AV.i64 x5) rfl rfl rfl (LOp.move rfl rfl) ?_
          refine ROps.l (r := AV.b false) rfl rfl rfl (LOp.eqb (LOp.lss rfl rfl rfl) hc5) ?_
          refine ROps.nil ?_
          refine RunC.cond_false rfl rfl ?_
          refine RunC.skip ?_
          exact ⟨x5, (Le.of ⟨(ALe.refl _), (ALe.refl _), (ALe.refl _), (ALe.refl _), trivial⟩ ⟨⟨rfl, .inl rfl⟩, ⟨rfl, .inl rfl⟩, trivial⟩), h9_⟩
      · rintro τ11 Γ11 ⟨v7, hw11, h9_⟩
        refine RunC.le (τ' := [(0, AV.i64 a0), (3, AV.sl l3.length (l3.map (AV.ik .u8))), (4, AV.i64 v4), (5, AV.i64 v7)]) (Γ' := [⟨u1, none⟩, ⟨u2, none⟩]) hw11 ?_
        unfold s_l01Dec_k6 at h9_
        refine RunC.seq ?_
        obtain ⟨x8, hx7, h9_⟩ := olet_some h9_
        obtain ⟨x9, hx8, h9_⟩ := olet_some h9_
        obtain ⟨hm9, h9_⟩ := need_some h9_
        refine RunC.regionW ?_
        refine ROps.l (r := AV.i64 v7) rfl rfl rfl (LOp.move rfl rfl) ?_
        refine ROps.l (r := AV.i64 x8) rfl rfl rfl (LOp.eqr (LOp.add rfl rfl rfl) (congrArg (AV.ik .i64) hx7)) ?_
        refine ROps.l (r := AV.ik .u8 x9) rfl rfl rfl (LOp.eqr (LOp.i2i (src := 2) (dst := 5) ⟨_, pun2⟩ pun5 rfl rfl) (congrArg (AV.ik .u8) hx8)) ?_
        refine ROps.d (r := AV.oref 0 (u1 + 1) 0 1) (fs := [(0, (([x9] : List Int).map (AV.ik .u8)))]) (Γ' := [⟨(u1 + 1), some (([x9] : List Int).map (AV.ik .u8))⟩, ⟨u2, none⟩]) rfl rfl rfl (TOp.buildSlice_o (g := ⟨u1, none⟩) (za := AV.ik .u8 0) (qs := [(0, [AV.ik .u8 x9])]) 0 rfl und31 siz5 zer5 rfl zel5 rfl rfl ⟨rfl, ⟨_, ALe.refl _, rfl⟩, trivial⟩ rfl) rfl ?_
        refine ROps.l (r := AV.sl l3.length (l3.map (AV.ik .u8))) rfl rfl rfl (LOp.move rfl rfl) ?_
        refine ROps.app (f := (AV.ik .u8)) (xs := ([x9] : List Int)) (ys := l3) (Γ' := [⟨(u1 + 2), some ((([x9] : List Int) ++ l3).map (AV.ik .u8))⟩, ⟨u2, none⟩]) rfl pun31 inf5 rfl rfl rfl rfl rfl rfl rfl rfl rfl (by simp) (ReadAs.sl (by simp)) (ones_map (fun _ => rfl)) (ap_by hm9) (ap_mx hm9) rfl ?_
        refine ROps.l (r := AV.oref 0 (u1 + 2) 0 (1 + l3.length)) rfl rfl rfl (LOp.assign rfl rfl) ?_
        refine ROps.nil ?_
        obtain ⟨hz10, h9_⟩ := need_some h9_
        obtain ⟨x10, hx11, h9_⟩ := olet_some h9_
        refine RunC.regionW ?_
        refine ROps.l (r := AV.i64 v4) rfl rfl rfl (LOp.move rfl rfl) ?_
        refine ROps.l (r := AV.i64 x10) rfl rfl rfl (LOp.eqr (LOp.quo rfl rfl rfl (nz hz10)) (congrArg (AV.ik .i64) hx11)) ?_
        refine ROps.l (r := AV.i64 x10) rfl rfl rfl (LOp.assign rfl rfl) ?_
        refine ROps.nil ?_
        cases Option.some.inj h9_
        exact ⟨_, rfl, (u1 + 2), u2, (Le.trans (Le.settle 0 [(0, AV.i64 a0), (3, AV.sl (([x9] : List Int) ++ l3).length ((([x9] : List Int) ++ l3).map (AV.ik .u8))), (4, AV.i64 x10)] rfl rfl rfl ⟨.inl rfl, .inr (Bor.own (f := (AV.ik .u8)) (fun _ => rfl) rfl (show (([x9] : List Int) ++ l3).length = (1 + l3.length) from (app_len rfl rfl))), .inl rfl, trivial⟩) (Le.of ⟨(ALe.refl _), (ALe.refl _), (ALe.refl _), trivial⟩ ⟨⟨rfl, .inl rfl⟩, ⟨rfl, .inl rfl⟩, trivial⟩))⟩
  · rintro τ12 Γ12 ⟨l13, u11, u12, hw12, rfl⟩
    refine RunC.le (τ' := [(0, AV.i64 a0), (3, AV.sl l13.length (l13.map (AV.ik .u8)))]) (Γ' := [⟨u11, none⟩, ⟨u12, none⟩]) hw12 ?_
    replace h : s_l01Dec_k7 a0 l13 = some q0 := h
    unfold s_l01Dec_k7 at h
    refine RunC.seq ?_
    refine RunC.cutN (fun τ Γ => ∃ (l15 : List Int) (u14 : Nat), Le 73 τ Γ [(3, AV.sl l15.length (l15.map (AV.ik .u8)))] [⟨u14, none⟩, ⟨u12, none⟩] ∧ s_l01Dec_k8 l15 = some q0) ?_ ?_
    · refine RunC.seq ?_
      rcases bsel_some h with ⟨hc12, h⟩ | ⟨hc12, h⟩
      · refine RunC.regionW ?_
        refine ROps.l (r := AV.i64 a0) rfl rfl rfl (LOp.move rfl rfl) ?_
        refine ROps.l (r := AV.b true) rfl rfl rfl (LOp.eqb (LOp.lss rfl rfl rfl) hc12) ?_
        refine ROps.nil ?_
        refine RunC.cond_true rfl rfl ?_
        obtain ⟨hm13, h⟩ := need_some h
        refine RunC.regionW ?_
        refine ROps.d (r := AV.oref 0 (u11 + 1) 0 1) (fs := [(0, (([45] : List Int).map (AV.ik .u8)))]) (Γ' := [⟨(u11 + 1), some (([45] : List Int).map (AV.ik .u8))⟩, ⟨u12, none⟩]) rfl rfl rfl (TOp.buildSlice_o (g := ⟨u11, none⟩) (za := AV.ik .u8 0) (qs := [(0, [AV.ik .u8 45])]) 0 rfl und31 siz5 zer5 rfl zel5 rfl rfl ⟨rfl, ⟨_, ALe.refl _, rfl⟩, trivial⟩ rfl) rfl ?_
        refine ROps.l (r := AV.sl l13.length (l13.map (AV.ik .u8))) rfl rfl rfl (LOp.move rfl rfl) ?_
        refine ROps.app (f := (AV.ik .u8)) (xs := ([45] : List Int)) (ys := l13) (Γ' := [⟨(u11 + 2), some ((([45] : List Int) ++ l13).map (AV.ik .u8))⟩, ⟨u12, none⟩]) rfl pun31 inf5 rfl rfl rfl rfl rfl rfl rfl rfl rfl (by simp) (ReadAs.sl (by simp)) (ones_map (fun _ => rfl)) (ap_by hm13) (ap_mx hm13) rfl ?_
        refine ROps.l (r := AV.oref 0 (u11 + 2) 0 (1 + l13.length)) rfl rfl rfl (LOp.assign rfl rfl) ?_
        refine ROps.nil ?_
        exact ⟨(([45] : List Int) ++ l13), (u11 + 2), (Le.trans (Le.settle 0 [(3, AV.sl (([45] : List Int) ++ l13).length ((([45] : List Int) ++ l13).map (AV.ik .u8)))] rfl rfl rfl ⟨.inr (Bor.own (f := (AV.ik .u8)) (fun _ => rfl) rfl (show (([45] : List Int) ++ l13).length = (1 + l13.length) from (app_len rfl rfl))), trivial⟩) (Le.of ⟨(ALe.refl _), trivial⟩ ⟨⟨rfl, .inl rfl⟩, ⟨rfl, .inl rfl⟩, trivial⟩)), h⟩
      · refine RunC.regionW ?_
        refine ROps.l (r := AV.i64 a0) rfl rfl rfl (LOp.move rfl rfl) ?_
        refine ROps.l (r := AV.b false) rfl rfl rfl (LOp.eqb (LOp.lss rfl rfl rfl) hc12) ?_
        refine ROps.nil ?_
        refine RunC.cond_false rfl rfl ?_
        refine RunC.skip ?_
        exact ⟨l13, u11, (Le.of ⟨(ALe.refl _), trivial⟩ ⟨⟨rfl, .inl rfl⟩, ⟨rfl, .inl rfl⟩, trivial⟩), h⟩
    · rintro τ13 Γ13 ⟨l15, u14, hw13, h⟩
      refine RunC.le (τ' := [(3, AV.sl l15.length (l15.map (AV.ik .u8)))]) (Γ' := [⟨u14, none⟩, ⟨u12, none⟩]) hw13 ?_
      unfold s_l01Dec_k8 at h
      refine RunC.seq ?_
      refine RunC.regionW ?_
      refine ROps.l (r := AV.sl l15.length (l15.map (AV.ik .u8))) rfl rfl rfl (LOp.move rfl rfl) ?_
      refine ROps.d (r := AV.str (strOfNums l15)) (fs := []) (Γ' := [⟨u14, none⟩, ⟨u12, none⟩]) rfl rfl rfl (TOp.b2s (xs := l15) pun31 pun5 pun9 rfl (fun _ _ => ReadAs.sl (by simp))) rfl ?_
      refine ROps.l (r := AV.str (strOfNums l15)) rfl rfl rfl (LOp.assign rfl rfl) ?_
      refine ROps.nil ?_
      refine RunC.ret ?_
      have hq := Option.some.inj h
      subst q0
      exact bodyQ.pure (.inr rfl) rfl (Res.one rfl (RV.tmp rfl))
noncomputable def s_l08Journal_b1 (a0 : List ByteArray) (s1 : ByteArray) (v2 : Int) (v3 : Int) : Option (LR (ByteArray × Int × Int) (ByteArray) (ByteArray)) :=
  bsel (decide (v3 < (a0.length : Int))) (
    obind (at? a0 v3) fun (e4 : ByteArray) =>
    obind (s_l01Check v2 e4) fun (r5 : Int) =>
    obind (s_l01Dec r5) fun (r6 : ByteArray) =>
    obind (cats? r6 lit_592437da) fun (t7 : ByteArray) =>
    obind (at? a0 v3) fun (e8 : ByteArray) =>
    obind (cats? t7 e8) fun (t9 : ByteArray) =>
    obind (cats? t9 lit_e4a5378b) fun (t10 : ByteArray) =>
    obind (cats? s1 t10) fun (t11 : ByteArray) =>
    olet (IntKind.i64.wrap (v3 + 1)) fun (x12 : Int) =>
    some (LR.next (t11, r5, x12))) (
    some (LR.out s1))
noncomputable def s_l08Journal_s1 (a0 : List ByteArray) : (ByteArray × Int × Int) → Option (LR (ByteArray × Int × Int) (ByteArray) (ByteArray)) := fun s => s_l08Journal_b1 a0 s.1 s.2.1 s.2.2
noncomputable def s_l08Journal_k1 (s13 : ByteArray) : Option (ByteArray) :=
  some s13
noncomputable def s_l08Journal (a0 : List ByteArray) : Option (ByteArray) :=
  obind (loopM (s_l08Journal_s1 a0) (lit_99ba06bc, 0, 0)) fun z => osum z (fun e => s_l08Journal_k1 e) (fun r => some r)
theorem s_l08Journal_ok (a0 : List ByteArray) (q0 : ByteArray) (h : s_l08Journal a0 = some q0) : Ev Tryd.prog 9 [AV.sl a0.length (a0.map AV.str)] [] (AV.str q0) [] := by
  refine Ev.start Tryd.func9 rfl rfl 0 (τ := [(0, AV.sl a0.length (a0.map AV.str))]) rfl (Γ' := []) rfl (n := 61) rfl (g := 0) rfl (fun _ => rfl) ?_
  unfold s_l08Journal at h
  refine RunC.seq ?_
  refine RunC.regionW ?_
  refine ROps.l (r := AV.str lit_99ba06bc) rfl rfl rfl (LOp.assign rfl rfl) ?_
  refine ROps.nil ?_
  refine RunC.seq ?_
  refine RunC.regionW ?_
  refine ROps.l (r := AV.str lit_99ba06bc) rfl rfl rfl (LOp.assign rfl rfl) ?_
  refine ROps.nil ?_
  refine RunC.seq ?_
  refine RunC.regionW ?_
  refine ROps.l (r := AV.i64 0) rfl rfl rfl (LOp.assign rfl rfl) ?_
  refine ROps.nil ?_
  refine RunC.seq ?_
  refine RunC.seq ?_
  refine RunC.regionW ?_
  refine ROps.l (r := AV.i64 0) rfl rfl rfl (LOp.assign rfl rfl) ?_
  refine ROps.nil ?_
  obtain ⟨z2, hz_2, h⟩ := obind_some h
  refine RunC.cutN (fun τ Γ => ∃ (s13 : ByteArray), WeakLe τ [(3, AV.str s13)] ∧ DeadLe Γ [] ∧ z2 = .inl s13) ?_ ?_
  · refine RunC.block (RunC.loop (RunL.loopM (x := z2) (s_l08Journal_s1 a0) (fun (s : ByteArray × Int × Int) τ Γ => WeakLe τ [(0, AV.sl a0.length (a0.map AV.str)), (3, AV.str s.1), (4, AV.i64 s.2.1), (5, AV.i64 s.2.2)] ∧ DeadLe Γ []) ?_ _ _ _ hz_2 ⟨⟨(ALe.refl _), (ALe.refl _), (ALe.refl _), (ALe.refl _), trivial⟩, trivial⟩))
    rintro ⟨s1, v2, v3⟩ τ2 Γ2 y2_ ⟨hw2, hd2⟩ h2_ ho2 hr2
    refine RunC.wl (τ' := [(0, AV.sl a0.length (a0.map AV.str)), (3, AV.str s1), (4, AV.i64 v2), (5, AV.i64 v3)]) (Γ' := []) hw2 hd2 ?_
    replace h2_ : s_l08Journal_b1 a0 s1 v2 v3 = some y2_ := h2_
    unfold s_l08Journal_b1 at h2_
    refine RunC.seq ?_
    refine RunC.seq ?_
    rcases bsel_some h2_ with ⟨hc1, h2_⟩ | ⟨hc1, h2_⟩
    · refine RunC.regionW ?_
      refine ROps.l (r := AV.i64 v3) rfl rfl rfl (LOp.move rfl rfl) ?_
      refine ROps.l (r := AV.sl a0.length (a0.map AV.str)) rfl rfl rfl (LOp.move rfl rfl) ?_
      refine ROps.l (r := AV.i64 (a0.length : Int)) rfl rfl rfl (LOp.len_sl und22 rfl rfl) ?_
      refine ROps.l (r := AV.b true) rfl rfl rfl (LOp.eqb (LOp.lss rfl rfl rfl) hc1) ?_
      refine ROps.nil ?_
      refine RunC.cond_true rfl rfl ?_
      refine RunC.skip ?_
      refine RunC.seq ?_
      refine RunC.block ?_
      refine RunC.seq ?_
      obtain ⟨e4, he2, h2_⟩ := obind_some h2_
      obtain ⟨r5, hf3, h2_⟩ := obind_some h2_
      refine RunC.regionW ?_
      refine ROps.l (r := AV.i64 v2) rfl rfl rfl (LOp.move rfl rfl) ?_
      refine ROps.l (r := AV.sl a0.length (a0.map AV.str)) rfl rfl rfl (LOp.move rfl rfl) ?_
      refine ROps.l (r := AV.i64 v3) rfl rfl rfl (LOp.move rfl rfl) ?_
      refine ROps.l (r := AV.ptr [AV.str e4]) rfl rfl rfl (LOp.le (LOp.ix (f := AV.str) und22 siz9 rfl rfl rfl rfl he2) ALe.ptr) ?_
      refine ROps.l (r := AV.str e4) rfl rfl rfl (LOp.load1 agg9 rfl rfl) ?_
      refine ROps.d (r := AV.i64 r5) (fs := []) (Γ' := []) rfl rfl rfl (TOp.callB (CallAs.func ent16 rfl rfl) (Bors.cons (Bor.pure rfl) (Bors.cons (Bor.pure rfl) Bors.nil)) rfl rfl (s_l01Check_ok v2 e4 r5 hf3)) rfl ?_
      refine ROps.l (r := AV.i64 r5) rfl rfl rfl (LOp.assign rfl rfl) ?_
      refine ROps.nil ?_
      obtain ⟨r6, hf4, h2_⟩ := obind_some h2_
      obtain ⟨t7, hs5, h2_⟩ := obind_some h2_
      obtain ⟨e8, he6, h2_⟩ := obind_some h2_
      obtain ⟨t9, hs7, h2_⟩ := obind_some h2_
      obtain ⟨t10, hs8, h2_⟩ := obind_some h2_
      obtain ⟨t11, hs9, h2_⟩ := obind_some h2_
      refine RunC.region_draw (Γ' := []) 12 mixed 
        (TR.l (r := AV.str s1) rfl rfl (LOp.move rfl rfl) <|
        (TR.l (r := AV.i64 r5) rfl rfl (LOp.move rfl rfl) <|
        (TR.d (r := AV.str r6) (fs := []) rfl rfl (TOp.callB (CallAs.func ent17 rfl rfl) (Bors.cons (Bor.pure rfl) Bors.nil) rfl rfl (s_l01Dec_ok r5 r6 hf4)) <|
        (TR.l (r := AV.str t7) rfl rfl (LOp.cats rfl rfl rfl hs5) <|
        (TR.l (r := AV.sl a0.length (a0.map AV.str)) rfl rfl (LOp.move rfl rfl) <|
        (TR.l (r := AV.i64 v3) rfl rfl (LOp.move rfl rfl) <|
        (TR.l (r := AV.ptr [AV.str e8]) rfl rfl (LOp.le (LOp.ix (f := AV.str) und22 siz9 rfl rfl rfl rfl he6) ALe.ptr) <|
        (TR.l (r := AV.str e8) rfl rfl (LOp.load1 agg9 rfl rfl) <|
        (TR.l (r := AV.str t9) rfl rfl (LOp.cats rfl rfl rfl hs7) <|
        (TR.l (r := AV.str t10) rfl rfl (LOp.cats rfl rfl rfl hs8) <|
        (TR.l (r := AV.str t11) rfl rfl (LOp.cats rfl rfl rfl hs9) <|
        (TR.l (r := AV.str t11) rfl rfl (LOp.assign rfl rfl) <|
        TR.nil)))))))))))) rfl (by kernel_rfl) rfl fills_nil rfl ?_
      iterate 12 refine ROps.dropS ?_
      refine ROps.drop0 ?_
      refine ROps.nil ?_
      refine RunC.wl (τ' := [(0, AV.sl a0.length (a0.map AV.str)), (3, AV.str t11), (4, AV.i64 r5), (5, AV.i64 v3)]) (Γ' := []) ⟨(ALe.refl _), (ALe.refl _), (ALe.refl _), (ALe.refl _), trivial⟩ trivial ?_
      obtain ⟨x12, hx10, h2_⟩ := olet_some h2_
      refine RunC.regionW ?_
      refine ROps.l (r := AV.i64 v3) rfl rfl rfl (LOp.move rfl rfl) ?_
      refine ROps.l (r := AV.i64 x12) rfl rfl rfl (LOp.eqr (LOp.add rfl rfl rfl) (congrArg (AV.ik .i64) hx10)) ?_
      refine ROps.l (r := AV.i64 x12) rfl rfl rfl (LOp.assign rfl rfl) ?_
      refine ROps.nil ?_
      cases Option.some.inj h2_
      exact ⟨_, rfl, ⟨(ALe.refl _), (ALe.refl _), (ALe.refl _), (ALe.refl _), trivial⟩, trivial⟩
    · refine RunC.regionW ?_
      refine ROps.l (r := AV.i64 v3) rfl rfl rfl (LOp.move rfl rfl) ?_
      refine ROps.l (r := AV.sl a0.length (a0.map AV.str)) rfl rfl rfl (LOp.move rfl rfl) ?_
      refine ROps.l (r := AV.i64 (a0.length : Int)) rfl rfl rfl (LOp.len_sl und22 rfl rfl) ?_
      refine ROps.l (r := AV.b false) rfl rfl rfl (LOp.eqb (LOp.lss rfl rfl rfl) hc1) ?_
      refine ROps.nil ?_
      refine RunC.cond_false rfl rfl ?_
      refine RunC.exit ?_
      cases Option.some.inj h2_
      have hx := ho2 _ rfl
      exact ⟨s1, ⟨(ALe.refl _), trivial⟩, trivial, hx⟩
  · rintro τ3 Γ3 ⟨s13, hw3, hd3, rfl⟩
    refine RunC.wl (τ' := [(3, AV.str s13)]) (Γ' := []) hw3 hd3 ?_
    replace h : s_l08Journal_k1 s13 = some q0 := h
    unfold s_l08Journal_k1 at h
    refine RunC.seq ?_
    refine RunC.regionW ?_
    refine ROps.l (r := AV.str s13) rfl rfl rfl (LOp.move rfl rfl) ?_
    refine ROps.l (r := AV.str s13) rfl rfl rfl (LOp.assign rfl rfl) ?_
    refine ROps.nil ?_
    refine RunC.ret ?_
    have hq := Option.some.inj h
    subst q0
    exact bodyQ.pure (.inr rfl) rfl (Res.one rfl (RV.tmp rfl))
noncomputable def s_JournalOf_b2 (a0 : List ByteArray) (v2 : Int) (v6 : Int) : Option (LR (Int) (Unit) (ByteArray × Bool)) :=
  obind (at? a0 v2) fun (e7 : ByteArray) =>
  bsel (decide (v6 < (e7.size : Int))) (
    obind (at? a0 v2) fun (e8 : ByteArray) =>
    obind (sat? e8 v6) fun (e9 : Int) =>
    bsel (decide (e9 = 10)) (
      some (LR.ret (lit_99ba06bc, false))) (
      olet (IntKind.i64.wrap (v6 + 1)) fun (x10 : Int) =>
      some (LR.next x10))) (
    some (LR.out ()))
noncomputable def s_JournalOf_s2 (a0 : List ByteArray) (v2 : Int) : (Int) → Option (LR (Int) (Unit) (ByteArray × Bool)) := fun s => s_JournalOf_b2 a0 v2 s
noncomputable def s_JournalOf_k2 (v2 : Int) (x5 : Int) : Option (LR (Int × Int) (Unit) (ByteArray × Bool)) :=
  olet (IntKind.i64.wrap (v2 + 1)) fun (x11 : Int) =>
  some (LR.next (x5, x11))
noncomputable def s_JournalOf_b3 (a0 : List ByteArray) (v1 : Int) (v2 : Int) : Option (LR (Int × Int) (Unit) (ByteArray × Bool)) :=
  bsel (decide (v2 < (a0.length : Int))) (
    obind (at? a0 v2) fun (e3 : ByteArray) =>
    olet (IntKind.i64.wrap ((e3.size : Int) + 3)) fun (x4 : Int) =>
    olet (IntKind.i64.wrap (v1 + x4)) fun (x5 : Int) =>
    bsel (decide (16000 < x5)) (
      some (LR.ret (lit_99ba06bc, false))) (
      obind (loopM (s_JournalOf_s2 a0 v2) 0) fun z => osum z (fun e => s_JournalOf_k2 v2 x5) (fun r => some (LR.ret r)))) (
    some (LR.out ()))
noncomputable def s_JournalOf_s3 (a0 : List ByteArray) : (Int × Int) → Option (LR (Int × Int) (Unit) (ByteArray × Bool)) := fun s => s_JournalOf_b3 a0 s.1 s.2
noncomputable def s_JournalOf_k3 (a0 : List ByteArray) : Option (ByteArray × Bool) :=
  obind (s_l08Journal a0) fun (r12 : ByteArray) =>
  bsel (decide (16000 < (r12.size : Int))) (
    some (lit_99ba06bc, false)) (
    some (r12, true))
noncomputable def s_JournalOf (a0 : List ByteArray) : Option (ByteArray × Bool) :=
  obind (loopM (s_JournalOf_s3 a0) (0, 0)) fun z => osum z (fun e => s_JournalOf_k3 a0) (fun r => some r)
theorem s_JournalOf_ok (a0 : List ByteArray) (q0 : ByteArray) (q1 : Bool) (h : s_JournalOf a0 = some (q0, q1)) : Ev Tryd.prog 5 [AV.sl a0.length (a0.map AV.str)] [] (AV.tup [AV.str q0, AV.b q1]) [] := by
  refine Ev.start Tryd.func5 rfl rfl 0 (τ := [(0, AV.sl a0.length (a0.map AV.str))]) rfl (Γ' := []) rfl (n := 93) rfl (g := 0) rfl (fun _ => rfl) ?_
  unfold s_JournalOf at h
  refine RunC.seq ?_
  refine RunC.regionW ?_
  refine ROps.l (r := AV.str lit_99ba06bc) rfl rfl rfl (LOp.assign rfl rfl) ?_
  refine ROps.l (r := AV.b false) rfl rfl rfl (LOp.assign rfl rfl) ?_
  refine ROps.nil ?_
  refine RunC.seq ?_
  refine RunC.regionW ?_
  refine ROps.l (r := AV.i64 0) rfl rfl rfl (LOp.assign rfl rfl) ?_
  refine ROps.nil ?_
  refine RunC.seq ?_
  refine RunC.seq ?_
  refine RunC.regionW ?_
  refine ROps.l (r := AV.i64 0) rfl rfl rfl (LOp.assign rfl rfl) ?_
  refine ROps.nil ?_
  obtain ⟨z4, hz_4, h⟩ := obind_some h
  refine RunC.cutN (fun τ Γ => WeakLe τ [(0, AV.sl a0.length (a0.map AV.str))] ∧ DeadLe Γ [] ∧ z4 = .inl ()) ?_ ?_
  · refine RunC.block (RunC.loop (RunL.loopM (x := z4) (s_JournalOf_s3 a0) (fun (s : Int × Int) τ Γ => WeakLe τ [(0, AV.sl a0.length (a0.map AV.str)), (4, AV.i64 s.1), (5, AV.i64 s.2)] ∧ DeadLe Γ []) ?_ _ _ _ hz_4 ⟨⟨(ALe.refl _), (ALe.refl _), (ALe.refl _), trivial⟩, trivial⟩))
    rintro ⟨v1, v2⟩ τ4 Γ4 y4_ ⟨hw4, hd4⟩ h4_ ho4 hr4
    refine RunC.wl (τ' := [(0, AV.sl a0.length (a0.map AV.str)), (4, AV.i64 v1), (5, AV.i64 v2)]) (Γ' := []) hw4 hd4 ?_
    replace h4_ : s_JournalOf_b3 a0 v1 v2 = some y4_ := h4_
    unfold s_JournalOf_b3 at h4_
    refine RunC.seq ?_
    refine RunC.seq ?_
    rcases bsel_some h4_ with ⟨hc1, h4_⟩ | ⟨hc1, h4_⟩
    · refine RunC.regionW ?_
      refine ROps.l (r := AV.i64 v2) rfl rfl rfl (LOp.move rfl rfl) ?_
      refine ROps.l (r := AV.sl a0.length (a0.map AV.str)) rfl rfl rfl (LOp.move rfl rfl) ?_
      refine ROps.l (r := AV.i64 (a0.length : Int)) rfl rfl rfl (LOp.len_sl und22 rfl rfl) ?_
      refine ROps.l (r := AV.b true) rfl rfl rfl (LOp.eqb (LOp.lss rfl rfl rfl) hc1) ?_
      refine ROps.nil ?_
      refine RunC.cond_true rfl rfl ?_
      refine RunC.skip ?_
      refine RunC.seq ?_
      refine RunC.block ?_
      refine RunC.seq ?_
      obtain ⟨e3, he2, h4_⟩ := obind_some h4_
      obtain ⟨x4, hx3, h4_⟩ := olet_some h4_
      obtain ⟨x5, hx4, h4_⟩ := olet_some h4_
      refine RunC.regionW ?_
      refine ROps.l (r := AV.i64 v1) rfl rfl rfl (LOp.move rfl rfl) ?_
      refine ROps.l (r := AV.sl a0.length (a0.map AV.str)) rfl rfl rfl (LOp.move rfl rfl) ?_
      refine ROps.l (r := AV.i64 v2) rfl rfl rfl (LOp.move rfl rfl) ?_
      refine ROps.l (r := AV.ptr [AV.str e3]) rfl rfl rfl (LOp.le (LOp.ix (f := AV.str) und22 siz9 rfl rfl rfl rfl he2) ALe.ptr) ?_
      refine ROps.l (r := AV.str e3) rfl rfl rfl (LOp.load1 agg9 rfl rfl) ?_
      refine ROps.l (r := AV.i64 (e3.size : Int)) rfl rfl rfl (LOp.len_str und9 rfl rfl) ?_
      refine ROps.l (r := AV.i64 x4) rfl rfl rfl (LOp.eqr (LOp.add rfl rfl rfl) (congrArg (AV.ik .i64) hx3)) ?_
      refine ROps.l (r := AV.i64 x5) rfl rfl rfl (LOp.eqr (LOp.add rfl rfl rfl) (congrArg (AV.ik .i64) hx4)) ?_
      refine ROps.l (r := AV.i64 x5) rfl rfl rfl (LOp.assign rfl rfl) ?_
      refine ROps.nil ?_
      refine RunC.seq ?_
      refine RunC.seq ?_
      rcases bsel_some h4_ with ⟨hc5, h4_⟩ | ⟨hc5, h4_⟩
      · refine RunC.regionW ?_
        refine ROps.l (r := AV.i64 x5) rfl rfl rfl (LOp.move rfl rfl) ?_
        refine ROps.l (r := AV.b true) rfl rfl rfl (LOp.eqb (LOp.gtr rfl rfl rfl) hc5) ?_
        refine ROps.nil ?_
        refine RunC.wl (τ' := [(0, AV.sl a0.length (a0.map AV.str)), (4, AV.i64 x5), (5, AV.i64 v2), (23, AV.b true)]) (Γ' := []) ⟨(ALe.refl _), (ALe.refl _), (ALe.refl _), (ALe.refl _), trivial⟩ trivial ?_
        refine RunC.cond_true rfl rfl ?_
        refine RunC.seq ?_
        refine RunC.regionW ?_
        refine ROps.l (r := AV.str lit_99ba06bc) rfl rfl rfl (LOp.assign rfl rfl) ?_
        refine ROps.l (r := AV.b false) rfl rfl rfl (LOp.assign rfl rfl) ?_
        refine ROps.nil ?_
        refine RunC.ret ?_
        cases Option.some.inj h4_
        have hx5_ := hr4 _ rfl
        subst hx5_
        have hq := Option.some.inj h
        obtain ⟨hq0, hq⟩ := Prod.mk.inj hq
        subst q0
        subst q1
        exact bodyQ.pure (.inr rfl) rfl (Res.two rfl (RV.tmp rfl) (RV.tmp rfl))
      · refine RunC.regionW ?_
        refine ROps.l (r := AV.i64 x5) rfl rfl rfl (LOp.move rfl rfl) ?_
        refine ROps.l (r := AV.b false) rfl rfl rfl (LOp.eqb (LOp.gtr rfl rfl rfl) hc5) ?_
        refine ROps.nil ?_
        refine RunC.wl (τ' := [(0, AV.sl a0.length (a0.map AV.str)), (4, AV.i64 x5), (5, AV.i64 v2), (23, AV.b false)]) (Γ' := []) ⟨(ALe.refl _), (ALe.refl _), (ALe.refl _), (ALe.refl _), trivial⟩ trivial ?_
        refine RunC.cond_false rfl rfl ?_
        refine RunC.skip ?_
        refine RunC.seq ?_
        refine RunC.regionW ?_
        refine ROps.l (r := AV.i64 0) rfl rfl rfl (LOp.assign rfl rfl) ?_
        refine ROps.nil ?_
        obtain ⟨z6, hz_6, h4_⟩ := obind_some h4_
        refine RunC.cutN (fun τ Γ => WeakLe τ [(0, AV.sl a0.length (a0.map AV.str)), (4, AV.i64 x5), (5, AV.i64 v2)] ∧ DeadLe Γ [] ∧ z6 = .inl ()) ?_ ?_
        · refine RunC.block (RunC.loop (RunL.loopM (x := z6) (s_JournalOf_s2 a0 v2) (fun (s : Int) τ Γ => WeakLe τ [(0, AV.sl a0.length (a0.map AV.str)), (4, AV.i64 x5), (5, AV.i64 v2), (6, AV.i64 s)] ∧ DeadLe Γ []) ?_ _ _ _ hz_6 ⟨⟨(ALe.refl _), (ALe.refl _), (ALe.refl _), (ALe.refl _), trivial⟩, trivial⟩))
          rintro v6 τ6 Γ6 y6_ ⟨hw6, hd6⟩ h6_ ho6 hr6
          refine RunC.wl (τ' := [(0, AV.sl a0.length (a0.map AV.str)), (4, AV.i64 x5), (5, AV.i64 v2), (6, AV.i64 v6)]) (Γ' := []) hw6 hd6 ?_
          replace h6_ : s_JournalOf_b2 a0 v2 v6 = some y6_ := h6_
          unfold s_JournalOf_b2 at h6_
          refine RunC.seq ?_
          refine RunC.seq ?_
          obtain ⟨e7, he6, h6_⟩ := obind_some h6_
          rcases bsel_some h6_ with ⟨hc7, h6_⟩ | ⟨hc7, h6_⟩
          · refine RunC.regionW ?_
            refine ROps.l (r := AV.i64 v6) rfl rfl rfl (LOp.move rfl rfl) ?_
            refine ROps.l (r := AV.sl a0.length (a0.map AV.str)) rfl rfl rfl (LOp.move rfl rfl) ?_
            refine ROps.l (r := AV.i64 v2) rfl rfl rfl (LOp.move rfl rfl) ?_
            refine ROps.l (r := AV.ptr [AV.str e7]) rfl rfl rfl (LOp.le (LOp.ix (f := AV.str) und22 siz9 rfl rfl rfl rfl he6) ALe.ptr) ?_
            refine ROps.l (r := AV.str e7) rfl rfl rfl (LOp.load1 agg9 rfl rfl) ?_
            refine ROps.l (r := AV.i64 (e7.size : Int)) rfl rfl rfl (LOp.len_str und9 rfl rfl) ?_
            refine ROps.l (r := AV.b true) rfl rfl rfl (LOp.eqb (LOp.lss rfl rfl rfl) hc7) ?_
            refine ROps.nil ?_
            refine RunC.cond_true rfl rfl ?_
            refine RunC.skip ?_
            refine RunC.seq ?_
            refine RunC.block ?_
            refine RunC.seq ?_
            obtain ⟨e8, he8, h6_⟩ := obind_some h6_
            obtain ⟨e9, he9, h6_⟩ := obind_some h6_
            rcases bsel_some h6_ with ⟨hc10, h6_⟩ | ⟨hc10, h6_⟩
            · refine RunC.regionW ?_
              refine ROps.l (r := AV.sl a0.length (a0.map AV.str)) rfl rfl rfl (LOp.move rfl rfl) ?_
              refine ROps.l (r := AV.i64 v2) rfl rfl rfl (LOp.move rfl rfl) ?_
              refine ROps.l (r := AV.ptr [AV.str e8]) rfl rfl rfl (LOp.le (LOp.ix (f := AV.str) und22 siz9 rfl rfl rfl rfl he8) ALe.ptr) ?_
              refine ROps.l (r := AV.str e8) rfl rfl rfl (LOp.load1 agg9 rfl rfl) ?_
              refine ROps.l (r := AV.i64 v6) rfl rfl rfl (LOp.move rfl rfl) ?_
              refine ROps.l (r := AV.ik .u8 e9) rfl rfl rfl (LOp.index_str und9 rfl rfl rfl he9) ?_
              refine ROps.l (r := AV.b true) rfl rfl rfl (LOp.eqb (LOp.eql rfl rfl rfl) hc10) ?_
              refine ROps.nil ?_
              refine RunC.wl (τ' := [(0, AV.sl a0.length (a0.map AV.str)), (4, AV.i64 x5), (5, AV.i64 v2), (6, AV.i64 v6), (39, AV.b true)]) (Γ' := []) ⟨(ALe.refl _), (ALe.refl _), (ALe.refl _), (ALe.refl _), (ALe.refl _), trivial⟩ trivial ?_
              refine RunC.cond_true rfl rfl ?_
              refine RunC.seq ?_
              refine RunC.regionW ?_
              refine ROps.l (r := AV.str lit_99ba06bc) rfl rfl rfl (LOp.assign rfl rfl) ?_
              refine ROps.l (r := AV.b false) rfl rfl rfl (LOp.assign rfl rfl) ?_
              refine ROps.nil ?_
              refine RunC.ret ?_
              cases Option.some.inj h6_
              have hx7_ := hr6 _ rfl
              subst hx7_
              cases Option.some.inj h4_
              have hx8_ := hr4 _ rfl
              subst hx8_
              have hq := Option.some.inj h
              obtain ⟨hq0, hq⟩ := Prod.mk.inj hq
              subst q0
              subst q1
              exact bodyQ.pure (.inr rfl) rfl (Res.two rfl (RV.tmp rfl) (RV.tmp rfl))
            · refine RunC.regionW ?_
              refine ROps.l (r := AV.sl a0.length (a0.map AV.str)) rfl rfl rfl (LOp.move rfl rfl) ?_
              refine ROps.l (r := AV.i64 v2) rfl rfl rfl (LOp.move rfl rfl) ?_
              refine ROps.l (r := AV.ptr [AV.str e8]) rfl rfl rfl (LOp.le (LOp.ix (f := AV.str) und22 siz9 rfl rfl rfl rfl he8) ALe.ptr) ?_
              refine ROps.l (r := AV.str e8) rfl rfl rfl (LOp.load1 agg9 rfl rfl) ?_
              refine ROps.l (r := AV.i64 v6) rfl rfl rfl (LOp.move rfl rfl) ?_
              refine ROps.l (r := AV.ik .u8 e9) rfl rfl rfl (LOp.index_str und9 rfl rfl rfl he9) ?_
              refine ROps.l (r := AV.b false) rfl rfl rfl (LOp.eqb (LOp.eql rfl rfl rfl) hc10) ?_
              refine ROps.nil ?_
              refine RunC.wl (τ' := [(0, AV.sl a0.length (a0.map AV.str)), (4, AV.i64 x5), (5, AV.i64 v2), (6, AV.i64 v6), (39, AV.b false)]) (Γ' := []) ⟨(ALe.refl _), (ALe.refl _), (ALe.refl _), (ALe.refl _), (ALe.refl _), trivial⟩ trivial ?_
              refine RunC.cond_false rfl rfl ?_
              refine RunC.skip ?_
              obtain ⟨x10, hx11, h6_⟩ := olet_some h6_
              refine RunC.regionW ?_
              refine ROps.l (r := AV.i64 v6) rfl rfl rfl (LOp.move rfl rfl) ?_
              refine ROps.l (r := AV.i64 x10) rfl rfl rfl (LOp.eqr (LOp.add rfl rfl rfl) (congrArg (AV.ik .i64) hx11)) ?_
              refine ROps.l (r := AV.i64 x10) rfl rfl rfl (LOp.assign rfl rfl) ?_
              refine ROps.nil ?_
              cases Option.some.inj h6_
              exact ⟨_, rfl, ⟨(ALe.refl _), (ALe.refl _), (ALe.refl _), (ALe.refl _), trivial⟩, trivial⟩
          · refine RunC.regionW ?_
            refine ROps.l (r := AV.i64 v6) rfl rfl rfl (LOp.move rfl rfl) ?_
            refine ROps.l (r := AV.sl a0.length (a0.map AV.str)) rfl rfl rfl (LOp.move rfl rfl) ?_
            refine ROps.l (r := AV.i64 v2) rfl rfl rfl (LOp.move rfl rfl) ?_
            refine ROps.l (r := AV.ptr [AV.str e7]) rfl rfl rfl (LOp.le (LOp.ix (f := AV.str) und22 siz9 rfl rfl rfl rfl he6) ALe.ptr) ?_
            refine ROps.l (r := AV.str e7) rfl rfl rfl (LOp.load1 agg9 rfl rfl) ?_
            refine ROps.l (r := AV.i64 (e7.size : Int)) rfl rfl rfl (LOp.len_str und9 rfl rfl) ?_
            refine ROps.l (r := AV.b false) rfl rfl rfl (LOp.eqb (LOp.lss rfl rfl rfl) hc7) ?_
            refine ROps.nil ?_
            refine RunC.cond_false rfl rfl ?_
            refine RunC.exit ?_
            cases Option.some.inj h6_
            have hx := ho6 _ rfl
            exact ⟨⟨(ALe.refl _), (ALe.refl _), (ALe.refl _), trivial⟩, trivial, hx⟩
        · rintro τ9 Γ9 ⟨hw9, hd9, rfl⟩
          refine RunC.wl (τ' := [(0, AV.sl a0.length (a0.map AV.str)), (4, AV.i64 x5), (5, AV.i64 v2)]) (Γ' := []) hw9 hd9 ?_
          replace h4_ : s_JournalOf_k2 v2 x5 = some y4_ := h4_
          unfold s_JournalOf_k2 at h4_
          obtain ⟨x11, hx12, h4_⟩ := olet_some h4_
          refine RunC.regionW ?_
          refine ROps.l (r := AV.i64 v2) rfl rfl rfl (LOp.move rfl rfl) ?_
          refine ROps.l (r := AV.i64 x11) rfl rfl rfl (LOp.eqr (LOp.add rfl rfl rfl) (congrArg (AV.ik .i64) hx12)) ?_
          refine ROps.l (r := AV.i64 x11) rfl rfl rfl (LOp.assign rfl rfl) ?_
          refine ROps.nil ?_
          cases Option.some.inj h4_
          exact ⟨_, rfl, ⟨(ALe.refl _), (ALe.refl _), (ALe.refl _), trivial⟩, trivial⟩
    · refine RunC.regionW ?_
      refine ROps.l (r := AV.i64 v2) rfl rfl rfl (LOp.move rfl rfl) ?_
      refine ROps.l (r := AV.sl a0.length (a0.map AV.str)) rfl rfl rfl (LOp.move rfl rfl) ?_
      refine ROps.l (r := AV.i64 (a0.length : Int)) rfl rfl rfl (LOp.len_sl und22 rfl rfl) ?_
      refine ROps.l (r := AV.b false) rfl rfl rfl (LOp.eqb (LOp.lss rfl rfl rfl) hc1) ?_
      refine ROps.nil ?_
      refine RunC.cond_false rfl rfl ?_
      refine RunC.exit ?_
      cases Option.some.inj h4_
      have hx := ho4 _ rfl
      exact ⟨⟨(ALe.refl _), trivial⟩, trivial, hx⟩
  · rintro τ10 Γ10 ⟨hw10, hd10, rfl⟩
    refine RunC.wl (τ' := [(0, AV.sl a0.length (a0.map AV.str))]) (Γ' := []) hw10 hd10 ?_
    replace h : s_JournalOf_k3 a0 = some (q0, q1) := h
    unfold s_JournalOf_k3 at h
    refine RunC.seq ?_
    obtain ⟨r12, hf13, h⟩ := obind_some h
    refine RunC.regionW ?_
    refine ROps.l (r := AV.sl a0.length (a0.map AV.str)) rfl rfl rfl (LOp.move rfl rfl) ?_
    refine ROps.d (r := AV.str r12) (fs := []) (Γ' := []) rfl rfl rfl (TOp.callB (CallAs.func ent9 rfl rfl) (Bors.cons (Bor.sl (fun _ => rfl)) Bors.nil) rfl rfl (s_l08Journal_ok a0 r12 hf13)) rfl ?_
    refine ROps.l (r := AV.str r12) rfl rfl rfl (LOp.assign rfl rfl) ?_
    refine ROps.nil ?_
    refine RunC.seq ?_
    refine RunC.seq ?_
    rcases bsel_some h with ⟨hc14, h⟩ | ⟨hc14, h⟩
    · refine RunC.regionW ?_
      refine ROps.l (r := AV.str r12) rfl rfl rfl (LOp.move rfl rfl) ?_
      refine ROps.l (r := AV.i64 (r12.size : Int)) rfl rfl rfl (LOp.len_str und9 rfl rfl) ?_
      refine ROps.l (r := AV.b true) rfl rfl rfl (LOp.eqb (LOp.gtr rfl rfl rfl) hc14) ?_
      refine ROps.nil ?_
      refine RunC.cond_true rfl rfl ?_
      refine RunC.seq ?_
      refine RunC.regionW ?_
      refine ROps.l (r := AV.str lit_99ba06bc) rfl rfl rfl (LOp.assign rfl rfl) ?_
      refine ROps.l (r := AV.b false) rfl rfl rfl (LOp.assign rfl rfl) ?_
      refine ROps.nil ?_
      refine RunC.ret ?_
      have hq := Option.some.inj h
      obtain ⟨hq0, hq⟩ := Prod.mk.inj hq
      subst q0
      subst q1
      exact bodyQ.pure (.inr rfl) rfl (Res.two rfl (RV.tmp rfl) (RV.tmp rfl))
    · refine RunC.regionW ?_
      refine ROps.l (r := AV.str r12) rfl rfl rfl (LOp.move rfl rfl) ?_
      refine ROps.l (r := AV.i64 (r12.size : Int)) rfl rfl rfl (LOp.len_str und9 rfl rfl) ?_
      refine ROps.l (r := AV.b false) rfl rfl rfl (LOp.eqb (LOp.gtr rfl rfl rfl) hc14) ?_
      refine ROps.nil ?_
      refine RunC.cond_false rfl rfl ?_
      refine RunC.skip ?_
      refine RunC.seq ?_
      refine RunC.regionW ?_
      refine ROps.l (r := AV.str r12) rfl rfl rfl (LOp.move rfl rfl) ?_
      refine ROps.l (r := AV.str r12) rfl rfl rfl (LOp.assign rfl rfl) ?_
      refine ROps.l (r := AV.b true) rfl rfl rfl (LOp.assign rfl rfl) ?_
      refine ROps.nil ?_
      refine RunC.ret ?_
      have hq := Option.some.inj h
      obtain ⟨hq0, hq⟩ := Prod.mk.inj hq
      subst q0
      subst q1
      exact bodyQ.pure (.inr rfl) rfl (Res.two rfl (RV.tmp rfl) (RV.tmp rfl))
noncomputable def i_checkOf_b1 (a1 : ByteArray) (v1 : Int) (v2 : Int) : Option (LR (Int × Int) (Int) (Int)) :=
  bsel (decide (v2 < (a1.size : Int))) (
    olet (IntKind.i64.wrap (863 * v1)) fun (x3 : Int) =>
    obind (sat? a1 v2) fun (e4 : Int) =>
    olet (IntKind.i64.wrap e4) fun (x5 : Int) =>
    olet (IntKind.i64.wrap (x3 + x5)) fun (x6 : Int) =>
    olet (IntKind.i64.wrap (x6 + 157)) fun (x7 : Int) =>
    need (!decide (65003 = 0)) <|
    olet (x7.tmod 65003) fun (x8 : Int) =>
    olet (IntKind.i64.wrap (v2 + 1)) fun (x9 : Int) =>
    some (LR.next (x8, x9))) (
    some (LR.out v1))
noncomputable def i_checkOf_s1 (a1 : ByteArray) : (Int × Int) → Option (LR (Int × Int) (Int) (Int)) := fun s => i_checkOf_b1 a1 s.1 s.2
noncomputable def i_checkOf_k1 (v10 : Int) : Option (Int) :=
  some v10
noncomputable def i_checkOf (a0 : Int) (a1 : ByteArray) : Option (Int) :=
  obind (loopM (i_checkOf_s1 a1) (a0, 0)) fun z => osum z (fun e => i_checkOf_k1 e) (fun r => some r)
theorem i_checkOf_ok (a0 : Int) (a1 : ByteArray) (q0 : Int) (h : i_checkOf a0 a1 = some q0) : Ev Tryd.prog 10 [AV.i64 a0, AV.str a1] [] (AV.i64 q0) [] := by
  refine Ev.start Tryd.func10 rfl rfl 0 (τ := [(0, AV.i64 a0), (1, AV.str a1)]) rfl (Γ' := []) rfl (n := 45) rfl (g := 0) rfl (fun _ => rfl) ?_
  unfold i_checkOf at h
  refine RunC.seq ?_
  refine RunC.regionW ?_
  refine ROps.l (r := AV.i64 0) rfl rfl rfl (LOp.assign rfl rfl) ?_
  refine ROps.nil ?_
  refine RunC.seq ?_
  refine RunC.seq ?_
  refine RunC.regionW ?_
  refine ROps.l (r := AV.str a1) rfl rfl rfl (LOp.move rfl rfl) ?_
  refine ROps.l (r := AV.i64 (a1.size : Int)) rfl rfl rfl (LOp.len_str und9 rfl rfl) ?_
  refine ROps.l (r := AV.i64 0) rfl rfl rfl (LOp.move rfl rfl) ?_
  refine ROps.nil ?_
  obtain ⟨z2, hz_2, h⟩ := obind_some h
  refine RunC.cutN (fun τ Γ => ∃ (v10 : Int), WeakLe τ [(0, AV.i64 v10)] ∧ DeadLe Γ [] ∧ z2 = .inl v10) ?_ ?_
  · refine RunC.block (RunC.loop (RunL.loopM (x := z2) (i_checkOf_s1 a1) (fun (s : Int × Int) τ Γ => WeakLe τ [(0, AV.i64 s.1), (1, AV.str a1), (7, AV.i64 (a1.size : Int)), (8, AV.i64 s.2)] ∧ DeadLe Γ []) ?_ _ _ _ hz_2 ⟨⟨(ALe.refl _), (ALe.refl _), (ALe.refl _), (ALe.refl _), trivial⟩, trivial⟩))
    rintro ⟨v1, v2⟩ τ2 Γ2 y2_ ⟨hw2, hd2⟩ h2_ ho2 hr2
    refine RunC.wl (τ' := [(0, AV.i64 v1), (1, AV.str a1), (7, AV.i64 (a1.size : Int)), (8, AV.i64 v2)]) (Γ' := []) hw2 hd2 ?_
    replace h2_ : i_checkOf_b1 a1 v1 v2 = some y2_ := h2_
    unfold i_checkOf_b1 at h2_
    refine RunC.seq ?_
    rcases bsel_some h2_ with ⟨hc1, h2_⟩ | ⟨hc1, h2_⟩
    · refine RunC.regionW ?_
      refine ROps.l (r := AV.b true) rfl rfl rfl (LOp.eqb (LOp.lss rfl rfl rfl) hc1) ?_
      refine ROps.nil ?_
      refine RunC.seq ?_
      refine RunC.cond_true rfl rfl ?_
      refine RunC.skip ?_
      refine RunC.seq ?_
      refine RunC.block ?_
      refine RunC.seq ?_
      refine RunC.regionW ?_
      refine ROps.l (r := AV.i64 v2) rfl rfl rfl (LOp.move rfl rfl) ?_
      refine ROps.l (r := AV.i64 v2) rfl rfl rfl (LOp.assign rfl rfl) ?_
      refine ROps.nil ?_
      obtain ⟨x3, hx2, h2_⟩ := olet_some h2_
      obtain ⟨e4, he3, h2_⟩ := obind_some h2_
      obtain ⟨x5, hx4, h2_⟩ := olet_some h2_
      obtain ⟨x6, hx5, h2_⟩ := olet_some h2_
      obtain ⟨x7, hx6, h2_⟩ := olet_some h2_
      obtain ⟨hz7, h2_⟩ := need_some h2_
      obtain ⟨x8, hx8, h2_⟩ := olet_some h2_
      refine RunC.regionW ?_
      refine ROps.l (r := AV.i64 v1) rfl rfl rfl (LOp.move rfl rfl) ?_
      refine ROps.l (r := AV.i64 x3) rfl rfl rfl (LOp.eqr (LOp.mul rfl rfl rfl) (congrArg (AV.ik .i64) hx2)) ?_
      refine ROps.l (r := AV.str a1) rfl rfl rfl (LOp.move rfl rfl) ?_
      refine ROps.l (r := AV.i64 v2) rfl rfl rfl (LOp.move rfl rfl) ?_
      refine ROps.l (r := AV.ik .u8 e4) rfl rfl rfl (LOp.index_str und9 rfl rfl rfl he3) ?_
      refine ROps.l (r := AV.i64 x5) rfl rfl rfl (LOp.eqr (LOp.i2i (src := 5) (dst := 2) ⟨_, pun5⟩ pun2 rfl rfl) (congrArg (AV.ik .i64) hx4)) ?_
      refine ROps.l (r := AV.i64 x6) rfl rfl rfl (LOp.eqr (LOp.add rfl rfl rfl) (congrArg (AV.ik .i64) hx5)) ?_
      refine ROps.l (r := AV.i64 x7) rfl rfl rfl (LOp.eqr (LOp.add rfl rfl rfl) (congrArg (AV.ik .i64) hx6)) ?_
      refine ROps.l (r := AV.i64 x8) rfl rfl rfl (LOp.eqr (LOp.rem rfl rfl rfl (nz hz7)) (congrArg (AV.ik .i64) hx8)) ?_
      refine ROps.l (r := AV.i64 x8) rfl rfl rfl (LOp.assign rfl rfl) ?_
      refine ROps.nil ?_
      obtain ⟨x9, hx9, h2_⟩ := olet_some h2_
      refine RunC.regionW ?_
      refine ROps.l (r := AV.i64 x9) rfl rfl rfl (LOp.eqr (LOp.add rfl rfl rfl) (congrArg (AV.ik .i64) hx9)) ?_
      refine ROps.l (r := AV.i64 x9) rfl rfl rfl (LOp.move rfl rfl) ?_
      refine ROps.nil ?_
      cases Option.some.inj h2_
      exact ⟨_, rfl, ⟨(ALe.refl _), (ALe.refl _), (ALe.refl _), (ALe.refl _), trivial⟩, trivial⟩
    · refine RunC.regionW ?_
      refine ROps.l (r := AV.b false) rfl rfl rfl (LOp.eqb (LOp.lss rfl rfl rfl) hc1) ?_
      refine ROps.nil ?_
      refine RunC.seq ?_
      refine RunC.cond_false rfl rfl ?_
      refine RunC.exit ?_
      cases Option.some.inj h2_
      have hx := ho2 _ rfl
      exact ⟨v1, ⟨(ALe.refl _), trivial⟩, trivial, hx⟩
  · rintro τ3 Γ3 ⟨v10, hw3, hd3, rfl⟩
    refine RunC.wl (τ' := [(0, AV.i64 v10)]) (Γ' := []) hw3 hd3 ?_
    replace h : i_checkOf_k1 v10 = some q0 := h
    unfold i_checkOf_k1 at h
    refine RunC.seq ?_
    refine RunC.regionW ?_
    refine ROps.l (r := AV.i64 v10) rfl rfl rfl (LOp.move rfl rfl) ?_
    refine ROps.l (r := AV.i64 v10) rfl rfl rfl (LOp.assign rfl rfl) ?_
    refine ROps.nil ?_
    refine RunC.ret ?_
    have hq := Option.some.inj h
    subst q0
    exact bodyQ.pure (.inr rfl) rfl (Res.one rfl (RV.tmp rfl))
noncomputable def x_strconv_FormatInt (a0 a1 : Int) : Option ByteArray :=
  need (decide (a1 = 10)) <|
  need (decide (-9223372036854775808 ≤ a0)) <|
  need (decide (a0 ≤ 9223372036854775807)) <|
  some ⟨(Go.Lib.itoa a0).toArray⟩
def fmt_ren : Go.Shelf.Ren :=
{
  f := fun x =>
    match x with
    | 173 => 19
    | 246 => 22
    | 283 => 24
    | 284 => 25
    | 285 => 26
    | 286 => 27
    | 129 => 33
    | 317 => 32
    | 318 => 34
    | 319 => 35
    | 320 => 36
    | 337 => 39
    | 338 => 40
    | n => n,
  t := fun x =>
    match x with
    | 2 => 2
    | 3 => 3
    | 9 => 9
    | 4 => 4
    | 171 => 49
    | 0 => 0
    | 53 => 50
    | 37 => 31
    | 5 => 5
    | 173 => 53
    | 212 => 59
    | 51 => 60
    | 20 => 20
    | 213 => 61
    | 46 => 57
    | 232 => 67
    | 233 => 68
    | n => n,
  g := fun x =>
    match x with
    | 17 => 1
    | 18 => 2
    | 19 => 3
    | n => n }
theorem fmt_lays : Go.Proofs.LaysM.n173 Tryd.prog fmt_ren :=
  {
    f129 := (Eq.trans Tryd.func33 (congrArg some (by kernel_rfl))),
    f173 := (Eq.trans Tryd.func19 (congrArg some (by kernel_rfl))),
    f246 := (Eq.trans Tryd.func22 (congrArg some (by kernel_rfl))),
    f283 := (Eq.trans Tryd.func24 (congrArg some (by kernel_rfl))),
    f284 := (Eq.trans Tryd.func25 (congrArg some (by kernel_rfl))),
    f285 := (Eq.trans Tryd.func26 (congrArg some (by kernel_rfl))),
    f286 := (Eq.trans Tryd.func27 (congrArg some (by kernel_rfl))),
    f317 := (Eq.trans Tryd.func32 (congrArg some (by kernel_rfl))),
    f318 := (Eq.trans Tryd.func34 (congrArg some (by kernel_rfl))),
    f319 := (Eq.trans Tryd.func35 (congrArg some (by kernel_rfl))),
    f320 := (Eq.trans Tryd.func36 (congrArg some (by kernel_rfl))),
    f337 := (Eq.trans Tryd.func39 (congrArg some (by kernel_rfl))),
    f338 := (Eq.trans Tryd.func40 (congrArg some (by kernel_rfl))),
    t0 := Tryd.underlying0,
    a0 := Tryd.isAgg0,
    z0 := Tryd.sizeOf0,
    v0 := Tryd.zeroValue0,
    t2 := Tryd.underlying2,
    a2 := Tryd.isAgg2,
    z2 := Tryd.sizeOf2,
    v2 := Tryd.zeroValue2,
    t3 := Tryd.underlying3,
    a3 := Tryd.isAgg3,
    z3 := Tryd.sizeOf3,
    v3 := Tryd.zeroValue3,
    t4 := Tryd.underlying4,
    a4 := Tryd.isAgg4,
    z4 := Tryd.sizeOf4,
    v4 := Tryd.zeroValue4,
    t5 := Tryd.underlying5,
    a5 := Tryd.isAgg5,
    z5 := Tryd.sizeOf5,
    v5 := Tryd.zeroValue5,
    t9 := Tryd.underlying9,
    a9 := Tryd.isAgg9,
    z9 := Tryd.sizeOf9,
    v9 := Tryd.zeroValue9,
    t20 := Tryd.underlying20,
    a20 := Tryd.isAgg20,
    z20 := Tryd.sizeOf20,
    v20 := Tryd.zeroValue20,
    t37 := Tryd.underlying31,
    a37 := Tryd.isAgg31,
    z37 := Tryd.sizeOf31,
    v37 := Tryd.zeroValue31,
    t46 := Tryd.underlying57,
    a46 := Tryd.isAgg57,
    z46 := Tryd.sizeOf57,
    v46 := Tryd.zeroValue57,
    t51 := Tryd.underlying60,
    a51 := Tryd.isAgg60,
    z51 := Tryd.sizeOf60,
    v51 := Tryd.zeroValue60,
    t53 := Tryd.underlying50,
    a53 := Tryd.isAgg50,
    z53 := Tryd.sizeOf50,
    v53 := Tryd.zeroValue50,
    t171 := Tryd.underlying49,
    a171 := Tryd.isAgg49,
    z171 := Tryd.sizeOf49,
    v171 := Tryd.zeroValue49,
    t173 := Tryd.underlying53,
    a173 := Tryd.isAgg53,
    z173 := Tryd.sizeOf53,
    v173 := Tryd.zeroValue53,
    t212 := Tryd.underlying59,
    a212 := Tryd.isAgg59,
    z212 := Tryd.sizeOf59,
    v212 := Tryd.zeroValue59,
    t213 := Tryd.underlying61,
    a213 := Tryd.isAgg61,
    z213 := Tryd.sizeOf61,
    t232 := Tryd.underlying67,
    a232 := Tryd.isAgg67,
    z232 := Tryd.sizeOf67,
    v232 := Tryd.zeroValue67,
    t233 := Tryd.underlying68,
    a233 := Tryd.isAgg68,
    z233 := Tryd.sizeOf68,
    v233 := Tryd.zeroValue68,
    mixed := (by kernel_rfl),
    g17 := (by kernel_rfl),
    g18 := (by kernel_rfl),
    g19 := (by kernel_rfl),
    i0 := (by kernel_rfl),
    i2 := (by kernel_rfl),
    i3 := (by kernel_rfl),
    i4 := (by kernel_rfl),
    i5 := (by kernel_rfl),
    i9 := (by kernel_rfl),
    i20 := (by kernel_rfl),
    i37 := (by kernel_rfl),
    i46 := (by kernel_rfl),
    i51 := (by kernel_rfl),
    i53 := (by kernel_rfl),
    i171 := (by kernel_rfl),
    i173 := (by kernel_rfl),
    i212 := (by kernel_rfl),
    i232 := (by kernel_rfl),
    i233 := (by kernel_rfl),
    m17 := (by kernel_rfl),
    m18 := (by kernel_rfl),
    m19 := (by kernel_rfl) }
theorem x_strconv_FormatInt_tab {S : Snap} {w : World} (h : SnapOK S w) : Go.Lib.TabIs Tryd.prog w "internal/strconv.uint64pow10" .u64 Go.Lib.pow10Tab := by
  obtain ⟨T, m, e⟩ := globs_at h (g := 1) (cs := (Go.Lib.pow10Tab.map fun z => Value.int .u64 z).toArray) (by unfold globs; simp)
  unfold Go.Lib.TabIs World.var?
  rw [show Tryd.prog.globalNamed "internal/strconv.uint64pow10" = some 1 by kernel_rfl]
  simp only [Option.bind_some, e]
theorem x_strconv_FormatInt_ok (a0 a1 : Int) (q0 : ByteArray) (h : x_strconv_FormatInt a0 a1 = some q0) : Ev Tryd.prog 19 [AV.i64 a0, AV.i64 a1] [] (AV.str q0) [] := by
  unfold x_strconv_FormatInt at h
  obtain ⟨h1, h⟩ := need_some h
  obtain ⟨h2, h⟩ := need_some h
  obtain ⟨h3, h⟩ := need_some h
  have hq := Option.some.inj h
  subst hq
  have e1 : a1 = 10 := of_decide_eq_true h1
  subst e1
  refine Ev.ofGrow fun S w vs hs ha => ?_
  obtain ⟨vl⟩ := vs
  match vl, ha with
  | [v0, v1], ha =>
    simp only [VL, V] at ha
    obtain ⟨rfl, rfl, _⟩ := ha
    refine (Go.Proofs.Any.strconv_FormatInt_10 fmt_lays a0 (of_decide_eq_true h2) (of_decide_eq_true h3) w (x_strconv_FormatInt_tab hs)).mono ?_
    rintro e w' ⟨rfl, k, os, rfl⟩
    refine ⟨_, rfl, by simp only [V], ?_⟩
    exact ⟨by simp [Go.Sort.grow, World.drewN], fun b hb => by simp [Go.Sort.grow, World.drewN, Array.getElem?_append, hb], rfl, rfl, rfl⟩
  | [], ha => simp only [VL] at ha
  | [_], ha => simp only [VL] at ha; exact ha.2.elim
  | _ :: _ :: _ :: _, ha => simp only [VL] at ha; exact ha.2.2.elim
noncomputable def i_Decimal (a0 : Int) : Option (ByteArray) :=
  obind (x_strconv_FormatInt a0 10) fun (r1 : ByteArray) =>
  some r1
theorem i_Decimal_ok (a0 : Int) (q0 : ByteArray) (h : i_Decimal a0 = some q0) : Ev Tryd.prog 12 [AV.i64 a0] [] (AV.str q0) [] := by
  refine Ev.start Tryd.func12 rfl rfl 0 (τ := [(0, AV.i64 a0)]) rfl (Γ' := []) rfl (n := 11) rfl (g := 0) rfl (fun _ => rfl) ?_
  unfold i_Decimal at h
  refine RunC.seq ?_
  refine RunC.regionW ?_
  refine ROps.l (r := AV.str lit_99ba06bc) rfl rfl rfl (LOp.assign rfl rfl) ?_
  refine ROps.nil ?_
  refine RunC.seq ?_
  obtain ⟨r1, hf1, h⟩ := obind_some h
  refine RunC.regionW ?_
  refine ROps.l (r := AV.i64 a0) rfl rfl rfl (LOp.move rfl rfl) ?_
  refine ROps.d (r := AV.str r1) (fs := []) (Γ' := []) rfl rfl rfl (TOp.callB (CallAs.func ent19 rfl rfl) (Bors.cons (Bor.pure rfl) (Bors.cons (Bor.pure rfl) Bors.nil)) rfl rfl (x_strconv_FormatInt_ok a0 10 r1 hf1)) rfl ?_
  refine ROps.l (r := AV.str r1) rfl rfl rfl (LOp.assign rfl rfl) ?_
  refine ROps.nil ?_
  refine RunC.ret ?_
  have hq := Option.some.inj h
  subst q0
  exact bodyQ.pure (.inr rfl) rfl (Res.one rfl (RV.tmp rfl))
noncomputable def x_internal_stringslite_IndexByte (a0 : ByteArray) (a1 : Int) : Option (Int) :=
  some (idxB a0 a1)
theorem x_internal_stringslite_IndexByte_ok (a0 : ByteArray) (a1 : Int) (q0 : Int) (h : x_internal_stringslite_IndexByte a0 a1 = some q0) : Ev Tryd.prog 28 [AV.str a0, AV.ik .u8 a1] [] (AV.i64 q0) [] := by
  refine Ev.start Tryd.func28 rfl rfl 0 (τ := [(0, AV.str a0), (1, AV.ik .u8 a1)]) rfl (Γ' := []) rfl (n := 17) rfl (g := 0) rfl (fun _ => rfl) ?_
  unfold x_internal_stringslite_IndexByte at h
  refine RunC.seq ?_
  refine RunC.regionW ?_
  refine ROps.l (r := AV.i64 0) rfl rfl rfl (LOp.assign rfl rfl) ?_
  refine ROps.nil ?_
  refine RunC.seq ?_
  refine RunC.regionW ?_
  refine ROps.l (r := AV.str a0) rfl rfl rfl (LOp.move rfl rfl) ?_
  refine ROps.l (r := AV.ik .u8 a1) rfl rfl rfl (LOp.move rfl rfl) ?_
  refine ROps.l (r := AV.i64 (idxB a0 a1)) rfl rfl rfl (LOp.idxB ext37 rfl rfl rfl) ?_
  refine ROps.l (r := AV.i64 (idxB a0 a1)) rfl rfl rfl (LOp.assign rfl rfl) ?_
  refine ROps.nil ?_
  refine RunC.ret ?_
  have hq := Option.some.inj h
  subst q0
  exact bodyQ.pure (.inr rfl) rfl (Res.one rfl (RV.tmp rfl))
noncomputable def x_internal_stringslite_Index (a0 : ByteArray) (a1 : ByteArray) : Option (Int) :=
  bsel (decide ((a1.size : Int) = 0)) (
    some 0) (
    bsel (eqs a1 a0) (
      some 0) (
      bsel (decide ((a1.size : Int) = 1)) (
        obind (sat? a1 0) fun (e1 : Int) =>
        obind (x_internal_stringslite_IndexByte a0 e1) fun (r2 : Int) =>
        some r2) (
        bsel (decide ((a0.size : Int) ≤ (a1.size : Int))) (
          some (-1)) (
          none))))
theorem x_internal_stringslite_Index_ok (a0 : ByteArray) (a1 : ByteArray) (q0 : Int) (h : x_internal_stringslite_Index a0 a1 = some q0) : Ev Tryd.prog 23 [AV.str a0, AV.str a1] [] (AV.i64 q0) [] := by
  refine Ev.start Tryd.func23 rfl rfl 0 (τ := [(0, AV.str a0), (1, AV.str a1)]) rfl (Γ' := []) rfl (n := 287) rfl (g := 0) rfl (fun _ => rfl) ?_
  unfold x_internal_stringslite_Index at h
  refine RunC.seq ?_
  refine RunC.regionW ?_
  refine ROps.l (r := AV.i64 0) rfl rfl rfl (LOp.assign rfl rfl) ?_
  refine ROps.nil ?_
  refine RunC.seq ?_
  refine RunC.regionW ?_
  refine ROps.l (r := AV.str a1) rfl rfl rfl (LOp.move rfl rfl) ?_
  refine ROps.l (r := AV.i64 (a1.size : Int)) rfl rfl rfl (LOp.len_str und9 rfl rfl) ?_
  refine ROps.l (r := AV.i64 (a1.size : Int)) rfl rfl rfl (LOp.assign rfl rfl) ?_
  refine ROps.nil ?_
  refine RunC.seq ?_
  refine RunC.block ?_
  refine RunC.seq ?_
  rcases bsel_some h with ⟨hc1, h⟩ | ⟨hc1, h⟩
  · refine RunC.regionW ?_
    refine ROps.l (r := AV.i64 (a1.size : Int)) rfl rfl rfl (LOp.move rfl rfl) ?_
    refine ROps.l (r := AV.b true) rfl rfl rfl (LOp.eqb (LOp.eql rfl rfl rfl) hc1) ?_
    refine ROps.l (r := AV.b true) rfl rfl rfl (LOp.move rfl rfl) ?_
    refine ROps.s rfl rfl rfl ?_
    refine ROps.s rfl rfl rfl ?_
    refine ROps.s rfl rfl rfl ?_
    refine ROps.l (r := AV.b true) rfl rfl rfl (LOp.pick_true rfl rfl rfl) ?_
    refine ROps.l (r := AV.b true) rfl rfl rfl (LOp.assign rfl rfl) ?_
    refine ROps.nil ?_
    refine RunC.cond_true rfl rfl ?_
    refine RunC.seq ?_
    refine RunC.regionW ?_
    refine ROps.l (r := AV.i64 0) rfl rfl rfl (LOp.assign rfl rfl) ?_
    refine ROps.nil ?_
    refine RunC.ret ?_
    have hq := Option.some.inj h
    subst q0
    exact bodyQ.pure (.inr rfl) rfl (Res.one rfl (RV.tmp rfl))
  · rcases bsel_some h with ⟨hc2, h⟩ | ⟨hc2, h⟩
    · refine RunC.regionW ?_
      refine ROps.l (r := AV.i64 (a1.size : Int)) rfl rfl rfl (LOp.move rfl rfl) ?_
      refine ROps.l (r := AV.b false) rfl rfl rfl (LOp.eqb (LOp.eql rfl rfl rfl) hc1) ?_
      refine ROps.l (r := AV.b false) rfl rfl rfl (LOp.move rfl rfl) ?_
      refine ROps.l (r := AV.str a1) rfl rfl rfl (LOp.move rfl rfl) ?_
      refine ROps.l (r := AV.str a0) rfl rfl rfl (LOp.move rfl rfl) ?_
      refine ROps.l (r := AV.b true) rfl rfl rfl (LOp.eqb (LOp.eqs rfl rfl rfl) hc2) ?_
      refine ROps.l (r := AV.b true) rfl rfl rfl (LOp.pick_false rfl rfl rfl) ?_
      refine ROps.l (r := AV.b true) rfl rfl rfl (LOp.assign rfl rfl) ?_
      refine ROps.nil ?_
      refine RunC.cond_true rfl rfl ?_
      refine RunC.seq ?_
      refine RunC.regionW ?_
      refine ROps.l (r := AV.i64 0) rfl rfl rfl (LOp.assign rfl rfl) ?_
      refine ROps.nil ?_
      refine RunC.ret ?_
      have hq := Option.some.inj h
      subst q0
      exact bodyQ.pure (.inr rfl) rfl (Res.one rfl (RV.tmp rfl))
    · refine RunC.regionW ?_
      refine ROps.l (r := AV.i64 (a1.size : Int)) rfl rfl rfl (LOp.move rfl rfl) ?_
      refine ROps.l (r := AV.b false) rfl rfl rfl (LOp.eqb (LOp.eql rfl rfl rfl) hc1) ?_
      refine ROps.l (r := AV.b false) rfl rfl rfl (LOp.move rfl rfl) ?_
      refine ROps.l (r := AV.str a1) rfl rfl rfl (LOp.move rfl rfl) ?_
      refine ROps.l (r := AV.str a0) rfl rfl rfl (LOp.move rfl rfl) ?_
      refine ROps.l (r := AV.b false) rfl rfl rfl (LOp.eqb (LOp.eqs rfl rfl rfl) hc2) ?_
      refine ROps.l (r := AV.b false) rfl rfl rfl (LOp.pick_false rfl rfl rfl) ?_
      refine ROps.l (r := AV.b false) rfl rfl rfl (LOp.assign rfl rfl) ?_
      refine ROps.nil ?_
      refine RunC.cond_false rfl rfl ?_
      refine RunC.seq ?_
      rcases bsel_some h with ⟨hc3, h⟩ | ⟨hc3, h⟩
      · refine RunC.regionW ?_
        refine ROps.l (r := AV.i64 (a1.size : Int)) rfl rfl rfl (LOp.move rfl rfl) ?_
        refine ROps.l (r := AV.b true) rfl rfl rfl (LOp.eqb (LOp.eql rfl rfl rfl) hc3) ?_
        refine ROps.l (r := AV.b true) rfl rfl rfl (LOp.assign rfl rfl) ?_
        refine ROps.nil ?_
        refine RunC.cond_true rfl rfl ?_
        refine RunC.seq ?_
        obtain ⟨e1, he4, h⟩ := obind_some h
        obtain ⟨r2, hf5, h⟩ := obind_some h
        refine RunC.regionW ?_
        refine ROps.l (r := AV.str a0) rfl rfl rfl (LOp.move rfl rfl) ?_
        refine ROps.l (r := AV.str a1) rfl rfl rfl (LOp.move rfl rfl) ?_
        refine ROps.l (r := AV.ik .u8 e1) rfl rfl rfl (LOp.index_str und9 rfl rfl rfl he4) ?_
        refine ROps.d (r := AV.i64 r2) (fs := []) (Γ' := []) rfl rfl rfl (TOp.callB (CallAs.func ent28 rfl rfl) (Bors.cons (Bor.pure rfl) (Bors.cons (Bor.pure rfl) Bors.nil)) rfl rfl (x_internal_stringslite_IndexByte_ok a0 e1 r2 hf5)) rfl ?_
        refine ROps.l (r := AV.i64 r2) rfl rfl rfl (LOp.assign rfl rfl) ?_
        refine ROps.nil ?_
        refine RunC.ret ?_
        have hq := Option.some.inj h
        subst q0
        exact bodyQ.pure (.inr rfl) rfl (Res.one rfl (RV.tmp rfl))
      · refine RunC.regionW ?_
        refine ROps.l (r := AV.i64 (a1.size : Int)) rfl rfl rfl (LOp.move rfl rfl) ?_
        refine ROps.l (r := AV.b false) rfl rfl rfl (LOp.eqb (LOp.eql rfl rfl rfl) hc3) ?_
        refine ROps.l (r := AV.b false) rfl rfl rfl (LOp.assign rfl rfl) ?_
        refine ROps.nil ?_
        refine RunC.cond_false rfl rfl ?_
        refine RunC.seq ?_
        rcases bsel_some h with ⟨hc6, h⟩ | ⟨hc6, h⟩
        · refine RunC.regionW ?_
          refine ROps.l (r := AV.i64 (a1.size : Int)) rfl rfl rfl (LOp.move rfl rfl) ?_
          refine ROps.l (r := AV.str a0) rfl rfl rfl (LOp.move rfl rfl) ?_
          refine ROps.l (r := AV.i64 (a0.size : Int)) rfl rfl rfl (LOp.len_str und9 rfl rfl) ?_
          refine ROps.l (r := AV.b true) rfl rfl rfl (LOp.eqb (LOp.geq rfl rfl rfl) hc6) ?_
          refine ROps.l (r := AV.b true) rfl rfl rfl (LOp.assign rfl rfl) ?_
          refine ROps.nil ?_
          refine RunC.cond_true rfl rfl ?_
          refine RunC.seq ?_
          refine RunC.regionW ?_
          refine ROps.l (r := AV.i64 (-1)) rfl rfl rfl (LOp.assign rfl rfl) ?_
          refine ROps.nil ?_
          refine RunC.ret ?_
          have hq := Option.some.inj h
          subst q0
          exact bodyQ.pure (.inr rfl) rfl (Res.one rfl (RV.tmp rfl))
        · refine RunC.regionW ?_
          refine ROps.l (r := AV.i64 (a1.size : Int)) rfl rfl rfl (LOp.move rfl rfl) ?_
          refine ROps.l (r := AV.str a0) rfl rfl rfl (LOp.move rfl rfl) ?_
          refine ROps.l (r := AV.i64 (a0.size : Int)) rfl rfl rfl (LOp.len_str und9 rfl rfl) ?_
          refine ROps.l (r := AV.b false) rfl rfl rfl (LOp.eqb (LOp.geq rfl rfl rfl) hc6) ?_
          refine ROps.l (r := AV.b false) rfl rfl rfl (LOp.assign rfl rfl) ?_
          refine ROps.nil ?_
          refine RunC.cond_false rfl rfl ?_
          refine RunC.seq ?_
          cases h
noncomputable def x_strings_Index (a0 : ByteArray) (a1 : ByteArray) : Option (Int) :=
  obind (x_internal_stringslite_Index a0 a1) fun (r1 : Int) =>
  some r1
theorem x_strings_Index_ok (a0 : ByteArray) (a1 : ByteArray) (q0 : Int) (h : x_strings_Index a0 a1 = some q0) : Ev Tryd.prog 20 [AV.str a0, AV.str a1] [] (AV.i64 q0) [] := by
  refine Ev.start Tryd.func20 rfl rfl 0 (τ := [(0, AV.str a0), (1, AV.str a1)]) rfl (Γ' := []) rfl (n := 17) rfl (g := 0) rfl (fun _ => rfl) ?_
  unfold x_strings_Index at h
  refine RunC.seq ?_
  refine RunC.regionW ?_
  refine ROps.l (r := AV.i64 0) rfl rfl rfl (LOp.assign rfl rfl) ?_
  refine ROps.nil ?_
  refine RunC.seq ?_
  obtain ⟨r1, hf1, h⟩ := obind_some h
  refine RunC.regionW ?_
  refine ROps.l (r := AV.str a0) rfl rfl rfl (LOp.move rfl rfl) ?_
  refine ROps.l (r := AV.str a1) rfl rfl rfl (LOp.move rfl rfl) ?_
  refine ROps.d (r := AV.i64 r1) (fs := []) (Γ' := []) rfl rfl rfl (TOp.callB (CallAs.func ent23 rfl rfl) (Bors.cons (Bor.pure rfl) (Bors.cons (Bor.pure rfl) Bors.nil)) rfl rfl (x_internal_stringslite_Index_ok a0 a1 r1 hf1)) rfl ?_
  refine ROps.l (r := AV.i64 r1) rfl rfl rfl (LOp.assign rfl rfl) ?_
  refine ROps.nil ?_
  refine RunC.ret ?_
  have hq := Option.some.inj h
  subst q0
  exact bodyQ.pure (.inr rfl) rfl (Res.one rfl (RV.tmp rfl))
noncomputable def x_strings_Contains (a0 : ByteArray) (a1 : ByteArray) : Option (Bool) :=
  obind (x_strings_Index a0 a1) fun (r1 : Int) =>
  some (decide (0 ≤ r1))
theorem x_strings_Contains_ok (a0 : ByteArray) (a1 : ByteArray) (q0 : Bool) (h : x_strings_Contains a0 a1 = some q0) : Ev Tryd.prog 13 [AV.str a0, AV.str a1] [] (AV.b q0) [] := by
  refine Ev.start Tryd.func13 rfl rfl 0 (τ := [(0, AV.str a0), (1, AV.str a1)]) rfl (Γ' := []) rfl (n := 19) rfl (g := 0) rfl (fun _ => rfl) ?_
  unfold x_strings_Contains at h
  refine RunC.seq ?_
  refine RunC.regionW ?_
  refine ROps.l (r := AV.b false) rfl rfl rfl (LOp.assign rfl rfl) ?_
  refine ROps.nil ?_
  refine RunC.seq ?_
  obtain ⟨r1, hf1, h⟩ := obind_some h
  refine RunC.regionW ?_
  refine ROps.l (r := AV.str a0) rfl rfl rfl (LOp.move rfl rfl) ?_
  refine ROps.l (r := AV.str a1) rfl rfl rfl (LOp.move rfl rfl) ?_
  refine ROps.d (r := AV.i64 r1) (fs := []) (Γ' := []) rfl rfl rfl (TOp.callB (CallAs.func ent20 rfl rfl) (Bors.cons (Bor.pure rfl) (Bors.cons (Bor.pure rfl) Bors.nil)) rfl rfl (x_strings_Index_ok a0 a1 r1 hf1)) rfl ?_
  refine ROps.l (r := AV.b (decide (0 ≤ r1))) rfl rfl rfl (LOp.geq rfl rfl rfl) ?_
  refine ROps.l (r := AV.b (decide (0 ≤ r1))) rfl rfl rfl (LOp.assign rfl rfl) ?_
  refine ROps.nil ?_
  refine RunC.ret ?_
  have hq := Option.some.inj h
  subst q0
  exact bodyQ.pure (.inr rfl) rfl (Res.one rfl (RV.tmp rfl))
noncomputable def jrun : List ByteArray → Int → ByteArray → Option (ByteArray × Bool)
  | [], _, t => some (t, true)
  | l :: r, c, t =>
    obind (i_checkOf c l) fun (c1 : Int) =>
    obind (i_Decimal c1) fun (d : ByteArray) =>
    need (decide (d.size + l.size + t.size ≤ 1000000000)) <|
    obind (x_strings_Contains l ⟨#[10]⟩) fun (h : Bool) =>
    bsel h (some (⟨#[]⟩, false)) (
    bsel (decide (16000 < (t ++ (d ++ ⟨#[32]⟩ ++ l ++ ⟨#[10]⟩)).size)) (some (⟨#[]⟩, false)) (
    jrun r c1 (t ++ (d ++ ⟨#[32]⟩ ++ l ++ ⟨#[10]⟩))))
noncomputable def i_JournalOf (a0 : List ByteArray) : Option (ByteArray × Bool) := need (decide (a0.length ≤ 1000000000)) <| jrun a0 0 ⟨#[]⟩
def bl166_ren : Go.Shelf.Ren := { f := fun x => match x with | 166 => 11 | 240 => 18 | 276 => 21 | n => n, t := fun x => match x with | 37 => 31 | 70 => 30 | 72 => 33 | 75 => 36 | 80 => 42 | 164 => 46 | n => n, g := fun x => x }
theorem bl166_lays : Go.Proofs.Lays.n166 Tryd.prog bl166_ren :=
  { mixed := (by kernel_rfl), f166 := (Eq.trans Tryd.func11 (congrArg some (by kernel_rfl))), f240 := (Eq.trans Tryd.func18 (congrArg some (by kernel_rfl))), f276 := (Eq.trans Tryd.func21 (congrArg some (by kernel_rfl))),
    t0 := Tryd.underlying0,
    a0 := Tryd.isAgg0,
    z0 := Tryd.sizeOf0,
    v0 := Tryd.zeroValue0,
    t3 := Tryd.underlying3,
    a3 := Tryd.isAgg3,
    z3 := Tryd.sizeOf3,
    v3 := Tryd.zeroValue3,
    t4 := Tryd.underlying4,
    a4 := Tryd.isAgg4,
    z4 := Tryd.sizeOf4,
    v4 := Tryd.zeroValue4,
    t9 := Tryd.underlying9,
    a9 := Tryd.isAgg9,
    z9 := Tryd.sizeOf9,
    v9 := Tryd.zeroValue9,
    t20 := Tryd.underlying20,
    a20 := Tryd.isAgg20,
    z20 := Tryd.sizeOf20,
    v20 := Tryd.zeroValue20,
    t37 := Tryd.underlying31,
    a37 := Tryd.isAgg31,
    z37 := Tryd.sizeOf31,
    v37 := Tryd.zeroValue31,
    t70 := Tryd.underlying30,
    a70 := Tryd.isAgg30,
    z70 := Tryd.sizeOf30,
    v70 := Tryd.zeroValue30,
    t72 := Tryd.underlying33,
    a72 := Tryd.isAgg33,
    z72 := Tryd.sizeOf33,
    v72 := Tryd.zeroValue33,
    t75 := Tryd.underlying36,
    a75 := Tryd.isAgg36,
    z75 := Tryd.sizeOf36,
    v75 := Tryd.zeroValue36,
    t164 := Tryd.underlying46,
    a164 := Tryd.isAgg46,
    z164 := Tryd.sizeOf46,
    v164 := Tryd.zeroValue46 }
def bl169_ren : Go.Shelf.Ren :=
{
  f := fun x =>
    match x with
    | 169 => 15
    | n => n,
  t := fun x =>
    match x with
    | 70 => 30
    | 9 => 9
    | 0 => 0
    | 72 => 33
    | 37 => 31
    | 127 => 45
    | 3 => 3
    | 5 => 5
    | n => n,
  g := fun x =>
    have n := x;
    n }
theorem bl169_lays : Go.Proofs.Lays.n169 Tryd.prog bl169_ren :=
  {
    f169 := (Eq.trans Tryd.func15 (congrArg some (by kernel_rfl))),
    t0 := Tryd.underlying0,
    a0 := Tryd.isAgg0,
    z0 := Tryd.sizeOf0,
    v0 := Tryd.zeroValue0,
    t3 := Tryd.underlying3,
    a3 := Tryd.isAgg3,
    z3 := Tryd.sizeOf3,
    v3 := Tryd.zeroValue3,
    t9 := Tryd.underlying9,
    a9 := Tryd.isAgg9,
    z9 := Tryd.sizeOf9,
    v9 := Tryd.zeroValue9,
    t37 := Tryd.underlying31,
    a37 := Tryd.isAgg31,
    z37 := Tryd.sizeOf31,
    v37 := Tryd.zeroValue31,
    t70 := Tryd.underlying30,
    a70 := Tryd.isAgg30,
    z70 := Tryd.sizeOf30,
    v70 := Tryd.zeroValue30,
    t72 := Tryd.underlying33,
    a72 := Tryd.isAgg33,
    z72 := Tryd.sizeOf33,
    v72 := Tryd.zeroValue33,
    t127 := Tryd.underlying45,
    a127 := Tryd.isAgg45,
    z127 := Tryd.sizeOf45,
    v127 := Tryd.zeroValue45,
    mixed := (by kernel_rfl) }
def bl170_ren : Go.Shelf.Ren :=
{
  f := fun x =>
    match x with
    | 170 => 14
    | n => n,
  t := fun x =>
    match x with
    | 70 => 30
    | 3 => 3
    | 0 => 0
    | 72 => 33
    | 37 => 31
    | 5 => 5
    | n => n,
  g := fun x =>
    have n := x;
    n }
theorem bl170_lays : Go.Proofs.Lays.n170 Tryd.prog bl170_ren :=
  {
    f170 := (Eq.trans Tryd.func14 (congrArg some (by kernel_rfl))),
    t0 := Tryd.underlying0,
    a0 := Tryd.isAgg0,
    z0 := Tryd.sizeOf0,
    v0 := Tryd.zeroValue0,
    t3 := Tryd.underlying3,
    a3 := Tryd.isAgg3,
    z3 := Tryd.sizeOf3,
    v3 := Tryd.zeroValue3,
    t37 := Tryd.underlying31,
    a37 := Tryd.isAgg31,
    z37 := Tryd.sizeOf31,
    v37 := Tryd.zeroValue31,
    t70 := Tryd.underlying30,
    a70 := Tryd.isAgg30,
    z70 := Tryd.sizeOf30,
    v70 := Tryd.zeroValue30,
    t72 := Tryd.underlying33,
    a72 := Tryd.isAgg33,
    z72 := Tryd.sizeOf33,
    v72 := Tryd.zeroValue33,
    mixed := (by kernel_rfl) }
theorem bl166_extra : Go.Proofs.Builder.Extra Tryd.prog bl166_ren := { sizeBuilder := by kernel_rfl, liesBuilder := by kernel_rfl, t5 := Tryd.underlying5, a5 := Tryd.isAgg5, z5 := Tryd.sizeOf5, v5 := Tryd.zeroValue5, infoByte := by kernel_rfl, cellsByte := by kernel_rfl, sizeByte := by kernel_rfl, neB5 := by decide }
theorem bl169_extra : Go.Proofs.Builder.Extra Tryd.prog bl169_ren := { sizeBuilder := by kernel_rfl, liesBuilder := by kernel_rfl, t5 := Tryd.underlying5, a5 := Tryd.isAgg5, z5 := Tryd.sizeOf5, v5 := Tryd.zeroValue5, infoByte := by kernel_rfl, cellsByte := by kernel_rfl, sizeByte := by kernel_rfl, neB5 := by decide }
open Go.RowKit in
theorem ev_calls {P : Program} {f : FuncId} {A : List AV} {r : AV} {vs : Array Value} {S : Snap} {w : World} (h : Ev P f A [] r []) (hs : SnapOK S w) (ha : VL S [] A vs.toList) :
    Calls P f vs w fun e w' => ∃ v S' μ', e = .returned v ∧ V S' μ' r v ∧ Grow w w' := by
  refine (h S [] w vs ⟨hs, rfl, fun o g m h => by simp at h, fun o ver l m h => by simp at h, fun o o' g g' m m' b h => by simp at h⟩ ha).mono ?_
  rintro e w' ⟨v, S', μ', rfl, hv, _, hf⟩
  exact ⟨v, S', μ', rfl, hv, ⟨hf.size, fun b hb => hf.keep b hb (fun i m hi => by simp at hi), hf.os, hf.tape, hf.output⟩⟩
theorem builder_grow {T e : TypeId} {B b : Nat} {bs : List Value} {w w' : World} (h : Lib.IsBuilderF T e B b bs w) (g : Grow w w') : Lib.IsBuilderF T e B b bs w' := by
  have key : ∀ p, Lib.BuilderAtF T e B b p bs w → Lib.BuilderAtF T e B b p bs w' := by
    rintro p ⟨hB, v, hb, hown, hne⟩
    have hlt : ∀ {k c}, w.heap[k]? = some c → w'.heap[k]? = some c := fun {k c} hk => (g.block k (Array.getElem?_eq_some_iff.1 hk).1).trans hk
    refine ⟨hB, v, hlt hb, ⟨hown.1, ?_⟩, hne⟩
    rcases hown.2 with hn | ⟨q, cap, cur, fz, hv, h1, h2, h3⟩
    · exact .inl hn
    · exact .inr ⟨q, cap, cur, fz, hv, h1, hlt h2, h3⟩
  exact h.elim (fun x => .inl (key _ x)) (fun x => .inr (key _ x))
open Go.RowKit in
theorem below_grow {B : Nat} {w w1 w2 : World} (h : Below B w w1) (g : Grow w1 w2) (hB : B ≤ w.heap.size) : Below B w w2 :=
  h.trans ⟨g.os, g.tape, g.output, g.size, fun k hk => g.block k (Nat.lt_of_lt_of_le hk (Nat.le_trans hB h.size))⟩
open Go.RowKit in
theorem calls_check {S : Snap} {c : Int} {l : ByteArray} {c1 : Int} (h : i_checkOf c l = some c1) (w : World) (hs : SnapOK S w) : Calls Tryd.prog 10 #[.int .i64 c, .string l] w fun e w' => e = .returned (.int .i64 c1) ∧ Grow w w' := by
  refine (ev_calls (S := S) (i_checkOf_ok c l c1 h) hs (by simp only [VL, V]; exact ⟨trivial, trivial, trivial⟩)).mono ?_
  rintro e w' ⟨v, S', μ', rfl, hv, hg⟩
  simp only [V] at hv
  subst hv
  exact ⟨rfl, hg⟩
open Go.RowKit in
theorem calls_dec {S : Snap} {c : Int} {d : ByteArray} (h : i_Decimal c = some d) (w : World) (hs : SnapOK S w) : Calls Tryd.prog 12 #[.int .i64 c] w fun e w' => e = .returned (.string d) ∧ Grow w w' := by
  refine (ev_calls (S := S) (i_Decimal_ok c d h) hs (by simp only [VL, V]; exact ⟨trivial, trivial⟩)).mono ?_
  rintro e w' ⟨v, S', μ', rfl, hv, hg⟩
  simp only [V] at hv
  subst hv
  exact ⟨rfl, hg⟩
open Go.RowKit in
theorem calls_has {S : Snap} {l m : ByteArray} {b : Bool} (h : x_strings_Contains l m = some b) (w : World) (hs : SnapOK S w) : Calls Tryd.prog 13 #[.string l, .string m] w fun e w' => e = .returned (.bool b) ∧ Grow w w' := by
  refine (ev_calls (S := S) (x_strings_Contains_ok l m b h) hs (by simp only [VL, V]; exact ⟨trivial, trivial, trivial⟩)).mono ?_
  rintro e w' ⟨v, S', μ', rfl, hv, hg⟩
  simp only [V] at hv
  subst hv
  exact ⟨rfl, hg⟩
open Go.RowKit in
theorem snap_below {S : Snap} {B : Nat} {w w' : World} (hs : SnapOK S w) (hb : Below B w w') (hB : w.heap.size ≤ B) : SnapOK S w' := fun b c hc => by
  obtain ⟨T, m, hT⟩ := hs b c hc
  have hlt := (Array.getElem?_eq_some_iff.1 hT).1
  exact ⟨T, m, (hb.block b (Nat.lt_of_lt_of_le hlt hB)).trans hT⟩
open Go.RowKit in
theorem j_write (B b : Nat) (bs : List Value) (s : ByteArray) (w : World) (h : Lib.IsBuilderF 33 5 B b bs w) (hlen : bs.length + s.size ≤ 140737488355328) (hBw : B ≤ w.heap.size) :
    Calls Tryd.prog 11 #[.pointer (some ⟨b, 0, none⟩), .string s] w fun e w' => e = .returned (.tuple #[.int .i64 s.size, .nilIface]) ∧ (Lib.BuilderAtF 33 5 B b (.pointer (some ⟨b, 0, none⟩)) (bs ++ Lib.strCells s) w' ∧ Below B w w') :=
  Go.Proofs.Any.Builder_WriteString_f bl166_lays bl166_extra B b bs s w h hlen hBw
open Go.RowKit in
theorem j_len (B b : Nat) (t : ByteArray) (w : World) (h : Lib.IsBuilderF 33 5 B b (Lib.strCells t) w) : Calls Tryd.prog 14 #[.pointer (some ⟨b, 0, none⟩)] w fun e w' => e = .returned (.int .i64 t.size) ∧ w' = w := by
  have := Go.Proofs.Any.Builder_Len_f bl170_lays B b (Lib.strCells t) w h
  rw [Lib.strCells_length] at this
  exact this
open Go.RowKit in
theorem j_string (B b : Nat) (t : ByteArray) (w : World) (h : Lib.IsBuilderF 33 5 B b (Lib.strCells t) w) (hBw : B ≤ w.heap.size) : Calls Tryd.prog 15 #[.pointer (some ⟨b, 0, none⟩)] w fun e w' => e = .returned (.string t) ∧ Below B w w' := by
  rw [Lib.strCells_eq] at h
  refine (Go.Proofs.Any.Builder_String_any_f bl169_lays bl169_extra B b t.data.toList w h hBw).mono ?_
  rintro e w' ⟨rfl, _, hb⟩
  exact ⟨rfl, hb⟩
theorem strCells_app (s t : ByteArray) : Lib.strCells s ++ Lib.strCells t = Lib.strCells (s ++ t) := by
  unfold Lib.strCells
  rw [← List.map_append]
  congr 1
def jline (d l : ByteArray) : ByteArray := d ++ ⟨#[32]⟩ ++ l ++ ⟨#[10]⟩
theorem jline_size (d l : ByteArray) : (jline d l).size = d.size + l.size + 2 := by
  unfold jline
  simp only [ByteArray.size_append]
  show d.size + 1 + l.size + 1 = _
  omega
theorem jrun_step {l : ByteArray} {r : List ByteArray} {c : Int} {t : ByteArray} {q : ByteArray × Bool} (h : jrun (l :: r) c t = some q) : ∃ c1 d hh, i_checkOf c l = some c1 ∧ i_Decimal c1 = some d ∧ d.size + l.size + t.size ≤ 1000000000 ∧ x_strings_Contains l ⟨#[10]⟩ = some hh ∧
    bsel hh (some (⟨#[]⟩, false)) (bsel (decide (16000 < (t ++ jline d l).size)) (some (⟨#[]⟩, false)) (jrun r c1 (t ++ jline d l))) = some q := by
  unfold jrun at h
  obtain ⟨c1, e1, h⟩ := obind_some h
  obtain ⟨d, e2, h⟩ := obind_some h
  obtain ⟨hsz, h⟩ := need_some h
  obtain ⟨hh, e3, h⟩ := obind_some h
  exact ⟨c1, d, hh, e1, e2, of_decide_eq_true hsz, e3, h⟩
open Go.RowKit in
theorem jwalk {S : Snap} (a0 : List ByteArray) (q0 : ByteArray) (q1 : Bool) (h : i_JournalOf a0 = some (q0, q1)) (ad : Option Addr) (cap : Nat) (w : World) (hs : SnapOK S w)
    (hcell : ∀ (wr : World), Below w.heap.size w wr → ∀ (j : Nat) x, a0[j]? = some x → ∃ b off, ad = some ⟨b, off, none⟩ ∧ wr.cell? ⟨b, off + j, none⟩ = some (.string x)) :
    Calls Tryd.prog 7 #[.slice ad a0.length cap] w fun e w' => e = .returned (.tuple #[.string q0, .bool q1]) ∧ Below w.heap.size w w' := by
  have h0 : Lib.IsBuilderF 33 5 w.heap.size w.heap.size (Lib.strCells ⟨#[]⟩) (w.alloc (.cells #[.pointer none, .slice none 0 0] 33)) := Lib.IsBuilderF.of (Lib.fresh_isBuilder 33 5 w)
  have b0 : Below w.heap.size w (w.alloc (.cells #[.pointer none, .slice none 0 0] 33)) := (Below.refl _ w).alloc (Nat.le_refl _) _
  unfold i_JournalOf at h
  obtain ⟨hlen, h⟩ := need_some h
  have hlen := of_decide_eq_true hlen
  go_enter Tryd.func7, Tryd.ntmps7
  go_wp2
  go_loopw [5, 10] (fun cv iv wr => ∃ (k : Nat) (c : Int) (t : ByteArray), k ≤ a0.length ∧ iv = .int .i64 k ∧ cv = .int .i64 c ∧ jrun (a0.drop k) c t = some (q0, q1) ∧ t.size ≤ 16000 ∧ Lib.IsBuilderF 33 5 w.heap.size w.heap.size (Lib.strCells t) wr ∧ Below w.heap.size w wr)
    (fun _ iv _ => a0.length - (intOf iv).toNat)
  case atStart => exact ⟨0, 0, ⟨#[]⟩, Nat.zero_le _, rfl, rfl, h, by decide, h0, b0⟩
  case round =>
    obtain ⟨k, c, t, hk, rfl, rfl, hj, ht, hI, hb⟩ := hrel
    by_cases hlt : k < a0.length
    · obtain ⟨l, hl⟩ : ∃ l, a0[k]? = some l := ⟨_, List.getElem?_eq_getElem hlt⟩
      have hd : a0.drop k = l :: a0.drop (k + 1) := by
        rw [List.drop_eq_getElem_cons hlt]
        congr 1
        exact (List.getElem?_eq_some_iff.1 hl).2
      rw [hd] at hj
      obtain ⟨c1, d, hh, e1, e2, hsz, e3, hj2⟩ := jrun_step hj
      obtain ⟨b, off, rfl, hc⟩ := hcell wr hb k l hl
      have cC := calls_check e1 wr (snap_below hs hb (Nat.le_refl _))
      have HJ : Hid _ := hj2
      have HC : Hid _ := hcell
      clear hj hj2 hcell hd
      go_wp2_with (go_at_call 10; refine cC.mono ?_)
      rintro e w1 ⟨rfl, g1⟩
      have hb1 := below_grow hb g1 (Nat.le_refl _)
      have hI1 := builder_grow hI g1
      have cD := calls_dec e2 w1 (snap_below hs hb1 (Nat.le_refl _))
      clear cC
      go_wp2_with (go_at_call 12; refine cD.mono ?_)
      rintro e w2 ⟨rfl, g2⟩
      have hb2 := below_grow hb1 g2 (Nat.le_refl _)
      have hI2 := builder_grow hI1 g2
      clear cD hI hI1 hb hb1 g1 g2
      go_wp2_with (go_at_call 11; refine (j_write w.heap.size w.heap.size (Lib.strCells t) (jline d l) w2 hI2 (by rw [Lib.strCells_length, jline_size]; omega) hb2.size).mono ?_)
      rintro e w3 ⟨rfl, h3, b3⟩
      rw [strCells_app] at h3
      have hb3 := hb2.trans b3
      have hI3 : Lib.IsBuilderF 33 5 w.heap.size w.heap.size (Lib.strCells (t ++ jline d l)) w3 := Or.inr h3
      have cH := calls_has e3 w3 (snap_below hs hb3 (Nat.le_refl _))
      clear hI2 hb2 h3 b3
      go_wp2_with (go_at_call 13; refine cH.mono ?_)
      rintro e w4 ⟨rfl, g4⟩
      have hb4 := below_grow hb3 g4 (Nat.le_refl _)
      have hI4 := builder_grow hI3 g4
      clear cH hI3 hb3 g4
      cases hh with
      | true =>
        have hq : ((⟨#[]⟩ : ByteArray), false) = (q0, q1) := Option.some.inj (by have := HJ.out; rwa [bsel_true] at this)
        obtain ⟨rfl, rfl⟩ := Prod.mk.inj hq
        clear HJ HC
        go_wp2
        go_ret2
        exact ⟨rfl, hb4⟩
      | false =>
        have hj3 := HJ.out
        rw [bsel_false] at hj3
        go_wp2_with (go_at_call 14; refine (j_len w.heap.size w.heap.size _ w4 hI4).mono ?_)
        rintro e w5 ⟨rfl, rfl⟩
        by_cases hbig : 16000 < (t ++ jline d l).size
        · rw [decide_eq_true hbig, bsel_true] at hj3
          have hq := Option.some.inj hj3
          obtain ⟨rfl, rfl⟩ := Prod.mk.inj hq
          have hbi : (16000 : Int) < (t.size : Int) + ((jline d l).size : Int) := by rw [ByteArray.size_append] at hbig; omega
          clear HJ HC hj3
          go_wp2
          go_ret2
          exact ⟨rfl, hb4⟩
        · rw [decide_eq_false hbig, bsel_false] at hj3
          have hbi : ¬ (16000 : Int) < (t.size : Int) + ((jline d l).size : Int) := by rw [ByteArray.size_append] at hbig; omega
          clear HJ
          go_wp2
          exact ⟨⟨k + 1, c1, t ++ jline d l, by omega, by rw [Int.natCast_add]; rfl, rfl, hj3, by omega, hI4, hb4⟩, by simp only [intOf]; omega⟩
    · have hke : k = a0.length := by omega
      rw [List.drop_eq_nil_of_le (by omega)] at hj
      unfold jrun at hj
      have hq := Option.some.inj hj
      obtain ⟨rfl, rfl⟩ := Prod.mk.inj hq
      subst hke
      clear hj hcell
      go_wp2_with (go_at_call 15; refine (j_string w.heap.size w.heap.size t wr hI hb.size).mono ?_)
      rintro e w6 rfl b6
      have hb6 : Hid (Below w.heap.size w w6) := hb.trans b6
      clear b6 hb
      go_wp2
      go_ret2
      exact ⟨rfl, hb6.out⟩
theorem i_JournalOf_ok (a0 : List ByteArray) (q0 : ByteArray) (q1 : Bool) (h : i_JournalOf a0 = some (q0, q1)) : Ev Tryd.prog 7 [AV.sl a0.length (a0.map AV.str)] [] (AV.tup [AV.str q0, AV.b q1]) [] := by
  refine Ev.ofGrow fun S w vs hs ha => ?_
  obtain ⟨vl⟩ := vs
  match vl, ha with
  | [v0], ha =>
    simp only [VL] at ha
    obtain ⟨ha0, _⟩ := ha
    simp only [V] at ha0
    obtain ⟨a, cap, rfl, hcap, hl⟩ := ha0
    refine (jwalk (S := S) a0 q0 q1 h a cap w hs ?_).mono ?_
    · intro wr hbw j x hj
      rcases hl with hl | ⟨b, off, cs, rfl, hb, hv⟩
      · have : a0 = [] := by simpa using hl
        subst this; simp at hj
      · obtain ⟨T, m, hT⟩ := hs b cs hb
        refine ⟨b, off, rfl, ?_⟩
        obtain ⟨v, e1, e2⟩ := hv.get (i := j) (a := AV.str x) (by rw [List.getElem?_map, hj]; rfl)
        simp only [V] at e2
        subst e2
        rw [List.getElem?_drop] at e1
        have hT' : wr.heap[b]? = some (.cells cs T m) := (hbw.block b (Array.getElem?_eq_some_iff.1 hT).1).trans hT
        simp only [World.cell?, hT']
        simpa using e1
    · rintro e w' ⟨rfl, hB⟩
      exact ⟨_, rfl, by simp only [V]; exact ⟨_, rfl, by simp only [VL, V]; exact ⟨trivial, trivial, trivial⟩⟩, hB.size, fun k hk => hB.block k hk, hB.os, hB.tape, hB.output⟩
  | [], ha => simp only [VL] at ha
  | _ :: _ :: _, ha => simp only [VL] at ha; exact ha.2.elim
noncomputable def w_eqStringS_b1 (a0 : List ByteArray) (a1 : List ByteArray) (v1 : Int) : Option (LR (Int) (Unit) (Bool)) :=
  bsel (decide (v1 < (a0.length : Int))) (
    obind (at? a0 v1) fun (e2 : ByteArray) =>
    obind (at? a1 v1) fun (e3 : ByteArray) =>
    bsel (!eqs e2 e3) (
      some (LR.ret false)) (
      olet (IntKind.i64.wrap (v1 + 1)) fun (x4 : Int) =>
      some (LR.next x4))) (
    some (LR.out ()))
noncomputable def w_eqStringS_s1 (a0 : List ByteArray) (a1 : List ByteArray) : (Int) → Option (LR (Int) (Unit) (Bool)) := fun s => w_eqStringS_b1 a0 a1 s
noncomputable def w_eqStringS_k1  : Option (Bool) :=
  some true
noncomputable def w_eqStringS (a0 : List ByteArray) (a1 : List ByteArray) : Option (Bool) :=
  bsel (!decide ((a0.length : Int) = (a1.length : Int))) (
    some false) (
    obind (loopM (w_eqStringS_s1 a0 a1) 0) fun z => osum z (fun _ => w_eqStringS_k1) (fun r => some r))
theorem w_eqStringS_ok (a0 : List ByteArray) (a1 : List ByteArray) (q0 : Bool) (h : w_eqStringS a0 a1 = some q0) : Ev Tryd.prog 8 [AV.sl a0.length (a0.map AV.str), AV.sl a1.length (a1.map AV.str)] [] (AV.b q0) [] := by
  refine Ev.start Tryd.func8 rfl rfl 0 (τ := [(0, AV.sl a0.length (a0.map AV.str)), (1, AV.sl a1.length (a1.map AV.str))]) rfl (Γ' := []) rfl (n := 53) rfl (g := 0) rfl (fun _ => rfl) ?_
  unfold w_eqStringS at h
  refine RunC.seq ?_
  refine RunC.regionW ?_
  refine ROps.l (r := AV.b false) rfl rfl rfl (LOp.assign rfl rfl) ?_
  refine ROps.nil ?_
  refine RunC.seq ?_
  refine RunC.seq ?_
  rcases bsel_some h with ⟨hc1, h⟩ | ⟨hc1, h⟩
  · refine RunC.regionW ?_
    refine ROps.l (r := AV.sl a0.length (a0.map AV.str)) rfl rfl rfl (LOp.move rfl rfl) ?_
    refine ROps.l (r := AV.i64 (a0.length : Int)) rfl rfl rfl (LOp.len_sl und22 rfl rfl) ?_
    refine ROps.l (r := AV.sl a1.length (a1.map AV.str)) rfl rfl rfl (LOp.move rfl rfl) ?_
    refine ROps.l (r := AV.i64 (a1.length : Int)) rfl rfl rfl (LOp.len_sl und22 rfl rfl) ?_
    refine ROps.l (r := AV.b true) rfl rfl rfl (LOp.eqb (LOp.neq rfl rfl rfl) hc1) ?_
    refine ROps.nil ?_
    refine RunC.cond_true rfl rfl ?_
    refine RunC.seq ?_
    refine RunC.regionW ?_
    refine ROps.l (r := AV.b false) rfl rfl rfl (LOp.assign rfl rfl) ?_
    refine ROps.nil ?_
    refine RunC.ret ?_
    have hq := Option.some.inj h
    subst q0
    exact bodyQ.pure (.inr rfl) rfl (Res.one rfl (RV.tmp rfl))
  · refine RunC.regionW ?_
    refine ROps.l (r := AV.sl a0.length (a0.map AV.str)) rfl rfl rfl (LOp.move rfl rfl) ?_
    refine ROps.l (r := AV.i64 (a0.length : Int)) rfl rfl rfl (LOp.len_sl und22 rfl rfl) ?_
    refine ROps.l (r := AV.sl a1.length (a1.map AV.str)) rfl rfl rfl (LOp.move rfl rfl) ?_
    refine ROps.l (r := AV.i64 (a1.length : Int)) rfl rfl rfl (LOp.len_sl und22 rfl rfl) ?_
    refine ROps.l (r := AV.b false) rfl rfl rfl (LOp.eqb (LOp.neq rfl rfl rfl) hc1) ?_
    refine ROps.nil ?_
    refine RunC.cond_false rfl rfl ?_
    refine RunC.skip ?_
    refine RunC.seq ?_
    refine RunC.seq ?_
    refine RunC.regionW ?_
    refine ROps.l (r := AV.i64 0) rfl rfl rfl (LOp.assign rfl rfl) ?_
    refine ROps.nil ?_
    obtain ⟨z2, hz_2, h⟩ := obind_some h
    refine RunC.cutN (fun τ Γ => WeakLe τ [] ∧ DeadLe Γ [] ∧ z2 = .inl ()) ?_ ?_
    · refine RunC.block (RunC.loop (RunL.loopM (x := z2) (w_eqStringS_s1 a0 a1) (fun (s : Int) τ Γ => WeakLe τ [(0, AV.sl a0.length (a0.map AV.str)), (1, AV.sl a1.length (a1.map AV.str)), (5, AV.i64 s)] ∧ DeadLe Γ []) ?_ _ _ _ hz_2 ⟨⟨(ALe.refl _), (ALe.refl _), (ALe.refl _), trivial⟩, trivial⟩))
      rintro v1 τ2 Γ2 y2_ ⟨hw2, hd2⟩ h2_ ho2 hr2
      refine RunC.wl (τ' := [(0, AV.sl a0.length (a0.map AV.str)), (1, AV.sl a1.length (a1.map AV.str)), (5, AV.i64 v1)]) (Γ' := []) hw2 hd2 ?_
      replace h2_ : w_eqStringS_b1 a0 a1 v1 = some y2_ := h2_
      unfold w_eqStringS_b1 at h2_
      refine RunC.seq ?_
      refine RunC.seq ?_
      rcases bsel_some h2_ with ⟨hc2, h2_⟩ | ⟨hc2, h2_⟩
      · refine RunC.regionW ?_
        refine ROps.l (r := AV.i64 v1) rfl rfl rfl (LOp.move rfl rfl) ?_
        refine ROps.l (r := AV.sl a0.length (a0.map AV.str)) rfl rfl rfl (LOp.move rfl rfl) ?_
        refine ROps.l (r := AV.i64 (a0.length : Int)) rfl rfl rfl (LOp.len_sl und22 rfl rfl) ?_
        refine ROps.l (r := AV.b true) rfl rfl rfl (LOp.eqb (LOp.lss rfl rfl rfl) hc2) ?_
        refine ROps.nil ?_
        refine RunC.cond_true rfl rfl ?_
        refine RunC.skip ?_
        refine RunC.seq ?_
        refine RunC.block ?_
        refine RunC.seq ?_
        obtain ⟨e2, he3, h2_⟩ := obind_some h2_
        obtain ⟨e3, he4, h2_⟩ := obind_some h2_
        rcases bsel_some h2_ with ⟨hc5, h2_⟩ | ⟨hc5, h2_⟩
        · refine RunC.region_draw (Γ' := []) 9 mixed 
            (TR.l (r := AV.sl a0.length (a0.map AV.str)) rfl rfl (LOp.move rfl rfl) <|
            (TR.l (r := AV.i64 v1) rfl rfl (LOp.move rfl rfl) <|
            (TR.l (r := AV.ptr [AV.str e2]) rfl rfl (LOp.le (LOp.ix (f := AV.str) und22 siz9 rfl rfl rfl rfl he3) ALe.ptr) <|
            (TR.l (r := AV.str e2) rfl rfl (LOp.load1 agg9 rfl rfl) <|
            (TR.l (r := AV.sl a1.length (a1.map AV.str)) rfl rfl (LOp.move rfl rfl) <|
            (TR.l (r := AV.i64 v1) rfl rfl (LOp.move rfl rfl) <|
            (TR.l (r := AV.ptr [AV.str e3]) rfl rfl (LOp.le (LOp.ix (f := AV.str) und22 siz9 rfl rfl rfl rfl he4) ALe.ptr) <|
            (TR.l (r := AV.str e3) rfl rfl (LOp.load1 agg9 rfl rfl) <|
            (TR.l (r := AV.b true) rfl rfl (LOp.eqb (LOp.neqs rfl rfl rfl) hc5) <|
            TR.nil))))))))) rfl (by kernel_rfl) rfl fills_nil rfl ?_
          iterate 9 refine ROps.dropS ?_
          refine ROps.drop0 ?_
          refine ROps.nil ?_
          refine RunC.cond_true rfl rfl ?_
          refine RunC.seq ?_
          refine RunC.regionW ?_
          refine ROps.l (r := AV.b false) rfl rfl rfl (LOp.assign rfl rfl) ?_
          refine ROps.nil ?_
          refine RunC.ret ?_
          cases Option.some.inj h2_
          have hx3_ := hr2 _ rfl
          subst hx3_
          have hq := Option.some.inj h
          subst q0
          exact bodyQ.pure (.inr rfl) rfl (Res.one rfl (RV.tmp rfl))
        · refine RunC.region_draw (Γ' := []) 9 mixed 
            (TR.l (r := AV.sl a0.length (a0.map AV.str)) rfl rfl (LOp.move rfl rfl) <|
            (TR.l (r := AV.i64 v1) rfl rfl (LOp.move rfl rfl) <|
            (TR.l (r := AV.ptr [AV.str e2]) rfl rfl (LOp.le (LOp.ix (f := AV.str) und22 siz9 rfl rfl rfl rfl he3) ALe.ptr) <|
            (TR.l (r := AV.str e2) rfl rfl (LOp.load1 agg9 rfl rfl) <|
            (TR.l (r := AV.sl a1.length (a1.map AV.str)) rfl rfl (LOp.move rfl rfl) <|
            (TR.l (r := AV.i64 v1) rfl rfl (LOp.move rfl rfl) <|
            (TR.l (r := AV.ptr [AV.str e3]) rfl rfl (LOp.le (LOp.ix (f := AV.str) und22 siz9 rfl rfl rfl rfl he4) ALe.ptr) <|
            (TR.l (r := AV.str e3) rfl rfl (LOp.load1 agg9 rfl rfl) <|
            (TR.l (r := AV.b false) rfl rfl (LOp.eqb (LOp.neqs rfl rfl rfl) hc5) <|
            TR.nil))))))))) rfl (by kernel_rfl) rfl fills_nil rfl ?_
          iterate 9 refine ROps.dropS ?_
          refine ROps.drop0 ?_
          refine ROps.nil ?_
          refine RunC.cond_false rfl rfl ?_
          refine RunC.skip ?_
          refine RunC.wl (τ' := [(0, AV.sl a0.length (a0.map AV.str)), (1, AV.sl a1.length (a1.map AV.str)), (5, AV.i64 v1)]) (Γ' := []) ⟨(ALe.refl _), (ALe.refl _), (ALe.refl _), trivial⟩ trivial ?_
          obtain ⟨x4, hx6, h2_⟩ := olet_some h2_
          refine RunC.regionW ?_
          refine ROps.l (r := AV.i64 v1) rfl rfl rfl (LOp.move rfl rfl) ?_
          refine ROps.l (r := AV.i64 x4) rfl rfl rfl (LOp.eqr (LOp.add rfl rfl rfl) (congrArg (AV.ik .i64) hx6)) ?_
          refine ROps.l (r := AV.i64 x4) rfl rfl rfl (LOp.assign rfl rfl) ?_
          refine ROps.nil ?_
          cases Option.some.inj h2_
          exact ⟨_, rfl, ⟨(ALe.refl _), (ALe.refl _), (ALe.refl _), trivial⟩, trivial⟩
      · refine RunC.regionW ?_
        refine ROps.l (r := AV.i64 v1) rfl rfl rfl (LOp.move rfl rfl) ?_
        refine ROps.l (r := AV.sl a0.length (a0.map AV.str)) rfl rfl rfl (LOp.move rfl rfl) ?_
        refine ROps.l (r := AV.i64 (a0.length : Int)) rfl rfl rfl (LOp.len_sl und22 rfl rfl) ?_
        refine ROps.l (r := AV.b false) rfl rfl rfl (LOp.eqb (LOp.lss rfl rfl rfl) hc2) ?_
        refine ROps.nil ?_
        refine RunC.cond_false rfl rfl ?_
        refine RunC.exit ?_
        cases Option.some.inj h2_
        have hx := ho2 _ rfl
        exact ⟨trivial, trivial, hx⟩
    · rintro τ4 Γ4 ⟨hw4, hd4, rfl⟩
      refine RunC.wl (τ' := []) (Γ' := []) hw4 hd4 ?_
      replace h : w_eqStringS_k1 = some q0 := h
      unfold w_eqStringS_k1 at h
      refine RunC.seq ?_
      refine RunC.regionW ?_
      refine ROps.l (r := AV.b true) rfl rfl rfl (LOp.assign rfl rfl) ?_
      refine ROps.nil ?_
      refine RunC.ret ?_
      have hq := Option.some.inj h
      subst q0
      exact bodyQ.pure (.inr rfl) rfl (Res.one rfl (RV.tmp rfl))
noncomputable def w_FnExactJournalOf (a0 : List ByteArray) : Option (Bool) :=
  obind (w_szStringS a0 1048576) fun (r1 : Int) =>
  bsel (decide (r1 < 0)) (
    some true) (
    obind (w_toStringS a0) fun (r2 : List ByteArray) =>
    obind2 (s_JournalOf r2) fun (r3 : ByteArray) (r4 : Bool) =>
    obind (w_toStringS a0) fun (r5 : List ByteArray) =>
    obind2 (i_JournalOf r5) fun (r6 : ByteArray) (r7 : Bool) =>
    bsel (!eqs r6 r3) (
      some false) (
      bsel (!(r7 == r4)) (
        some false) (
        obind (w_toStringS a0) fun (r8 : List ByteArray) =>
        obind (w_eqStringS r5 r8) fun (r9 : Bool) =>
        bsel r9 (
          some true) (
          some false))))
theorem w_FnExactJournalOf_ok (a0 : List ByteArray) (q0 : Bool) (h : w_FnExactJournalOf a0 = some q0) : Ev Tryd.prog 3 [AV.sl a0.length (a0.map AV.str)] [] (AV.b q0) [] := by
  refine Ev.start Tryd.func3 rfl rfl 2 (τ := [(0, AV.sl a0.length (a0.map AV.str))]) rfl (Γ' := [⟨0, none⟩, ⟨0, none⟩]) rfl (n := 81) rfl (g := 0) rfl (fun _ => rfl) ?_
  unfold w_FnExactJournalOf at h
  refine RunC.seq ?_
  refine RunC.regionW ?_
  refine ROps.l (r := AV.b false) rfl rfl rfl (LOp.assign rfl rfl) ?_
  refine ROps.nil ?_
  refine RunC.seq ?_
  refine RunC.regionW ?_
  refine ROps.l (r := AV.i64 1048576) rfl rfl rfl (LOp.assign rfl rfl) ?_
  refine ROps.nil ?_
  refine RunC.seq ?_
  obtain ⟨r1, hf1, h⟩ := obind_some h
  refine RunC.regionW ?_
  refine ROps.l (r := AV.sl a0.length (a0.map AV.str)) rfl rfl rfl (LOp.move rfl rfl) ?_
  refine ROps.l (r := AV.i64 1048576) rfl rfl rfl (LOp.move rfl rfl) ?_
  refine ROps.d (r := AV.i64 r1) (fs := []) (Γ' := [⟨0, none⟩, ⟨0, none⟩]) rfl rfl rfl (TOp.callB (CallAs.func ent4 rfl rfl) (Bors.cons (Bor.sl (fun _ => rfl)) (Bors.cons (Bor.pure rfl) Bors.nil)) rfl rfl (w_szStringS_ok a0 1048576 r1 hf1)) rfl ?_
  refine ROps.l (r := AV.i64 r1) rfl rfl rfl (LOp.assign rfl rfl) ?_
  refine ROps.nil ?_
  refine RunC.seq ?_
  refine RunC.seq ?_
  rcases bsel_some h with ⟨hc2, h⟩ | ⟨hc2, h⟩
  · refine RunC.regionW ?_
    refine ROps.l (r := AV.i64 r1) rfl rfl rfl (LOp.move rfl rfl) ?_
    refine ROps.l (r := AV.b true) rfl rfl rfl (LOp.eqb (LOp.lss rfl rfl rfl) hc2) ?_
    refine ROps.nil ?_
    refine RunC.cond_true rfl rfl ?_
    refine RunC.seq ?_
    refine RunC.regionW ?_
    refine ROps.l (r := AV.b true) rfl rfl rfl (LOp.assign rfl rfl) ?_
    refine ROps.nil ?_
    refine RunC.ret ?_
    have hq := Option.some.inj h
    subst q0
    exact bodyQ.pure (.inr rfl) rfl (Res.one rfl (RV.tmp rfl))
  · refine RunC.regionW ?_
    refine ROps.l (r := AV.i64 r1) rfl rfl rfl (LOp.move rfl rfl) ?_
    refine ROps.l (r := AV.b false) rfl rfl rfl (LOp.eqb (LOp.lss rfl rfl rfl) hc2) ?_
    refine ROps.nil ?_
    refine RunC.cond_false rfl rfl ?_
    refine RunC.skip ?_
    refine RunC.seq ?_
    obtain ⟨r2, hf3, h⟩ := obind_some h
    obtain ⟨r3, r4, hf4, h⟩ := obind2_some h
    refine RunC.regionW ?_
    refine ROps.l (r := AV.sl a0.length (a0.map AV.str)) rfl rfl rfl (LOp.move rfl rfl) ?_
    refine ROps.d (r := AV.oref 0 1 0 r2.length) (fs := [(0, (r2.map AV.str))]) (Γ' := [⟨1, some (r2.map AV.str)⟩, ⟨0, none⟩]) rfl rfl rfl (TOp.callBN (ls := [(r2.map AV.str)]) [0] (CallAs.func ent6 rfl rfl) (Bors.cons (Bor.sl (fun _ => rfl)) Bors.nil) rfl (w_toStringS_ok a0 r2 hf3) (and_all (lts0_map (f := AV.str) (fun _ => rfl) _) rfl) (and_all (noss_map (f := AV.str) (fun _ => rfl) _) rfl) rfl (by decide) (ns_of ⟨⟨_, rfl⟩, trivial⟩)) rfl ?_
    refine ROps.d (r := AV.tup [AV.str r3, AV.b r4]) (fs := []) (Γ' := [⟨1, some (r2.map AV.str)⟩, ⟨0, none⟩]) rfl rfl rfl (TOp.callB (CallAs.func ent5 rfl rfl) (Bors.cons (Bor.own (f := AV.str) (fun _ => rfl) rfl rfl) Bors.nil) rfl rfl (s_JournalOf_ok r2 r3 r4 hf4)) rfl ?_
    refine ROps.l (r := AV.tup [AV.str r3, AV.b r4]) rfl rfl rfl (LOp.move rfl rfl) ?_
    refine ROps.l (r := AV.str r3) rfl rfl rfl (LOp.extract rfl rfl rfl) ?_
    refine ROps.l (r := AV.b r4) rfl rfl rfl (LOp.extract rfl rfl rfl) ?_
    refine ROps.l (r := AV.str r3) rfl rfl rfl (LOp.assign rfl rfl) ?_
    refine ROps.l (r := AV.b r4) rfl rfl rfl (LOp.assign rfl rfl) ?_
    refine ROps.nil ?_
    refine RunC.wl (τ' := [(0, AV.sl a0.length (a0.map AV.str)), (4, AV.str r3), (5, AV.b r4)]) (Γ' := [⟨1, none⟩, ⟨0, none⟩]) ⟨(ALe.refl _), (ALe.refl _), (ALe.refl _), trivial⟩ ⟨⟨rfl, .inl rfl⟩, ⟨rfl, .inr rfl⟩, trivial⟩ ?_
    refine RunC.seq ?_
    obtain ⟨r5, hf5, h⟩ := obind_some h
    refine RunC.regionW ?_
    refine ROps.l (r := AV.sl a0.length (a0.map AV.str)) rfl rfl rfl (LOp.move rfl rfl) ?_
    refine ROps.d (r := AV.oref 0 2 0 r5.length) (fs := [(0, (r5.map AV.str))]) (Γ' := [⟨2, some (r5.map AV.str)⟩, ⟨0, none⟩]) rfl rfl rfl (TOp.callBN (ls := [(r5.map AV.str)]) [0] (CallAs.func ent6 rfl rfl) (Bors.cons (Bor.sl (fun _ => rfl)) Bors.nil) rfl (w_toStringS_ok a0 r5 hf5) (and_all (lts0_map (f := AV.str) (fun _ => rfl) _) rfl) (and_all (noss_map (f := AV.str) (fun _ => rfl) _) rfl) rfl (by decide) (ns_of ⟨⟨_, rfl⟩, trivial⟩)) rfl ?_
    refine ROps.l (r := AV.oref 0 2 0 r5.length) rfl rfl rfl (LOp.assign rfl rfl) ?_
    refine ROps.nil ?_
    refine RunC.seq ?_
    obtain ⟨r6, r7, hf6, h⟩ := obind2_some h
    refine RunC.regionW ?_
    refine ROps.l (r := AV.oref 0 2 0 r5.length) rfl rfl rfl (LOp.move rfl rfl) ?_
    refine ROps.d (r := AV.tup [AV.str r6, AV.b r7]) (fs := []) (Γ' := [⟨2, some (r5.map AV.str)⟩, ⟨0, none⟩]) rfl rfl rfl (TOp.callB (CallAs.func ent7 rfl rfl) (Bors.cons (Bor.own (f := AV.str) (fun _ => rfl) rfl rfl) Bors.nil) rfl rfl (i_JournalOf_ok r5 r6 r7 hf6)) rfl ?_
    refine ROps.l (r := AV.tup [AV.str r6, AV.b r7]) rfl rfl rfl (LOp.move rfl rfl) ?_
    refine ROps.l (r := AV.str r6) rfl rfl rfl (LOp.extract rfl rfl rfl) ?_
    refine ROps.l (r := AV.b r7) rfl rfl rfl (LOp.extract rfl rfl rfl) ?_
    refine ROps.l (r := AV.str r6) rfl rfl rfl (LOp.assign rfl rfl) ?_
    refine ROps.l (r := AV.b r7) rfl rfl rfl (LOp.assign rfl rfl) ?_
    refine ROps.nil ?_
    refine RunC.seq ?_
    refine RunC.seq ?_
    rcases bsel_some h with ⟨hc7, h⟩ | ⟨hc7, h⟩
    · refine RunC.regionW ?_
      refine ROps.l (r := AV.str r6) rfl rfl rfl (LOp.move rfl rfl) ?_
      refine ROps.l (r := AV.str r3) rfl rfl rfl (LOp.move rfl rfl) ?_
      refine ROps.l (r := AV.b true) rfl rfl rfl (LOp.eqb (LOp.neqs rfl rfl rfl) hc7) ?_
      refine ROps.l (r := AV.b true) rfl rfl rfl (LOp.move rfl rfl) ?_
      refine ROps.s rfl rfl rfl ?_
      refine ROps.s rfl rfl rfl ?_
      refine ROps.s rfl rfl rfl ?_
      refine ROps.l (r := AV.b true) rfl rfl rfl (LOp.pick_true rfl rfl rfl) ?_
      refine ROps.nil ?_
      refine RunC.wl (τ' := [(0, AV.sl a0.length (a0.map AV.str)), (6, AV.oref 0 2 0 r5.length), (34, AV.b true)]) (Γ' := [⟨2, some (r5.map AV.str)⟩, ⟨0, none⟩]) ⟨(ALe.refl _), (ALe.refl _), (ALe.refl _), trivial⟩ ⟨⟨rfl, .inr rfl⟩, ⟨rfl, .inr rfl⟩, trivial⟩ ?_
      refine RunC.cond_true rfl rfl ?_
      refine RunC.seq ?_
      refine RunC.regionW ?_
      refine ROps.l (r := AV.b false) rfl rfl rfl (LOp.assign rfl rfl) ?_
      refine ROps.nil ?_
      refine RunC.ret ?_
      have hq := Option.some.inj h
      subst q0
      exact bodyQ.pure (.inr rfl) rfl (Res.one rfl (RV.tmp rfl))
    · rcases bsel_some h with ⟨hc8, h⟩ | ⟨hc8, h⟩
      · refine RunC.regionW ?_
        refine ROps.l (r := AV.str r6) rfl rfl rfl (LOp.move rfl rfl) ?_
        refine ROps.l (r := AV.str r3) rfl rfl rfl (LOp.move rfl rfl) ?_
        refine ROps.l (r := AV.b false) rfl rfl rfl (LOp.eqb (LOp.neqs rfl rfl rfl) hc7) ?_
        refine ROps.l (r := AV.b false) rfl rfl rfl (LOp.move rfl rfl) ?_
        refine ROps.l (r := AV.b r7) rfl rfl rfl (LOp.move rfl rfl) ?_
        refine ROps.l (r := AV.b r4) rfl rfl rfl (LOp.move rfl rfl) ?_
        refine ROps.l (r := AV.b true) rfl rfl rfl (LOp.eqb (LOp.neqb pun4 rfl rfl rfl) hc8) ?_
        refine ROps.l (r := AV.b true) rfl rfl rfl (LOp.pick_false rfl rfl rfl) ?_
        refine ROps.nil ?_
        refine RunC.wl (τ' := [(0, AV.sl a0.length (a0.map AV.str)), (6, AV.oref 0 2 0 r5.length), (34, AV.b true)]) (Γ' := [⟨2, some (r5.map AV.str)⟩, ⟨0, none⟩]) ⟨(ALe.refl _), (ALe.refl _), (ALe.refl _), trivial⟩ ⟨⟨rfl, .inr rfl⟩, ⟨rfl, .inr rfl⟩, trivial⟩ ?_
        refine RunC.cond_true rfl rfl ?_
        refine RunC.seq ?_
        refine RunC.regionW ?_
        refine ROps.l (r := AV.b false) rfl rfl rfl (LOp.assign rfl rfl) ?_
        refine ROps.nil ?_
        refine RunC.ret ?_
        have hq := Option.some.inj h
        subst q0
        exact bodyQ.pure (.inr rfl) rfl (Res.one rfl (RV.tmp rfl))
      · refine RunC.regionW ?_
        refine ROps.l (r := AV.str r6) rfl rfl rfl (LOp.move rfl rfl) ?_
        refine ROps.l (r := AV.str r3) rfl rfl rfl (LOp.move rfl rfl) ?_
        refine ROps.l (r := AV.b false) rfl rfl rfl (LOp.eqb (LOp.neqs rfl rfl rfl) hc7) ?_
        refine ROps.l (r := AV.b false) rfl rfl rfl (LOp.move rfl rfl) ?_
        refine ROps.l (r := AV.b r7) rfl rfl rfl (LOp.move rfl rfl) ?_
        refine ROps.l (r := AV.b r4) rfl rfl rfl (LOp.move rfl rfl) ?_
        refine ROps.l (r := AV.b false) rfl rfl rfl (LOp.eqb (LOp.neqb pun4 rfl rfl rfl) hc8) ?_
        refine ROps.l (r := AV.b false) rfl rfl rfl (LOp.pick_false rfl rfl rfl) ?_
        refine ROps.nil ?_
        refine RunC.wl (τ' := [(0, AV.sl a0.length (a0.map AV.str)), (6, AV.oref 0 2 0 r5.length), (34, AV.b false)]) (Γ' := [⟨2, some (r5.map AV.str)⟩, ⟨0, none⟩]) ⟨(ALe.refl _), (ALe.refl _), (ALe.refl _), trivial⟩ ⟨⟨rfl, .inr rfl⟩, ⟨rfl, .inr rfl⟩, trivial⟩ ?_
        refine RunC.cond_false rfl rfl ?_
        refine RunC.skip ?_
        refine RunC.seq ?_
        refine RunC.seq ?_
        obtain ⟨r8, hf9, h⟩ := obind_some h
        obtain ⟨r9, hf10, h⟩ := obind_some h
        rcases bsel_some h with ⟨hc11, h⟩ | ⟨hc11, h⟩
        · refine RunC.regionW ?_
          refine ROps.l (r := AV.oref 0 2 0 r5.length) rfl rfl rfl (LOp.move rfl rfl) ?_
          refine ROps.l (r := AV.sl a0.length (a0.map AV.str)) rfl rfl rfl (LOp.move rfl rfl) ?_
          refine ROps.d (r := AV.oref 1 1 0 r8.length) (fs := [(1, (r8.map AV.str))]) (Γ' := [⟨2, some (r5.map AV.str)⟩, ⟨1, some (r8.map AV.str)⟩]) rfl rfl rfl (TOp.callBN (ls := [(r8.map AV.str)]) [1] (CallAs.func ent6 rfl rfl) (Bors.cons (Bor.sl (fun _ => rfl)) Bors.nil) rfl (w_toStringS_ok a0 r8 hf9) (and_all (lts0_map (f := AV.str) (fun _ => rfl) _) rfl) (and_all (noss_map (f := AV.str) (fun _ => rfl) _) rfl) rfl (by decide) (ns_of ⟨⟨_, rfl⟩, trivial⟩)) rfl ?_
          refine ROps.d (r := AV.b true) (fs := []) (Γ' := [⟨2, some (r5.map AV.str)⟩, ⟨1, some (r8.map AV.str)⟩]) rfl rfl rfl (TOp.eqb (TOp.callB (CallAs.func ent8 rfl rfl) (Bors.cons (Bor.own (f := AV.str) (fun _ => rfl) rfl rfl) (Bors.cons (Bor.own (f := AV.str) (fun _ => rfl) rfl rfl) Bors.nil)) rfl rfl (w_eqStringS_ok r5 r8 r9 hf10)) hc11) rfl ?_
          refine ROps.l (r := AV.b false) rfl rfl rfl (LOp.eqb (LOp.not rfl rfl) rfl) ?_
          refine ROps.nil ?_
          refine RunC.wl (τ' := [(39, AV.b false)]) (Γ' := [⟨2, none⟩, ⟨1, none⟩]) ⟨(ALe.refl _), trivial⟩ ⟨⟨rfl, .inl rfl⟩, ⟨rfl, .inl rfl⟩, trivial⟩ ?_
          refine RunC.cond_false rfl rfl ?_
          refine RunC.skip ?_
          refine RunC.seq ?_
          refine RunC.regionW ?_
          refine ROps.l (r := AV.b true) rfl rfl rfl (LOp.assign rfl rfl) ?_
          refine ROps.nil ?_
          refine RunC.ret ?_
          have hq := Option.some.inj h
          subst q0
          exact bodyQ.pure (.inr rfl) rfl (Res.one rfl (RV.tmp rfl))
        · refine RunC.regionW ?_
          refine ROps.l (r := AV.oref 0 2 0 r5.length) rfl rfl rfl (LOp.move rfl rfl) ?_
          refine ROps.l (r := AV.sl a0.length (a0.map AV.str)) rfl rfl rfl (LOp.move rfl rfl) ?_
          refine ROps.d (r := AV.oref 1 1 0 r8.length) (fs := [(1, (r8.map AV.str))]) (Γ' := [⟨2, some (r5.map AV.str)⟩, ⟨1, some (r8.map AV.str)⟩]) rfl rfl rfl (TOp.callBN (ls := [(r8.map AV.str)]) [1] (CallAs.func ent6 rfl rfl) (Bors.cons (Bor.sl (fun _ => rfl)) Bors.nil) rfl (w_toStringS_ok a0 r8 hf9) (and_all (lts0_map (f := AV.str) (fun _ => rfl) _) rfl) (and_all (noss_map (f := AV.str) (fun _ => rfl) _) rfl) rfl (by decide) (ns_of ⟨⟨_, rfl⟩, trivial⟩)) rfl ?_
          refine ROps.d (r := AV.b false) (fs := []) (Γ' := [⟨2, some (r5.map AV.str)⟩, ⟨1, some (r8.map AV.str)⟩]) rfl rfl rfl (TOp.eqb (TOp.callB (CallAs.func ent8 rfl rfl) (Bors.cons (Bor.own (f := AV.str) (fun _ => rfl) rfl rfl) (Bors.cons (Bor.own (f := AV.str) (fun _ => rfl) rfl rfl) Bors.nil)) rfl rfl (w_eqStringS_ok r5 r8 r9 hf10)) hc11) rfl ?_
          refine ROps.l (r := AV.b true) rfl rfl rfl (LOp.eqb (LOp.not rfl rfl) rfl) ?_
          refine ROps.nil ?_
          refine RunC.wl (τ' := [(39, AV.b true)]) (Γ' := [⟨2, none⟩, ⟨1, none⟩]) ⟨(ALe.refl _), trivial⟩ ⟨⟨rfl, .inl rfl⟩, ⟨rfl, .inl rfl⟩, trivial⟩ ?_
          refine RunC.cond_true rfl rfl ?_
          refine RunC.seq ?_
          refine RunC.regionW ?_
          refine ROps.l (r := AV.b false) rfl rfl rfl (LOp.assign rfl rfl) ?_
          refine ROps.nil ?_
          refine RunC.ret ?_
          have hq := Option.some.inj h
          subst q0
          exact bodyQ.pure (.inr rfl) rfl (Res.one rfl (RV.tmp rfl))
end Go.Proofs.YtbebfcolmdfopaaDoor
