/- Generated. -/
import Derived.Test.YtddegdokdpeboaaDoorTys
namespace Go.Proofs.YtddegdokdpeboaaDoor
open Go Go.AM
set_option maxRecDepth 20000
set_option maxHeartbeats 4000000
set_option linter.unusedVariables false
set_option linter.unusedSimpArgs false
noncomputable def s_l01Cut_k2 (v5 : Int) (L13 : List ByteArray) (v14 : Int) : Option (LR ((List ByteArray) × Int × Int) ((List ByteArray)) ((List ByteArray))) :=
  olet (IntKind.i64.wrap (v5 + 1)) fun (x15 : Int) =>
  some (LR.next (L13, v14, x15))
noncomputable def s_l01Cut_b3 (a0 : ByteArray) (a1 : Int) (L3 : List ByteArray) (v4 : Int) (v5 : Int) : Option (LR ((List ByteArray) × Int × Int) ((List ByteArray)) ((List ByteArray))) :=
  bsel (decide (v5 ≤ (a0.size : Int))) (
    bsel (decide (v5 = (a0.size : Int))) (
      obind (subs? a0 v4 v5) fun (t7 : ByteArray) =>
      need (apok 16 L3.length 1) <|
      olet (IntKind.i64.wrap (v5 + 1)) fun (x8 : Int) =>
      s_l01Cut_k2 v5 (L3 ++ ([t7] : List ByteArray)) x8) (
      obind (sat? a0 v5) fun (e6 : Int) =>
      bsel (decide (e6 = a1)) (
        obind (subs? a0 v4 v5) fun (t9 : ByteArray) =>
        need (apok 16 L3.length 1) <|
        olet (IntKind.i64.wrap (v5 + 1)) fun (x10 : Int) =>
        s_l01Cut_k2 v5 (L3 ++ ([t9] : List ByteArray)) x10) (
        s_l01Cut_k2 v5 L3 v4))) (
    some (LR.out L3))
noncomputable def s_l01Cut_s3 (a0 : ByteArray) (a1 : Int) : ((List ByteArray) × Int × Int) → Option (LR ((List ByteArray) × Int × Int) ((List ByteArray)) ((List ByteArray))) := fun s => s_l01Cut_b3 a0 a1 s.1 s.2.1 s.2.2
noncomputable def s_l01Cut_k3 (L18 : List ByteArray) : Option ((List ByteArray)) :=
  some L18
noncomputable def s_l01Cut (a0 : ByteArray) (a1 : Int) : Option ((List ByteArray)) :=
  obind (loopM (s_l01Cut_s3 a0 a1) (([] : List ByteArray), 0, 0)) fun z => osum z (fun e => s_l01Cut_k3 e) (fun r => some r)
theorem s_l01Cut_ok (a0 : ByteArray) (a1 : Int) (q0 : List ByteArray) (h : s_l01Cut a0 a1 = some q0) : Ev Tryd.prog 65 [AV.str a0, AV.ik .u8 a1] [] (AV.oref 0 0 0 q0.length) [⟨0, some (q0.map AV.str)⟩] := by
  refine Ev.start Tryd.func65 rfl rfl 2 (τ := [(0, AV.str a0), (1, AV.ik .u8 a1)]) rfl (Γ' := [⟨0, none⟩, ⟨0, none⟩]) rfl (n := 73) rfl (g := 0) rfl (fun _ => rfl) ?_
  unfold s_l01Cut at h
  refine RunC.seq ?_
  refine RunC.regionW ?_
  refine ROps.l (r := AV.nilsl) rfl rfl rfl (LOp.assign rfl rfl) ?_
  refine ROps.nil ?_
  refine RunC.seq ?_
  refine RunC.regionW ?_
  refine ROps.d (r := AV.oref 0 1 0 0) (fs := [(0, (([] : List ByteArray).map AV.str))]) (Γ' := [⟨1, some (([] : List ByteArray).map AV.str)⟩, ⟨0, none⟩]) rfl rfl rfl (TOp.buildSlice_o (g := ⟨0, none⟩) (za := AV.str lit_99ba06bc) (qs := []) 0 rfl und35 siz9 zer9 rfl zel9 rfl rfl trivial rfl) rfl ?_
  refine ROps.l (r := AV.oref 0 1 0 0) rfl rfl rfl (LOp.assign rfl rfl) ?_
  refine ROps.nil ?_
  refine RunC.seq ?_
  refine RunC.regionW ?_
  refine ROps.l (r := AV.i64 0) rfl rfl rfl (LOp.assign rfl rfl) ?_
  refine ROps.nil ?_
  refine RunC.seq ?_
  refine RunC.seq ?_
  refine RunC.regionW ?_
  refine ROps.l (r := AV.i64 0) rfl rfl rfl (LOp.assign rfl rfl) ?_
  refine ROps.nil ?_
  obtain ⟨z4, hz_4, h⟩ := obind_some h
  refine RunC.cutN (fun τ Γ => ∃ (L18 : List ByteArray) (u16 : Nat) (u17 : Nat), WeakLe τ [(5, AV.oref 0 u16 0 L18.length)] ∧ DeadLe Γ [⟨u16, some (L18.map AV.str)⟩, ⟨u17, none⟩] ∧ z4 = .inl L18) ?_ ?_
  · refine RunC.block (RunC.loop (RunL.loopM (x := z4) (s_l01Cut_s3 a0 a1) (fun (s : (List ByteArray) × Int × Int) τ Γ => ∃ (u1 : Nat) (u2 : Nat), WeakLe τ [(0, AV.str a0), (1, AV.ik .u8 a1), (5, AV.oref 0 u1 0 s.1.length), (6, AV.i64 s.2.1), (7, AV.i64 s.2.2)] ∧ DeadLe Γ [⟨u1, some (s.1.map AV.str)⟩, ⟨u2, none⟩]) ?_ _ _ _ hz_4 ⟨1, 0, ⟨(ALe.refl _), (ALe.refl _), (ALe.refl _), (ALe.refl _), (ALe.refl _), trivial⟩, ⟨⟨rfl, .inr rfl⟩, ⟨rfl, .inl rfl⟩, trivial⟩⟩))
    rintro ⟨L3, v4, v5⟩ τ4 Γ4 y4_ ⟨u1, u2, hw4, hd4⟩ h4_ ho4 hr4
    refine RunC.wl (τ' := [(0, AV.str a0), (1, AV.ik .u8 a1), (5, AV.oref 0 u1 0 L3.length), (6, AV.i64 v4), (7, AV.i64 v5)]) (Γ' := [⟨u1, some (L3.map AV.str)⟩, ⟨u2, none⟩]) hw4 hd4 ?_
    replace h4_ : s_l01Cut_b3 a0 a1 L3 v4 v5 = some y4_ := h4_
    unfold s_l01Cut_b3 at h4_
    refine RunC.seq ?_
    refine RunC.seq ?_
    rcases bsel_some h4_ with ⟨hc1, h4_⟩ | ⟨hc1, h4_⟩
    · refine RunC.regionW ?_
      refine ROps.l (r := AV.i64 v5) rfl rfl rfl (LOp.move rfl rfl) ?_
      refine ROps.l (r := AV.str a0) rfl rfl rfl (LOp.move rfl rfl) ?_
      refine ROps.l (r := AV.i64 (a0.size : Int)) rfl rfl rfl (LOp.len_str und9 rfl rfl) ?_
      refine ROps.l (r := AV.b true) rfl rfl rfl (LOp.eqb (LOp.leq rfl rfl rfl) hc1) ?_
      refine ROps.nil ?_
      refine RunC.cond_true rfl rfl ?_
      refine RunC.skip ?_
      refine RunC.seq ?_
      refine RunC.cutN (fun τ Γ => ∃ (L13 : List ByteArray) (v14 : Int) (u11 : Nat) (u12 : Nat), WeakLe τ [(0, AV.str a0), (1, AV.ik .u8 a1), (5, AV.oref 0 u11 0 L13.length), (6, AV.i64 v14), (7, AV.i64 v5)] ∧ DeadLe Γ [⟨u11, some (L13.map AV.str)⟩, ⟨u12, none⟩] ∧ s_l01Cut_k2 v5 L13 v14 = some y4_) ?_ ?_
      · refine RunC.block ?_
        refine RunC.seq ?_
        rcases bsel_some h4_ with ⟨hc2, h4_⟩ | ⟨hc2, h4_⟩
        · refine RunC.regionW ?_
          refine ROps.l (r := AV.i64 v5) rfl rfl rfl (LOp.move rfl rfl) ?_
          refine ROps.l (r := AV.str a0) rfl rfl rfl (LOp.move rfl rfl) ?_
          refine ROps.l (r := AV.i64 (a0.size : Int)) rfl rfl rfl (LOp.len_str und9 rfl rfl) ?_
          refine ROps.l (r := AV.b true) rfl rfl rfl (LOp.eqb (LOp.eql rfl rfl rfl) hc2) ?_
          refine ROps.l (r := AV.b true) rfl rfl rfl (LOp.move rfl rfl) ?_
          refine ROps.s rfl rfl rfl ?_
          refine ROps.s rfl rfl rfl ?_
          refine ROps.s rfl rfl rfl ?_
          refine ROps.s rfl rfl rfl ?_
          refine ROps.s rfl rfl rfl ?_
          refine ROps.l (r := AV.b true) rfl rfl rfl (LOp.pick_true rfl rfl rfl) ?_
          refine ROps.nil ?_
          refine RunC.cond_true rfl rfl ?_
          refine RunC.seq ?_
          obtain ⟨t7, hs5, h4_⟩ := obind_some h4_
          obtain ⟨hm6, h4_⟩ := need_some h4_
          refine RunC.regionW ?_
          refine ROps.l (r := AV.oref 0 u1 0 L3.length) rfl rfl rfl (LOp.move rfl rfl) ?_
          refine ROps.l (r := AV.str a0) rfl rfl rfl (LOp.move rfl rfl) ?_
          refine ROps.l (r := AV.i64 v4) rfl rfl rfl (LOp.move rfl rfl) ?_
          refine ROps.l (r := AV.i64 v5) rfl rfl rfl (LOp.move rfl rfl) ?_
          refine ROps.l (r := AV.str t7) rfl rfl rfl (LOp.subs und9 rfl rfl rfl rfl hs5) ?_
          refine ROps.d (r := AV.oref 1 (u2 + 1) 0 1) (fs := [(1, (([t7] : List ByteArray).map AV.str))]) (Γ' := [⟨u1, some (L3.map AV.str)⟩, ⟨(u2 + 1), some (([t7] : List ByteArray).map AV.str)⟩]) rfl rfl rfl (TOp.buildSlice_o (g := ⟨u2, none⟩) (za := AV.str lit_99ba06bc) (qs := [(0, [AV.str t7])]) 1 rfl und35 siz9 zer9 rfl zel9 rfl rfl ⟨rfl, ⟨_, ALe.refl _, rfl⟩, trivial⟩ rfl) rfl ?_
          refine ROps.app (f := AV.str) (xs := L3) (ys := ([t7] : List ByteArray)) (Γ' := [⟨(u1 + 1), some ((L3 ++ ([t7] : List ByteArray)).map AV.str)⟩, ⟨(u2 + 1), some (([t7] : List ByteArray).map AV.str)⟩]) rfl pun35 inf9 rfl rfl rfl rfl rfl rfl rfl rfl rfl (by simp) (ReadAs.own rfl (by simp)) (ones_map (fun _ => rfl)) (ap_by hm6) (ap_mx hm6) rfl ?_
          refine ROps.l (r := AV.oref 0 (u1 + 1) 0 (L3.length + 1)) rfl rfl rfl (LOp.assign rfl rfl) ?_
          refine ROps.nil ?_
          refine RunC.wl (τ' := [(0, AV.str a0), (1, AV.ik .u8 a1), (5, AV.oref 0 (u1 + 1) 0 (L3.length + 1)), (7, AV.i64 v5)]) (Γ' := [⟨(u1 + 1), some ((L3 ++ ([t7] : List ByteArray)).map AV.str)⟩, ⟨(u2 + 1), none⟩]) ⟨(ALe.refl _), (ALe.refl _), (ALe.refl _), (ALe.refl _), trivial⟩ ⟨⟨rfl, .inr rfl⟩, ⟨rfl, .inl rfl⟩, trivial⟩ ?_
          obtain ⟨x8, hx7, h4_⟩ := olet_some h4_
          refine RunC.regionW ?_
          refine ROps.l (r := AV.i64 v5) rfl rfl rfl (LOp.move rfl rfl) ?_
          refine ROps.l (r := AV.i64 x8) rfl rfl rfl (LOp.eqr (LOp.add rfl rfl rfl) (congrArg (AV.ik .i64) hx7)) ?_
          refine ROps.l (r := AV.i64 x8) rfl rfl rfl (LOp.assign rfl rfl) ?_
          refine ROps.nil ?_
          exact ⟨(L3 ++ ([t7] : List ByteArray)), x8, (u1 + 1), (u2 + 1), ⟨(ALe.refl _), (ALe.refl _), (ALe.eq (by rw [(app_len rfl rfl)] <;> rfl)), (ALe.refl _), (ALe.refl _), trivial⟩, ⟨⟨rfl, .inr rfl⟩, ⟨rfl, .inl rfl⟩, trivial⟩, h4_⟩
        · obtain ⟨e6, he3, h4_⟩ := obind_some h4_
          rcases bsel_some h4_ with ⟨hc4, h4_⟩ | ⟨hc4, h4_⟩
          · refine RunC.regionW ?_
            refine ROps.l (r := AV.i64 v5) rfl rfl rfl (LOp.move rfl rfl) ?_
            refine ROps.l (r := AV.str a0) rfl rfl rfl (LOp.move rfl rfl) ?_
            refine ROps.l (r := AV.i64 (a0.size : Int)) rfl rfl rfl (LOp.len_str und9 rfl rfl) ?_
            refine ROps.l (r := AV.b false) rfl rfl rfl (LOp.eqb (LOp.eql rfl rfl rfl) hc2) ?_
            refine ROps.l (r := AV.b false) rfl rfl rfl (LOp.move rfl rfl) ?_
            refine ROps.l (r := AV.str a0) rfl rfl rfl (LOp.move rfl rfl) ?_
            refine ROps.l (r := AV.i64 v5) rfl rfl rfl (LOp.move rfl rfl) ?_
            refine ROps.l (r := AV.ik .u8 e6) rfl rfl rfl (LOp.index_str und9 rfl rfl rfl he3) ?_
            refine ROps.l (r := AV.ik .u8 a1) rfl rfl rfl (LOp.move rfl rfl) ?_
            refine ROps.l (r := AV.b true) rfl rfl rfl (LOp.eqb (LOp.eql rfl rfl rfl) hc4) ?_
            refine ROps.l (r := AV.b true) rfl rfl rfl (LOp.pick_false rfl rfl rfl) ?_
            refine ROps.nil ?_
            refine RunC.cond_true rfl rfl ?_
            refine RunC.seq ?_
            obtain ⟨t9, hs8, h4_⟩ := obind_some h4_
            obtain ⟨hm9, h4_⟩ := need_some h4_
            refine RunC.regionW ?_
            refine ROps.l (r := AV.oref 0 u1 0 L3.length) rfl rfl rfl (LOp.move rfl rfl) ?_
            refine ROps.l (r := AV.str a0) rfl rfl rfl (LOp.move rfl rfl) ?_
            refine ROps.l (r := AV.i64 v4) rfl rfl rfl (LOp.move rfl rfl) ?_
            refine ROps.l (r := AV.i64 v5) rfl rfl rfl (LOp.move rfl rfl) ?_
            refine ROps.l (r := AV.str t9) rfl rfl rfl (LOp.subs und9 rfl rfl rfl rfl hs8) ?_
            refine ROps.d (r := AV.oref 1 (u2 + 1) 0 1) (fs := [(1, (([t9] : List ByteArray).map AV.str))]) (Γ' := [⟨u1, some (L3.map AV.str)⟩, ⟨(u2 + 1), some (([t9] : List ByteArray).map AV.str)⟩]) rfl rfl rfl (TOp.buildSlice_o (g := ⟨u2, none⟩) (za := AV.str lit_99ba06bc) (qs := [(0, [AV.str t9])]) 1 rfl und35 siz9 zer9 rfl zel9 rfl rfl ⟨rfl, ⟨_, ALe.refl _, rfl⟩, trivial⟩ rfl) rfl ?_
            refine ROps.app (f := AV.str) (xs := L3) (ys := ([t9] : List ByteArray)) (Γ' := [⟨(u1 + 1), some ((L3 ++ ([t9] : List ByteArray)).map AV.str)⟩, ⟨(u2 + 1), some (([t9] : List ByteArray).map AV.str)⟩]) rfl pun35 inf9 rfl rfl rfl rfl rfl rfl rfl rfl rfl (by simp) (ReadAs.own rfl (by simp)) (ones_map (fun _ => rfl)) (ap_by hm9) (ap_mx hm9) rfl ?_
            refine ROps.l (r := AV.oref 0 (u1 + 1) 0 (L3.length + 1)) rfl rfl rfl (LOp.assign rfl rfl) ?_
            refine ROps.nil ?_
            refine RunC.wl (τ' := [(0, AV.str a0), (1, AV.ik .u8 a1), (5, AV.oref 0 (u1 + 1) 0 (L3.length + 1)), (7, AV.i64 v5), (20, AV.str a0), (21, AV.i64 v5), (22, AV.ik .u8 e6), (23, AV.ik .u8 a1), (24, AV.b true)]) (Γ' := [⟨(u1 + 1), some ((L3 ++ ([t9] : List ByteArray)).map AV.str)⟩, ⟨(u2 + 1), none⟩]) ⟨(ALe.refl _), (ALe.refl _), (ALe.refl _), (ALe.refl _), (ALe.refl _), (ALe.refl _), (ALe.refl _), (ALe.refl _), (ALe.refl _), trivial⟩ ⟨⟨rfl, .inr rfl⟩, ⟨rfl, .inl rfl⟩, trivial⟩ ?_
            obtain ⟨x10, hx10, h4_⟩ := olet_some h4_
            refine RunC.regionW ?_
            refine ROps.l (r := AV.i64 v5) rfl rfl rfl (LOp.move rfl rfl) ?_
            refine ROps.l (r := AV.i64 x10) rfl rfl rfl (LOp.eqr (LOp.add rfl rfl rfl) (congrArg (AV.ik .i64) hx10)) ?_
            refine ROps.l (r := AV.i64 x10) rfl rfl rfl (LOp.assign rfl rfl) ?_
            refine ROps.nil ?_
            exact ⟨(L3 ++ ([t9] : List ByteArray)), x10, (u1 + 1), (u2 + 1), ⟨(ALe.refl _), (ALe.refl _), (ALe.eq (by rw [(app_len rfl rfl)] <;> rfl)), (ALe.refl _), (ALe.refl _), trivial⟩, ⟨⟨rfl, .inr rfl⟩, ⟨rfl, .inl rfl⟩, trivial⟩, h4_⟩
          · refine RunC.regionW ?_
            refine ROps.l (r := AV.i64 v5) rfl rfl rfl (LOp.move rfl rfl) ?_
            refine ROps.l (r := AV.str a0) rfl rfl rfl (LOp.move rfl rfl) ?_
            refine ROps.l (r := AV.i64 (a0.size : Int)) rfl rfl rfl (LOp.len_str und9 rfl rfl) ?_
            refine ROps.l (r := AV.b false) rfl rfl rfl (LOp.eqb (LOp.eql rfl rfl rfl) hc2) ?_
            refine ROps.l (r := AV.b false) rfl rfl rfl (LOp.move rfl rfl) ?_
            refine ROps.l (r := AV.str a0) rfl rfl rfl (LOp.move rfl rfl) ?_
            refine ROps.l (r := AV.i64 v5) rfl rfl rfl (LOp.move rfl rfl) ?_
            refine ROps.l (r := AV.ik .u8 e6) rfl rfl rfl (LOp.index_str und9 rfl rfl rfl he3) ?_
            refine ROps.l (r := AV.ik .u8 a1) rfl rfl rfl (LOp.move rfl rfl) ?_
            refine ROps.l (r := AV.b false) rfl rfl rfl (LOp.eqb (LOp.eql rfl rfl rfl) hc4) ?_
            refine ROps.l (r := AV.b false) rfl rfl rfl (LOp.pick_false rfl rfl rfl) ?_
            refine ROps.nil ?_
            refine RunC.cond_false rfl rfl ?_
            refine RunC.skip ?_
            exact ⟨L3, v4, u1, u2, ⟨(ALe.refl _), (ALe.refl _), (ALe.refl _), (ALe.refl _), (ALe.refl _), trivial⟩, ⟨⟨rfl, .inr rfl⟩, ⟨rfl, .inl rfl⟩, trivial⟩, h4_⟩
      · rintro τ5 Γ5 ⟨L13, v14, u11, u12, hw5, hd5, h4_⟩
        refine RunC.wl (τ' := [(0, AV.str a0), (1, AV.ik .u8 a1), (5, AV.oref 0 u11 0 L13.length), (6, AV.i64 v14), (7, AV.i64 v5)]) (Γ' := [⟨u11, some (L13.map AV.str)⟩, ⟨u12, none⟩]) hw5 hd5 ?_
        unfold s_l01Cut_k2 at h4_
        obtain ⟨x15, hx11, h4_⟩ := olet_some h4_
        refine RunC.regionW ?_
        refine ROps.l (r := AV.i64 v5) rfl rfl rfl (LOp.move rfl rfl) ?_
        refine ROps.l (r := AV.i64 x15) rfl rfl rfl (LOp.eqr (LOp.add rfl rfl rfl) (congrArg (AV.ik .i64) hx11)) ?_
        refine ROps.l (r := AV.i64 x15) rfl rfl rfl (LOp.assign rfl rfl) ?_
        refine ROps.nil ?_
        cases Option.some.inj h4_
        exact ⟨_, rfl, u11, u12, ⟨(ALe.refl _), (ALe.refl _), (ALe.refl _), (ALe.refl _), (ALe.refl _), trivial⟩, ⟨⟨rfl, .inr rfl⟩, ⟨rfl, .inl rfl⟩, trivial⟩⟩
    · refine RunC.regionW ?_
      refine ROps.l (r := AV.i64 v5) rfl rfl rfl (LOp.move rfl rfl) ?_
      refine ROps.l (r := AV.str a0) rfl rfl rfl (LOp.move rfl rfl) ?_
      refine ROps.l (r := AV.i64 (a0.size : Int)) rfl rfl rfl (LOp.len_str und9 rfl rfl) ?_
      refine ROps.l (r := AV.b false) rfl rfl rfl (LOp.eqb (LOp.leq rfl rfl rfl) hc1) ?_
      refine ROps.nil ?_
      refine RunC.cond_false rfl rfl ?_
      refine RunC.exit ?_
      cases Option.some.inj h4_
      have hx := ho4 _ rfl
      exact ⟨L3, u1, u2, ⟨(ALe.refl _), trivial⟩, ⟨⟨rfl, .inr rfl⟩, ⟨rfl, .inl rfl⟩, trivial⟩, hx⟩
  · rintro τ6 Γ6 ⟨L18, u16, u17, hw6, hd6, rfl⟩
    refine RunC.wl (τ' := [(5, AV.oref 0 u16 0 L18.length)]) (Γ' := [⟨u16, some (L18.map AV.str)⟩, ⟨u17, none⟩]) hw6 hd6 ?_
    replace h : s_l01Cut_k3 L18 = some q0 := h
    unfold s_l01Cut_k3 at h
    refine RunC.seq ?_
    refine RunC.regionW ?_
    refine ROps.l (r := AV.oref 0 u16 0 L18.length) rfl rfl rfl (LOp.move rfl rfl) ?_
    refine ROps.l (r := AV.oref 0 u16 0 L18.length) rfl rfl rfl (LOp.assign rfl rfl) ?_
    refine ROps.nil ?_
    refine RunC.ret ?_
    have hq := Option.some.inj h
    subst q0
    exact bodyQ.mk (r' := AV.oref 0 u16 0 L18.length) [(0, u16)] (.inr rfl) rfl (show List.Nodup [0] from by decide) (by simp [AV.ren, AV.rens, sigma]) rfl (Res.one rfl (RV.tmp rfl)) (SelL.arr0 (f := AV.str) (fun _ => rfl) rfl trivial)
noncomputable def s_l08Lines (a0 : ByteArray) : Option ((List ByteArray) × ByteArray) :=
  obind (s_l01Cut a0 10) fun (r1 : List ByteArray) =>
  olet (IntKind.i64.wrap ((r1.length : Int) - 1)) fun (x2 : Int) =>
  obind (sub? r1 0 x2) fun (l3 : List ByteArray) =>
  olet (IntKind.i64.wrap ((r1.length : Int) - 1)) fun (x4 : Int) =>
  obind (at? r1 x4) fun (e5 : ByteArray) =>
  some (l3, e5)
theorem s_l08Lines_ok (a0 : ByteArray) (q0 : List ByteArray) (q1 : ByteArray) (h : s_l08Lines a0 = some (q0, q1)) : Ev Tryd.prog 35 [AV.str a0] [] (AV.tup [AV.sl q0.length (q0.map AV.str), AV.str q1]) [] := by
  refine Ev.start Tryd.func35 rfl rfl 0 (τ := [(0, AV.str a0)]) rfl (Γ' := []) rfl (n := 37) rfl (g := 0) rfl (fun _ => rfl) ?_
  unfold s_l08Lines at h
  refine RunC.seq ?_
  refine RunC.regionW ?_
  refine ROps.l (r := AV.nilsl) rfl rfl rfl (LOp.assign rfl rfl) ?_
  refine ROps.l (r := AV.str lit_99ba06bc) rfl rfl rfl (LOp.assign rfl rfl) ?_
  refine ROps.nil ?_
  refine RunC.seq ?_
  obtain ⟨r1, hf1, h⟩ := obind_some h
  refine RunC.regionW ?_
  refine ROps.l (r := AV.str a0) rfl rfl rfl (LOp.move rfl rfl) ?_
  refine ROps.d (r := AV.sl r1.length (r1.map AV.str)) (fs := []) (Γ' := []) rfl rfl rfl (TOp.callS (CallAs.func ent65 rfl rfl) (ALes.cons (ALe.refl _) (ALes.cons (ALe.refl _) ALes.nil)) (lts_cons rfl (lts_cons rfl lts_nil)) (lt_sl (fun _ => rfl)) (s_l01Cut_ok a0 10 r1 hf1) (Bor.own (f := AV.str) (fun _ => rfl) rfl rfl)) rfl ?_
  refine ROps.l (r := AV.sl r1.length (r1.map AV.str)) rfl rfl rfl (LOp.assign rfl rfl) ?_
  refine ROps.nil ?_
  refine RunC.seq ?_
  obtain ⟨x2, hx2, h⟩ := olet_some h
  obtain ⟨l3, hs3, h⟩ := obind_some h
  obtain ⟨x4, hx4, h⟩ := olet_some h
  obtain ⟨e5, he5, h⟩ := obind_some h
  refine RunC.region_draw (Γ' := []) 13 mixed 
    (TR.l (r := AV.sl r1.length (r1.map AV.str)) rfl rfl (LOp.move rfl rfl) <|
    (TR.l (r := AV.sl r1.length (r1.map AV.str)) rfl rfl (LOp.move rfl rfl) <|
    (TR.l (r := AV.i64 (r1.length : Int)) rfl rfl (LOp.len_sl und35 rfl rfl) <|
    (TR.l (r := AV.i64 x2) rfl rfl (LOp.eqr (LOp.sub rfl rfl rfl) (congrArg (AV.ik .i64) hx2)) <|
    (TR.l (r := AV.sl l3.length (l3.map AV.str)) rfl rfl (LOp.slice_hi (f := AV.str) und35 siz9 rfl rfl rfl rfl hs3) <|
    (TR.l (r := AV.sl r1.length (r1.map AV.str)) rfl rfl (LOp.move rfl rfl) <|
    (TR.l (r := AV.sl r1.length (r1.map AV.str)) rfl rfl (LOp.move rfl rfl) <|
    (TR.l (r := AV.i64 (r1.length : Int)) rfl rfl (LOp.len_sl und35 rfl rfl) <|
    (TR.l (r := AV.i64 x4) rfl rfl (LOp.eqr (LOp.sub rfl rfl rfl) (congrArg (AV.ik .i64) hx4)) <|
    (TR.l (r := AV.ptr [AV.str e5]) rfl rfl (LOp.le (LOp.ix (f := AV.str) und35 siz9 rfl rfl rfl rfl he5) ALe.ptr) <|
    (TR.l (r := AV.str e5) rfl rfl (LOp.load1 agg9 rfl rfl) <|
    (TR.l (r := AV.sl l3.length (l3.map AV.str)) rfl rfl (LOp.assign rfl rfl) <|
    (TR.l (r := AV.str e5) rfl rfl (LOp.assign rfl rfl) <|
    TR.nil))))))))))))) rfl (by kernel_rfl) rfl fills_nil rfl ?_
  iterate 13 refine ROps.dropS ?_
  refine ROps.drop0 ?_
  refine ROps.nil ?_
  refine RunC.ret ?_
  have hq := Option.some.inj h
  obtain ⟨hq0, hq⟩ := Prod.mk.inj hq
  subst q0
  subst q1
  exact bodyQ.pure (.inr rfl) (lt_tup (lts_cons (lt_sl (fun _ => rfl)) (lts_cons rfl lts_nil))) (Res.two rfl (RV.tmp rfl) (RV.tmp rfl))
noncomputable def s_CountOutputs_k2 (v4 : Int) (v9 : Int) : Option (LR (Int × Int) (Int) (Int × Int × Bool)) :=
  olet (IntKind.i64.wrap (v4 + 1)) fun (x10 : Int) =>
  some (LR.next (v9, x10))
noncomputable def s_CountOutputs_b3 (r1 : List ByteArray) (v3 : Int) (v4 : Int) : Option (LR (Int × Int) (Int) (Int × Int × Bool)) :=
  bsel (decide (v4 < (r1.length : Int))) (
    obind (at? r1 v4) fun (e5 : ByteArray) =>
    bsel (eqs e5 lit_7101a59a) (
      olet (IntKind.i64.wrap (v3 + 1)) fun (x7 : Int) =>
      s_CountOutputs_k2 v4 x7) (
      obind (at? r1 v4) fun (e6 : ByteArray) =>
      bsel (eqs e6 lit_2d360788) (
        olet (IntKind.i64.wrap (v3 + 1)) fun (x8 : Int) =>
        s_CountOutputs_k2 v4 x8) (
        s_CountOutputs_k2 v4 v3))) (
    some (LR.out v3))
noncomputable def s_CountOutputs_s3 (r1 : List ByteArray) : (Int × Int) → Option (LR (Int × Int) (Int) (Int × Int × Bool)) := fun s => s_CountOutputs_b3 r1 s.1 s.2
noncomputable def s_CountOutputs_k3 (r1 : List ByteArray) (v11 : Int) : Option (Int × Int × Bool) :=
  olet (IntKind.i64.wrap ((r1.length : Int) - v11)) fun (x12 : Int) =>
  some (v11, x12, true)
noncomputable def s_CountOutputs (a0 : ByteArray) : Option (Int × Int × Bool) :=
  bsel (decide (16000 < (a0.size : Int))) (
    some (0, 0, false)) (
    obind2 (s_l08Lines a0) fun (r1 : List ByteArray) (r2 : ByteArray) =>
    bsel (!eqs r2 lit_99ba06bc) (
      some (0, 0, false)) (
      obind (loopM (s_CountOutputs_s3 r1) (0, 0)) fun z => osum z (fun e => s_CountOutputs_k3 r1 e) (fun r => some r)))
theorem s_CountOutputs_ok (a0 : ByteArray) (q0 : Int) (q1 : Int) (q2 : Bool) (h : s_CountOutputs a0 = some (q0, q1, q2)) : Ev Tryd.prog 9 [AV.str a0] [] (AV.tup [AV.i64 q0, AV.i64 q1, AV.b q2]) [] := by
  refine Ev.start Tryd.func9 rfl rfl 0 (τ := [(0, AV.str a0)]) rfl (Γ' := []) rfl (n := 89) rfl (g := 0) rfl (fun _ => rfl) ?_
  unfold s_CountOutputs at h
  refine RunC.seq ?_
  refine RunC.regionW ?_
  refine ROps.l (r := AV.i64 0) rfl rfl rfl (LOp.assign rfl rfl) ?_
  refine ROps.l (r := AV.i64 0) rfl rfl rfl (LOp.assign rfl rfl) ?_
  refine ROps.l (r := AV.b false) rfl rfl rfl (LOp.assign rfl rfl) ?_
  refine ROps.nil ?_
  refine RunC.seq ?_
  refine RunC.seq ?_
  rcases bsel_some h with ⟨hc1, h⟩ | ⟨hc1, h⟩
  · refine RunC.regionW ?_
    refine ROps.l (r := AV.str a0) rfl rfl rfl (LOp.move rfl rfl) ?_
    refine ROps.l (r := AV.i64 (a0.size : Int)) rfl rfl rfl (LOp.len_str und9 rfl rfl) ?_
    refine ROps.l (r := AV.b true) rfl rfl rfl (LOp.eqb (LOp.gtr rfl rfl rfl) hc1) ?_
    refine ROps.nil ?_
    refine RunC.cond_true rfl rfl ?_
    refine RunC.seq ?_
    refine RunC.regionW ?_
    refine ROps.l (r := AV.i64 0) rfl rfl rfl (LOp.assign rfl rfl) ?_
    refine ROps.l (r := AV.i64 0) rfl rfl rfl (LOp.assign rfl rfl) ?_
    refine ROps.l (r := AV.b false) rfl rfl rfl (LOp.assign rfl rfl) ?_
    refine ROps.nil ?_
    refine RunC.ret ?_
    have hq := Option.some.inj h
    obtain ⟨hq0, hq⟩ := Prod.mk.inj hq
    obtain ⟨hq1, hq⟩ := Prod.mk.inj hq
    subst q0
    subst q1
    subst q2
    exact bodyQ.pure (.inr rfl) rfl (Res.three rfl (RV.tmp rfl) (RV.tmp rfl) (RV.tmp rfl))
  · refine RunC.regionW ?_
    refine ROps.l (r := AV.str a0) rfl rfl rfl (LOp.move rfl rfl) ?_
    refine ROps.l (r := AV.i64 (a0.size : Int)) rfl rfl rfl (LOp.len_str und9 rfl rfl) ?_
    refine ROps.l (r := AV.b false) rfl rfl rfl (LOp.eqb (LOp.gtr rfl rfl rfl) hc1) ?_
    refine ROps.nil ?_
    refine RunC.cond_false rfl rfl ?_
    refine RunC.skip ?_
    refine RunC.seq ?_
    obtain ⟨r1, r2, hf2, h⟩ := obind2_some h
    refine RunC.regionW ?_
    refine ROps.l (r := AV.str a0) rfl rfl rfl (LOp.move rfl rfl) ?_
    refine ROps.d (r := AV.tup [AV.sl r1.length (r1.map AV.str), AV.str r2]) (fs := []) (Γ' := []) rfl rfl rfl (TOp.call (CallAs.le (CallAs.func ent35 rfl rfl) (ALes.cons (ALe.refl _) ALes.nil)) (lts_cons rfl lts_nil) (lt_tup (lts_cons (lt_sl (fun _ => rfl)) (lts_cons rfl lts_nil))) (s_l08Lines_ok a0 r1 r2 hf2)) rfl ?_
    refine ROps.l (r := AV.tup [AV.sl r1.length (r1.map AV.str), AV.str r2]) rfl rfl rfl (LOp.move rfl rfl) ?_
    refine ROps.l (r := AV.sl r1.length (r1.map AV.str)) rfl rfl rfl (LOp.extract rfl rfl rfl) ?_
    refine ROps.l (r := AV.str r2) rfl rfl rfl (LOp.extract rfl rfl rfl) ?_
    refine ROps.l (r := AV.sl r1.length (r1.map AV.str)) rfl rfl rfl (LOp.assign rfl rfl) ?_
    refine ROps.l (r := AV.str r2) rfl rfl rfl (LOp.assign rfl rfl) ?_
    refine ROps.nil ?_
    refine RunC.seq ?_
    refine RunC.seq ?_
    rcases bsel_some h with ⟨hc3, h⟩ | ⟨hc3, h⟩
    · refine RunC.regionW ?_
      refine ROps.l (r := AV.str r2) rfl rfl rfl (LOp.move rfl rfl) ?_
      refine ROps.l (r := AV.b true) rfl rfl rfl (LOp.eqb (LOp.neqs rfl rfl rfl) hc3) ?_
      refine ROps.nil ?_
      refine RunC.cond_true rfl rfl ?_
      refine RunC.seq ?_
      refine RunC.regionW ?_
      refine ROps.l (r := AV.i64 0) rfl rfl rfl (LOp.assign rfl rfl) ?_
      refine ROps.l (r := AV.i64 0) rfl rfl rfl (LOp.assign rfl rfl) ?_
      refine ROps.l (r := AV.b false) rfl rfl rfl (LOp.assign rfl rfl) ?_
      refine ROps.nil ?_
      refine RunC.ret ?_
      have hq := Option.some.inj h
      obtain ⟨hq0, hq⟩ := Prod.mk.inj hq
      obtain ⟨hq1, hq⟩ := Prod.mk.inj hq
      subst q0
      subst q1
      subst q2
      exact bodyQ.pure (.inr rfl) rfl (Res.three rfl (RV.tmp rfl) (RV.tmp rfl) (RV.tmp rfl))
    · refine RunC.regionW ?_
      refine ROps.l (r := AV.str r2) rfl rfl rfl (LOp.move rfl rfl) ?_
      refine ROps.l (r := AV.b false) rfl rfl rfl (LOp.eqb (LOp.neqs rfl rfl rfl) hc3) ?_
      refine ROps.nil ?_
      refine RunC.cond_false rfl rfl ?_
      refine RunC.skip ?_
      refine RunC.seq ?_
      refine RunC.regionW ?_
      refine ROps.l (r := AV.i64 0) rfl rfl rfl (LOp.assign rfl rfl) ?_
      refine ROps.nil ?_
      refine RunC.seq ?_
      refine RunC.seq ?_
      refine RunC.regionW ?_
      refine ROps.l (r := AV.i64 0) rfl rfl rfl (LOp.assign rfl rfl) ?_
      refine ROps.nil ?_
      obtain ⟨z4, hz_4, h⟩ := obind_some h
      refine RunC.cutN (fun τ Γ => ∃ (v11 : Int), WeakLe τ [(5, AV.sl r1.length (r1.map AV.str)), (7, AV.i64 v11)] ∧ DeadLe Γ [] ∧ z4 = .inl v11) ?_ ?_
      · refine RunC.block (RunC.loop (RunL.loopM (x := z4) (s_CountOutputs_s3 r1) (fun (s : Int × Int) τ Γ => WeakLe τ [(5, AV.sl r1.length (r1.map AV.str)), (7, AV.i64 s.1), (8, AV.i64 s.2)] ∧ DeadLe Γ []) ?_ _ _ _ hz_4 ⟨⟨(ALe.refl _), (ALe.refl _), (ALe.refl _), trivial⟩, trivial⟩))
        rintro ⟨v3, v4⟩ τ4 Γ4 y4_ ⟨hw4, hd4⟩ h4_ ho4 hr4
        refine RunC.wl (τ' := [(5, AV.sl r1.length (r1.map AV.str)), (7, AV.i64 v3), (8, AV.i64 v4)]) (Γ' := []) hw4 hd4 ?_
        replace h4_ : s_CountOutputs_b3 r1 v3 v4 = some y4_ := h4_
        unfold s_CountOutputs_b3 at h4_
        refine RunC.seq ?_
        refine RunC.seq ?_
        rcases bsel_some h4_ with ⟨hc4, h4_⟩ | ⟨hc4, h4_⟩
        · refine RunC.regionW ?_
          refine ROps.l (r := AV.i64 v4) rfl rfl rfl (LOp.move rfl rfl) ?_
          refine ROps.l (r := AV.sl r1.length (r1.map AV.str)) rfl rfl rfl (LOp.move rfl rfl) ?_
          refine ROps.l (r := AV.i64 (r1.length : Int)) rfl rfl rfl (LOp.len_sl und35 rfl rfl) ?_
          refine ROps.l (r := AV.b true) rfl rfl rfl (LOp.eqb (LOp.lss rfl rfl rfl) hc4) ?_
          refine ROps.nil ?_
          refine RunC.cond_true rfl rfl ?_
          refine RunC.skip ?_
          refine RunC.seq ?_
          refine RunC.cutN (fun τ Γ => ∃ (v9 : Int), WeakLe τ [(5, AV.sl r1.length (r1.map AV.str)), (7, AV.i64 v9), (8, AV.i64 v4)] ∧ DeadLe Γ [] ∧ s_CountOutputs_k2 v4 v9 = some y4_) ?_ ?_
          · refine RunC.block ?_
            refine RunC.seq ?_
            obtain ⟨e5, he5, h4_⟩ := obind_some h4_
            rcases bsel_some h4_ with ⟨hc6, h4_⟩ | ⟨hc6, h4_⟩
            · refine RunC.regionW ?_
              refine ROps.l (r := AV.sl r1.length (r1.map AV.str)) rfl rfl rfl (LOp.move rfl rfl) ?_
              refine ROps.l (r := AV.i64 v4) rfl rfl rfl (LOp.move rfl rfl) ?_
              refine ROps.l (r := AV.ptr [AV.str e5]) rfl rfl rfl (LOp.le (LOp.ix (f := AV.str) und35 siz9 rfl rfl rfl rfl he5) ALe.ptr) ?_
              refine ROps.l (r := AV.str e5) rfl rfl rfl (LOp.load1 agg9 rfl rfl) ?_
              refine ROps.l (r := AV.b true) rfl rfl rfl (LOp.eqb (LOp.eqs rfl rfl rfl) hc6) ?_
              refine ROps.l (r := AV.b true) rfl rfl rfl (LOp.move rfl rfl) ?_
              refine ROps.s rfl rfl rfl ?_
              refine ROps.s rfl rfl rfl ?_
              refine ROps.s rfl rfl rfl ?_
              refine ROps.s rfl rfl rfl ?_
              refine ROps.s rfl rfl rfl ?_
              refine ROps.l (r := AV.b true) rfl rfl rfl (LOp.pick_true rfl rfl rfl) ?_
              refine ROps.nil ?_
              refine RunC.cond_true rfl rfl ?_
              obtain ⟨x7, hx9, h4_⟩ := olet_some h4_
              refine RunC.regionW ?_
              refine ROps.l (r := AV.i64 v3) rfl rfl rfl (LOp.move rfl rfl) ?_
              refine ROps.l (r := AV.i64 x7) rfl rfl rfl (LOp.eqr (LOp.add rfl rfl rfl) (congrArg (AV.ik .i64) hx9)) ?_
              refine ROps.l (r := AV.i64 x7) rfl rfl rfl (LOp.assign rfl rfl) ?_
              refine ROps.nil ?_
              exact ⟨x7, ⟨(ALe.refl _), (ALe.refl _), (ALe.refl _), trivial⟩, trivial, h4_⟩
            · obtain ⟨e6, he7, h4_⟩ := obind_some h4_
              rcases bsel_some h4_ with ⟨hc8, h4_⟩ | ⟨hc8, h4_⟩
              · refine RunC.regionW ?_
                refine ROps.l (r := AV.sl r1.length (r1.map AV.str)) rfl rfl rfl (LOp.move rfl rfl) ?_
                refine ROps.l (r := AV.i64 v4) rfl rfl rfl (LOp.move rfl rfl) ?_
                refine ROps.l (r := AV.ptr [AV.str e5]) rfl rfl rfl (LOp.le (LOp.ix (f := AV.str) und35 siz9 rfl rfl rfl rfl he5) ALe.ptr) ?_
                refine ROps.l (r := AV.str e5) rfl rfl rfl (LOp.load1 agg9 rfl rfl) ?_
                refine ROps.l (r := AV.b false) rfl rfl rfl (LOp.eqb (LOp.eqs rfl rfl rfl) hc6) ?_
                refine ROps.l (r := AV.b false) rfl rfl rfl (LOp.move rfl rfl) ?_
                refine ROps.l (r := AV.sl r1.length (r1.map AV.str)) rfl rfl rfl (LOp.move rfl rfl) ?_
                refine ROps.l (r := AV.i64 v4) rfl rfl rfl (LOp.move rfl rfl) ?_
                refine ROps.l (r := AV.ptr [AV.str e6]) rfl rfl rfl (LOp.le (LOp.ix (f := AV.str) und35 siz9 rfl rfl rfl rfl he7) ALe.ptr) ?_
                refine ROps.l (r := AV.str e6) rfl rfl rfl (LOp.load1 agg9 rfl rfl) ?_
                refine ROps.l (r := AV.b true) rfl rfl rfl (LOp.eqb (LOp.eqs rfl rfl rfl) hc8) ?_
                refine ROps.l (r := AV.b true) rfl rfl rfl (LOp.pick_false rfl rfl rfl) ?_
                refine ROps.nil ?_
                refine RunC.cond_true rfl rfl ?_
                obtain ⟨x8, hx10, h4_⟩ := olet_some h4_
                refine RunC.regionW ?_
                refine ROps.l (r := AV.i64 v3) rfl rfl rfl (LOp.move rfl rfl) ?_
                refine ROps.l (r := AV.i64 x8) rfl rfl rfl (LOp.eqr (LOp.add rfl rfl rfl) (congrArg (AV.ik .i64) hx10)) ?_
                refine ROps.l (r := AV.i64 x8) rfl rfl rfl (LOp.assign rfl rfl) ?_
                refine ROps.nil ?_
                exact ⟨x8, ⟨(ALe.refl _), (ALe.refl _), (ALe.refl _), trivial⟩, trivial, h4_⟩
              · refine RunC.regionW ?_
                refine ROps.l (r := AV.sl r1.length (r1.map AV.str)) rfl rfl rfl (LOp.move rfl rfl) ?_
                refine ROps.l (r := AV.i64 v4) rfl rfl rfl (LOp.move rfl rfl) ?_
                refine ROps.l (r := AV.ptr [AV.str e5]) rfl rfl rfl (LOp.le (LOp.ix (f := AV.str) und35 siz9 rfl rfl rfl rfl he5) ALe.ptr) ?_
                refine ROps.l (r := AV.str e5) rfl rfl rfl (LOp.load1 agg9 rfl rfl) ?_
                refine ROps.l (r := AV.b false) rfl rfl rfl (LOp.eqb (LOp.eqs rfl rfl rfl) hc6) ?_
                refine ROps.l (r := AV.b false) rfl rfl rfl (LOp.move rfl rfl) ?_
                refine ROps.l (r := AV.sl r1.length (r1.map AV.str)) rfl rfl rfl (LOp.move rfl rfl) ?_
                refine ROps.l (r := AV.i64 v4) rfl rfl rfl (LOp.move rfl rfl) ?_
                refine ROps.l (r := AV.ptr [AV.str e6]) rfl rfl rfl (LOp.le (LOp.ix (f := AV.str) und35 siz9 rfl rfl rfl rfl he7) ALe.ptr) ?_
                refine ROps.l (r := AV.str e6) rfl rfl rfl (LOp.load1 agg9 rfl rfl) ?_
                refine ROps.l (r := AV.b false) rfl rfl rfl (LOp.eqb (LOp.eqs rfl rfl rfl) hc8) ?_
                refine ROps.l (r := AV.b false) rfl rfl rfl (LOp.pick_false rfl rfl rfl) ?_
                refine ROps.nil ?_
                refine RunC.cond_false rfl rfl ?_
                refine RunC.skip ?_
                exact ⟨v3, ⟨(ALe.refl _), (ALe.refl _), (ALe.refl _), trivial⟩, trivial, h4_⟩
          · rintro τ5 Γ5 ⟨v9, hw5, hd5, h4_⟩
            refine RunC.wl (τ' := [(5, AV.sl r1.length (r1.map AV.str)), (7, AV.i64 v9), (8, AV.i64 v4)]) (Γ' := []) hw5 hd5 ?_
            unfold s_CountOutputs_k2 at h4_
            obtain ⟨x10, hx11, h4_⟩ := olet_some h4_
            refine RunC.regionW ?_
            refine ROps.l (r := AV.i64 v4) rfl rfl rfl (LOp.move rfl rfl) ?_
            refine ROps.l (r := AV.i64 x10) rfl rfl rfl (LOp.eqr (LOp.add rfl rfl rfl) (congrArg (AV.ik .i64) hx11)) ?_
            refine ROps.l (r := AV.i64 x10) rfl rfl rfl (LOp.assign rfl rfl) ?_
            refine ROps.nil ?_
            cases Option.some.inj h4_
            exact ⟨_, rfl, ⟨(ALe.refl _), (ALe.refl _), (ALe.refl _), trivial⟩, trivial⟩
        · refine RunC.regionW ?_
          refine ROps.l (r := AV.i64 v4) rfl rfl rfl (LOp.move rfl rfl) ?_
          refine ROps.l (r := AV.sl r1.length (r1.map AV.str)) rfl rfl rfl (LOp.move rfl rfl) ?_
          refine ROps.l (r := AV.i64 (r1.length : Int)) rfl rfl rfl (LOp.len_sl und35 rfl rfl) ?_
          refine ROps.l (r := AV.b false) rfl rfl rfl (LOp.eqb (LOp.lss rfl rfl rfl) hc4) ?_
          refine ROps.nil ?_
          refine RunC.cond_false rfl rfl ?_
          refine RunC.exit ?_
          cases Option.some.inj h4_
          have hx := ho4 _ rfl
          exact ⟨v3, ⟨(ALe.refl _), (ALe.refl _), trivial⟩, trivial, hx⟩
      · rintro τ6 Γ6 ⟨v11, hw6, hd6, rfl⟩
        refine RunC.wl (τ' := [(5, AV.sl r1.length (r1.map AV.str)), (7, AV.i64 v11)]) (Γ' := []) hw6 hd6 ?_
        replace h : s_CountOutputs_k3 r1 v11 = some (q0, q1, q2) := h
        unfold s_CountOutputs_k3 at h
        refine RunC.seq ?_
        obtain ⟨x12, hx12, h⟩ := olet_some h
        refine RunC.regionW ?_
        refine ROps.l (r := AV.i64 v11) rfl rfl rfl (LOp.move rfl rfl) ?_
        refine ROps.l (r := AV.sl r1.length (r1.map AV.str)) rfl rfl rfl (LOp.move rfl rfl) ?_
        refine ROps.l (r := AV.i64 (r1.length : Int)) rfl rfl rfl (LOp.len_sl und35 rfl rfl) ?_
        refine ROps.l (r := AV.i64 v11) rfl rfl rfl (LOp.move rfl rfl) ?_
        refine ROps.l (r := AV.i64 x12) rfl rfl rfl (LOp.eqr (LOp.sub rfl rfl rfl) (congrArg (AV.ik .i64) hx12)) ?_
        refine ROps.l (r := AV.i64 v11) rfl rfl rfl (LOp.assign rfl rfl) ?_
        refine ROps.l (r := AV.i64 x12) rfl rfl rfl (LOp.assign rfl rfl) ?_
        refine ROps.l (r := AV.b true) rfl rfl rfl (LOp.assign rfl rfl) ?_
        refine ROps.nil ?_
        refine RunC.ret ?_
        have hq := Option.some.inj h
        obtain ⟨hq0, hq⟩ := Prod.mk.inj hq
        obtain ⟨hq1, hq⟩ := Prod.mk.inj hq
        subst q0
        subst q1
        subst q2
        exact bodyQ.pure (.inr rfl) rfl (Res.three rfl (RV.tmp rfl) (RV.tmp rfl) (RV.tmp rfl))
noncomputable def x_internal_stringslite_IndexByte (a0 : ByteArray) (a1 : Int) : Option (Int) :=
  some (idxB a0 a1)
theorem x_internal_stringslite_IndexByte_ok (a0 : ByteArray) (a1 : Int) (q0 : Int) (h : x_internal_stringslite_IndexByte a0 a1 = some q0) : Ev Tryd.prog 110 [AV.str a0, AV.ik .u8 a1] [] (AV.i64 q0) [] := by
  refine Ev.start Tryd.func110 rfl rfl 0 (τ := [(0, AV.str a0), (1, AV.ik .u8 a1)]) rfl (Γ' := []) rfl (n := 17) rfl (g := 0) rfl (fun _ => rfl) ?_
  unfold x_internal_stringslite_IndexByte at h
  refine RunC.seq ?_
  refine RunC.regionW ?_
  refine ROps.l (r := AV.i64 0) rfl rfl rfl (LOp.assign rfl rfl) ?_
  refine ROps.nil ?_
  refine RunC.seq ?_
  refine RunC.regionW ?_
  refine ROps.l (r := AV.str a0) rfl rfl rfl (LOp.move rfl rfl) ?_
  refine ROps.l (r := AV.ik .u8 a1) rfl rfl rfl (LOp.move rfl rfl) ?_
  refine ROps.l (r := AV.i64 (idxB a0 a1)) rfl rfl rfl (LOp.idxB ext130 rfl rfl rfl) ?_
  refine ROps.l (r := AV.i64 (idxB a0 a1)) rfl rfl rfl (LOp.assign rfl rfl) ?_
  refine ROps.nil ?_
  refine RunC.ret ?_
  have hq := Option.some.inj h
  subst q0
  exact bodyQ.pure (.inr rfl) rfl (Res.one rfl (RV.tmp rfl))
noncomputable def x_internal_stringslite_Index (a0 : ByteArray) (a1 : ByteArray) : Option (Int) :=
  bsel (decide ((a1.size : Int) = 0)) (
    some 0) (
    bsel (eqs a1 a0) (
      some 0) (
      bsel (decide ((a1.size : Int) = 1)) (
        obind (sat? a1 0) fun (e1 : Int) =>
        obind (x_internal_stringslite_IndexByte a0 e1) fun (r2 : Int) =>
        some r2) (
        bsel (decide ((a0.size : Int) ≤ (a1.size : Int))) (
          some (-1)) (
          none))))
theorem x_internal_stringslite_Index_ok (a0 : ByteArray) (a1 : ByteArray) (q0 : Int) (h : x_internal_stringslite_Index a0 a1 = some q0) : Ev Tryd.prog 93 [AV.str a0, AV.str a1] [] (AV.i64 q0) [] := by
  refine Ev.start Tryd.func93 rfl rfl 0 (τ := [(0, AV.str a0), (1, AV.str a1)]) rfl (Γ' := []) rfl (n := 287) rfl (g := 0) rfl (fun _ => rfl) ?_
  unfold x_internal_stringslite_Index at h
  refine RunC.seq ?_
  refine RunC.regionW ?_
  refine ROps.l (r := AV.i64 0) rfl rfl rfl (LOp.assign rfl rfl) ?_
  refine ROps.nil ?_
  refine RunC.seq ?_
  refine RunC.regionW ?_
  refine ROps.l (r := AV.str a1) rfl rfl rfl (LOp.move rfl rfl) ?_
  refine ROps.l (r := AV.i64 (a1.size : Int)) rfl rfl rfl (LOp.len_str und9 rfl rfl) ?_
  refine ROps.l (r := AV.i64 (a1.size : Int)) rfl rfl rfl (LOp.assign rfl rfl) ?_
  refine ROps.nil ?_
  refine RunC.seq ?_
  refine RunC.block ?_
  refine RunC.seq ?_
  rcases bsel_some h with ⟨hc1, h⟩ | ⟨hc1, h⟩
  · refine RunC.regionW ?_
    refine ROps.l (r := AV.i64 (a1.size : Int)) rfl rfl rfl (LOp.move rfl rfl) ?_
    refine ROps.l (r := AV.b true) rfl rfl rfl (LOp.eqb (LOp.eql rfl rfl rfl) hc1) ?_
    refine ROps.l (r := AV.b true) rfl rfl rfl (LOp.move rfl rfl) ?_
    refine ROps.s rfl rfl rfl ?_
    refine ROps.s rfl rfl rfl ?_
    refine ROps.s rfl rfl rfl ?_
    refine ROps.l (r := AV.b true) rfl rfl rfl (LOp.pick_true rfl rfl rfl) ?_
    refine ROps.l (r := AV.b true) rfl rfl rfl (LOp.assign rfl rfl) ?_
    refine ROps.nil ?_
    refine RunC.cond_true rfl rfl ?_
    refine RunC.seq ?_
    refine RunC.regionW ?_
    refine ROps.l (r := AV.i64 0) rfl rfl rfl (LOp.assign rfl rfl) ?_
    refine ROps.nil ?_
    refine RunC.ret ?_
    have hq := Option.some.inj h
    subst q0
    exact bodyQ.pure (.inr rfl) rfl (Res.one rfl (RV.tmp rfl))
  · rcases bsel_some h with ⟨hc2, h⟩ | ⟨hc2, h⟩
    · refine RunC.regionW ?_
      refine ROps.l (r := AV.i64 (a1.size : Int)) rfl rfl rfl (LOp.move rfl rfl) ?_
      refine ROps.l (r := AV.b false) rfl rfl rfl (LOp.eqb (LOp.eql rfl rfl rfl) hc1) ?_
      refine ROps.l (r := AV.b false) rfl rfl rfl (LOp.move rfl rfl) ?_
      refine ROps.l (r := AV.str a1) rfl rfl rfl (LOp.move rfl rfl) ?_
      refine ROps.l (r := AV.str a0) rfl rfl rfl (LOp.move rfl rfl) ?_
      refine ROps.l (r := AV.b true) rfl rfl rfl (LOp.eqb (LOp.eqs rfl rfl rfl) hc2) ?_
      refine ROps.l (r := AV.b true) rfl rfl rfl (LOp.pick_false rfl rfl rfl) ?_
      refine ROps.l (r := AV.b true) rfl rfl rfl (LOp.assign rfl rfl) ?_
      refine ROps.nil ?_
      refine RunC.cond_true rfl rfl ?_
      refine RunC.seq ?_
      refine RunC.regionW ?_
      refine ROps.l (r := AV.i64 0) rfl rfl rfl (LOp.assign rfl rfl) ?_
      refine ROps.nil ?_
      refine RunC.ret ?_
      have hq := Option.some.inj h
      subst q0
      exact bodyQ.pure (.inr rfl) rfl (Res.one rfl (RV.tmp rfl))
    · refine RunC.regionW ?_
      refine ROps.l (r := AV.i64 (a1.size : Int)) rfl rfl rfl (LOp.move rfl rfl) ?_
      refine ROps.l (r := AV.b false) rfl rfl rfl (LOp.eqb (LOp.eql rfl rfl rfl) hc1) ?_
      refine ROps.l (r := AV.b false) rfl rfl rfl (LOp.move rfl rfl) ?_
      refine ROps.l (r := AV.str a1) rfl rfl rfl (LOp.move rfl rfl) ?_
      refine ROps.l (r := AV.str a0) rfl rfl rfl (LOp.move rfl rfl) ?_
      refine ROps.l (r := AV.b false) rfl rfl rfl (LOp.eqb (LOp.eqs rfl rfl rfl) hc2) ?_
      refine ROps.l (r := AV.b false) rfl rfl rfl (LOp.pick_false rfl rfl rfl) ?_
      refine ROps.l (r := AV.b false) rfl rfl rfl (LOp.assign rfl rfl) ?_
      refine ROps.nil ?_
      refine RunC.cond_false rfl rfl ?_
      refine RunC.seq ?_
      rcases bsel_some h with ⟨hc3, h⟩ | ⟨hc3, h⟩
      · refine RunC.regionW ?_
        refine ROps.l (r := AV.i64 (a1.size : Int)) rfl rfl rfl (LOp.move rfl rfl) ?_
        refine ROps.l (r := AV.b true) rfl rfl rfl (LOp.eqb (LOp.eql rfl rfl rfl) hc3) ?_
        refine ROps.l (r := AV.b true) rfl rfl rfl (LOp.assign rfl rfl) ?_
        refine ROps.nil ?_
        refine RunC.cond_true rfl rfl ?_
        refine RunC.seq ?_
        obtain ⟨e1, he4, h⟩ := obind_some h
        obtain ⟨r2, hf5, h⟩ := obind_some h
        refine RunC.regionW ?_
        refine ROps.l (r := AV.str a0) rfl rfl rfl (LOp.move rfl rfl) ?_
        refine ROps.l (r := AV.str a1) rfl rfl rfl (LOp.move rfl rfl) ?_
        refine ROps.l (r := AV.ik .u8 e1) rfl rfl rfl (LOp.index_str und9 rfl rfl rfl he4) ?_
        refine ROps.d (r := AV.i64 r2) (fs := []) (Γ' := []) rfl rfl rfl (TOp.callB (CallAs.func ent110 rfl rfl) (Bors.cons (Bor.pure rfl) (Bors.cons (Bor.pure rfl) Bors.nil)) rfl rfl (x_internal_stringslite_IndexByte_ok a0 e1 r2 hf5)) rfl ?_
        refine ROps.l (r := AV.i64 r2) rfl rfl rfl (LOp.assign rfl rfl) ?_
        refine ROps.nil ?_
        refine RunC.ret ?_
        have hq := Option.some.inj h
        subst q0
        exact bodyQ.pure (.inr rfl) rfl (Res.one rfl (RV.tmp rfl))
      · refine RunC.regionW ?_
        refine ROps.l (r := AV.i64 (a1.size : Int)) rfl rfl rfl (LOp.move rfl rfl) ?_
        refine ROps.l (r := AV.b false) rfl rfl rfl (LOp.eqb (LOp.eql rfl rfl rfl) hc3) ?_
        refine ROps.l (r := AV.b false) rfl rfl rfl (LOp.assign rfl rfl) ?_
        refine ROps.nil ?_
        refine RunC.cond_false rfl rfl ?_
        refine RunC.seq ?_
        rcases bsel_some h with ⟨hc6, h⟩ | ⟨hc6, h⟩
        · refine RunC.regionW ?_
          refine ROps.l (r := AV.i64 (a1.size : Int)) rfl rfl rfl (LOp.move rfl rfl) ?_
          refine ROps.l (r := AV.str a0) rfl rfl rfl (LOp.move rfl rfl) ?_
          refine ROps.l (r := AV.i64 (a0.size : Int)) rfl rfl rfl (LOp.len_str und9 rfl rfl) ?_
          refine ROps.l (r := AV.b true) rfl rfl rfl (LOp.eqb (LOp.geq rfl rfl rfl) hc6) ?_
          refine ROps.l (r := AV.b true) rfl rfl rfl (LOp.assign rfl rfl) ?_
          refine ROps.nil ?_
          refine RunC.cond_true rfl rfl ?_
          refine RunC.seq ?_
          refine RunC.regionW ?_
          refine ROps.l (r := AV.i64 (-1)) rfl rfl rfl (LOp.assign rfl rfl) ?_
          refine ROps.nil ?_
          refine RunC.ret ?_
          have hq := Option.some.inj h
          subst q0
          exact bodyQ.pure (.inr rfl) rfl (Res.one rfl (RV.tmp rfl))
        · refine RunC.regionW ?_
          refine ROps.l (r := AV.i64 (a1.size : Int)) rfl rfl rfl (LOp.move rfl rfl) ?_
          refine ROps.l (r := AV.str a0) rfl rfl rfl (LOp.move rfl rfl) ?_
          refine ROps.l (r := AV.i64 (a0.size : Int)) rfl rfl rfl (LOp.len_str und9 rfl rfl) ?_
          refine ROps.l (r := AV.b false) rfl rfl rfl (LOp.eqb (LOp.geq rfl rfl rfl) hc6) ?_
          refine ROps.l (r := AV.b false) rfl rfl rfl (LOp.assign rfl rfl) ?_
          refine ROps.nil ?_
          refine RunC.cond_false rfl rfl ?_
          refine RunC.seq ?_
          cases h
noncomputable def x_strings_Index (a0 : ByteArray) (a1 : ByteArray) : Option (Int) :=
  obind (x_internal_stringslite_Index a0 a1) fun (r1 : Int) =>
  some r1
theorem x_strings_Index_ok (a0 : ByteArray) (a1 : ByteArray) (q0 : Int) (h : x_strings_Index a0 a1 = some q0) : Ev Tryd.prog 76 [AV.str a0, AV.str a1] [] (AV.i64 q0) [] := by
  refine Ev.start Tryd.func76 rfl rfl 0 (τ := [(0, AV.str a0), (1, AV.str a1)]) rfl (Γ' := []) rfl (n := 17) rfl (g := 0) rfl (fun _ => rfl) ?_
  unfold x_strings_Index at h
  refine RunC.seq ?_
  refine RunC.regionW ?_
  refine ROps.l (r := AV.i64 0) rfl rfl rfl (LOp.assign rfl rfl) ?_
  refine ROps.nil ?_
  refine RunC.seq ?_
  obtain ⟨r1, hf1, h⟩ := obind_some h
  refine RunC.regionW ?_
  refine ROps.l (r := AV.str a0) rfl rfl rfl (LOp.move rfl rfl) ?_
  refine ROps.l (r := AV.str a1) rfl rfl rfl (LOp.move rfl rfl) ?_
  refine ROps.d (r := AV.i64 r1) (fs := []) (Γ' := []) rfl rfl rfl (TOp.callB (CallAs.func ent93 rfl rfl) (Bors.cons (Bor.pure rfl) (Bors.cons (Bor.pure rfl) Bors.nil)) rfl rfl (x_internal_stringslite_Index_ok a0 a1 r1 hf1)) rfl ?_
  refine ROps.l (r := AV.i64 r1) rfl rfl rfl (LOp.assign rfl rfl) ?_
  refine ROps.nil ?_
  refine RunC.ret ?_
  have hq := Option.some.inj h
  subst q0
  exact bodyQ.pure (.inr rfl) rfl (Res.one rfl (RV.tmp rfl))
noncomputable def x_strings_Count_b1 (a1 : ByteArray) (s2 : ByteArray) (v3 : Int) : Option (LR (ByteArray × Int) (Unit) (Int)) :=
  obind (x_strings_Index s2 a1) fun (r4 : Int) =>
  bsel (decide (r4 = (-1))) (
    some (LR.ret v3)) (
    olet (IntKind.i64.wrap (v3 + 1)) fun (x5 : Int) =>
    olet (IntKind.i64.wrap (r4 + (a1.size : Int))) fun (x6 : Int) =>
    obind (subs? s2 x6 (s2.size : Int)) fun (t7 : ByteArray) =>
    some (LR.next (t7, x5)))
noncomputable def x_strings_Count_s1 (a1 : ByteArray) : (ByteArray × Int) → Option (LR (ByteArray × Int) (Unit) (Int)) := fun s => x_strings_Count_b1 a1 s.1 s.2
noncomputable def x_strings_Count (a0 : ByteArray) (a1 : ByteArray) : Option (Int) :=
  bsel (decide ((a1.size : Int) = 0)) (
    none) (
    bsel (decide ((a1.size : Int) = 1)) (
      obind (sat? a1 0) fun (e1 : Int) =>
      some (cntB a0 e1)) (
      obind (loopM (x_strings_Count_s1 a1) (a0, 0)) fun z => osum z (fun _ => none) (fun r => some r)))
theorem x_strings_Count_ok (a0 : ByteArray) (a1 : ByteArray) (q0 : Int) (h : x_strings_Count a0 a1 = some q0) : Ev Tryd.prog 102 [AV.str a0, AV.str a1] [] (AV.i64 q0) [] := by
  refine Ev.start Tryd.func102 rfl rfl 0 (τ := [(0, AV.str a0), (1, AV.str a1)]) rfl (Γ' := []) rfl (n := 69) rfl (g := 0) rfl (fun _ => rfl) ?_
  unfold x_strings_Count at h
  refine RunC.seq ?_
  refine RunC.regionW ?_
  refine ROps.l (r := AV.i64 0) rfl rfl rfl (LOp.assign rfl rfl) ?_
  refine ROps.nil ?_
  refine RunC.seq ?_
  refine RunC.seq ?_
  rcases bsel_some h with ⟨hc1, h⟩ | ⟨hc1, h⟩
  · refine RunC.regionW ?_
    refine ROps.l (r := AV.str a1) rfl rfl rfl (LOp.move rfl rfl) ?_
    refine ROps.l (r := AV.i64 (a1.size : Int)) rfl rfl rfl (LOp.len_str und9 rfl rfl) ?_
    refine ROps.l (r := AV.b true) rfl rfl rfl (LOp.eqb (LOp.eql rfl rfl rfl) hc1) ?_
    refine ROps.nil ?_
    refine RunC.cond_true rfl rfl ?_
    refine RunC.seq ?_
    cases h
  · refine RunC.regionW ?_
    refine ROps.l (r := AV.str a1) rfl rfl rfl (LOp.move rfl rfl) ?_
    refine ROps.l (r := AV.i64 (a1.size : Int)) rfl rfl rfl (LOp.len_str und9 rfl rfl) ?_
    refine ROps.l (r := AV.b false) rfl rfl rfl (LOp.eqb (LOp.eql rfl rfl rfl) hc1) ?_
    refine ROps.nil ?_
    refine RunC.cond_false rfl rfl ?_
    refine RunC.skip ?_
    refine RunC.seq ?_
    refine RunC.seq ?_
    rcases bsel_some h with ⟨hc2, h⟩ | ⟨hc2, h⟩
    · refine RunC.regionW ?_
      refine ROps.l (r := AV.str a1) rfl rfl rfl (LOp.move rfl rfl) ?_
      refine ROps.l (r := AV.i64 (a1.size : Int)) rfl rfl rfl (LOp.len_str und9 rfl rfl) ?_
      refine ROps.l (r := AV.b true) rfl rfl rfl (LOp.eqb (LOp.eql rfl rfl rfl) hc2) ?_
      refine ROps.nil ?_
      refine RunC.cond_true rfl rfl ?_
      refine RunC.seq ?_
      obtain ⟨e1, he3, h⟩ := obind_some h
      refine RunC.regionW ?_
      refine ROps.l (r := AV.str a0) rfl rfl rfl (LOp.move rfl rfl) ?_
      refine ROps.l (r := AV.str a1) rfl rfl rfl (LOp.move rfl rfl) ?_
      refine ROps.l (r := AV.ik .u8 e1) rfl rfl rfl (LOp.index_str und9 rfl rfl rfl he3) ?_
      refine ROps.l (r := AV.i64 (cntB a0 e1)) rfl rfl rfl (LOp.cntB ext122 rfl rfl rfl) ?_
      refine ROps.l (r := AV.i64 (cntB a0 e1)) rfl rfl rfl (LOp.assign rfl rfl) ?_
      refine ROps.nil ?_
      refine RunC.ret ?_
      have hq := Option.some.inj h
      subst q0
      exact bodyQ.pure (.inr rfl) rfl (Res.one rfl (RV.tmp rfl))
    · refine RunC.regionW ?_
      refine ROps.l (r := AV.str a1) rfl rfl rfl (LOp.move rfl rfl) ?_
      refine ROps.l (r := AV.i64 (a1.size : Int)) rfl rfl rfl (LOp.len_str und9 rfl rfl) ?_
      refine ROps.l (r := AV.b false) rfl rfl rfl (LOp.eqb (LOp.eql rfl rfl rfl) hc2) ?_
      refine ROps.nil ?_
      refine RunC.cond_false rfl rfl ?_
      refine RunC.skip ?_
      refine RunC.seq ?_
      refine RunC.regionW ?_
      refine ROps.l (r := AV.i64 0) rfl rfl rfl (LOp.assign rfl rfl) ?_
      refine ROps.nil ?_
      obtain ⟨z2, hz_2, h⟩ := obind_some h
      refine RunC.block (RunC.loop (RunL.loopM (x := z2) (x_strings_Count_s1 a1) (fun (s : ByteArray × Int) τ Γ => WeakLe τ [(0, AV.str s.1), (1, AV.str a1), (5, AV.i64 s.2)] ∧ DeadLe Γ []) ?_ _ _ _ hz_2 ⟨⟨(ALe.refl _), (ALe.refl _), (ALe.refl _), trivial⟩, trivial⟩))
      rintro ⟨s2, v3⟩ τ2 Γ2 y2_ ⟨hw2, hd2⟩ h2_ ho2 hr2
      refine RunC.wl (τ' := [(0, AV.str s2), (1, AV.str a1), (5, AV.i64 v3)]) (Γ' := []) hw2 hd2 ?_
      replace h2_ : x_strings_Count_b1 a1 s2 v3 = some y2_ := h2_
      unfold x_strings_Count_b1 at h2_
      refine RunC.block ?_
      refine RunC.seq ?_
      obtain ⟨r4, hf4, h2_⟩ := obind_some h2_
      refine RunC.regionW ?_
      refine ROps.l (r := AV.str s2) rfl rfl rfl (LOp.move rfl rfl) ?_
      refine ROps.l (r := AV.str a1) rfl rfl rfl (LOp.move rfl rfl) ?_
      refine ROps.d (r := AV.i64 r4) (fs := []) (Γ' := []) rfl rfl rfl (TOp.callB (CallAs.func ent76 rfl rfl) (Bors.cons (Bor.pure rfl) (Bors.cons (Bor.pure rfl) Bors.nil)) rfl rfl (x_strings_Index_ok s2 a1 r4 hf4)) rfl ?_
      refine ROps.l (r := AV.i64 r4) rfl rfl rfl (LOp.assign rfl rfl) ?_
      refine ROps.nil ?_
      refine RunC.seq ?_
      refine RunC.seq ?_
      rcases bsel_some h2_ with ⟨hc5, h2_⟩ | ⟨hc5, h2_⟩
      · refine RunC.regionW ?_
        refine ROps.l (r := AV.i64 r4) rfl rfl rfl (LOp.move rfl rfl) ?_
        refine ROps.l (r := AV.b true) rfl rfl rfl (LOp.eqb (LOp.eql rfl rfl rfl) hc5) ?_
        refine ROps.nil ?_
        refine RunC.cond_true rfl rfl ?_
        refine RunC.seq ?_
        refine RunC.regionW ?_
        refine ROps.l (r := AV.i64 v3) rfl rfl rfl (LOp.move rfl rfl) ?_
        refine ROps.l (r := AV.i64 v3) rfl rfl rfl (LOp.assign rfl rfl) ?_
        refine ROps.nil ?_
        refine RunC.ret ?_
        cases Option.some.inj h2_
        have hx3_ := hr2 _ rfl
        subst hx3_
        have hq := Option.some.inj h
        subst q0
        exact bodyQ.pure (.inr rfl) rfl (Res.one rfl (RV.tmp rfl))
      · refine RunC.regionW ?_
        refine ROps.l (r := AV.i64 r4) rfl rfl rfl (LOp.move rfl rfl) ?_
        refine ROps.l (r := AV.b false) rfl rfl rfl (LOp.eqb (LOp.eql rfl rfl rfl) hc5) ?_
        refine ROps.nil ?_
        refine RunC.cond_false rfl rfl ?_
        refine RunC.skip ?_
        refine RunC.seq ?_
        obtain ⟨x5, hx6, h2_⟩ := olet_some h2_
        refine RunC.regionW ?_
        refine ROps.l (r := AV.i64 v3) rfl rfl rfl (LOp.move rfl rfl) ?_
        refine ROps.l (r := AV.i64 x5) rfl rfl rfl (LOp.eqr (LOp.add rfl rfl rfl) (congrArg (AV.ik .i64) hx6)) ?_
        refine ROps.l (r := AV.i64 x5) rfl rfl rfl (LOp.assign rfl rfl) ?_
        refine ROps.nil ?_
        obtain ⟨x6, hx7, h2_⟩ := olet_some h2_
        obtain ⟨t7, hs8, h2_⟩ := obind_some h2_
        refine RunC.regionW ?_
        refine ROps.l (r := AV.str s2) rfl rfl rfl (LOp.move rfl rfl) ?_
        refine ROps.l (r := AV.i64 r4) rfl rfl rfl (LOp.move rfl rfl) ?_
        refine ROps.l (r := AV.str a1) rfl rfl rfl (LOp.move rfl rfl) ?_
        refine ROps.l (r := AV.i64 (a1.size : Int)) rfl rfl rfl (LOp.len_str und9 rfl rfl) ?_
        refine ROps.l (r := AV.i64 x6) rfl rfl rfl (LOp.eqr (LOp.add rfl rfl rfl) (congrArg (AV.ik .i64) hx7)) ?_
        refine ROps.l (r := AV.str t7) rfl rfl rfl (LOp.subs_lo und9 rfl rfl rfl hs8) ?_
        refine ROps.l (r := AV.str t7) rfl rfl rfl (LOp.assign rfl rfl) ?_
        refine ROps.nil ?_
        cases Option.some.inj h2_
        exact ⟨_, rfl, ⟨(ALe.refl _), (ALe.refl _), (ALe.refl _), trivial⟩, trivial⟩
noncomputable def x_strings_genSplit_b2 (a1 : ByteArray) (a2 : Int) (x5 : Int) (L6 : List ByteArray) (s8 : ByteArray) (v9 : Int) : Option (LR ((List ByteArray) × ByteArray × Int) ((List ByteArray) × ByteArray × Int) ((List ByteArray))) :=
  bsel (decide (v9 < x5)) (
    obind (x_strings_Index s8 a1) fun (r10 : Int) =>
    bsel (decide (r10 < 0)) (
      some (LR.out (L6, s8, v9))) (
      olet (IntKind.i64.wrap (r10 + a2)) fun (x11 : Int) =>
      obind (subs? s8 0 x11) fun (t12 : ByteArray) =>
      obind (setAt? L6 v9 t12) fun (L13 : List ByteArray) =>
      olet (IntKind.i64.wrap (r10 + (a1.size : Int))) fun (x14 : Int) =>
      obind (subs? s8 x14 (s8.size : Int)) fun (t15 : ByteArray) =>
      olet (IntKind.i64.wrap (v9 + 1)) fun (x16 : Int) =>
      some (LR.next (L13, t15, x16)))) (
    some (LR.out (L6, s8, v9)))
noncomputable def x_strings_genSplit_s2 (a1 : ByteArray) (a2 : Int) (x5 : Int) : ((List ByteArray) × ByteArray × Int) → Option (LR ((List ByteArray) × ByteArray × Int) ((List ByteArray) × ByteArray × Int) ((List ByteArray))) := fun s => x_strings_genSplit_b2 a1 a2 x5 s.1 s.2.1 s.2.2
noncomputable def x_strings_genSplit_k2 (L17 : List ByteArray) (s19 : ByteArray) (v20 : Int) : Option ((List ByteArray)) :=
  obind (setAt? L17 v20 s19) fun (L21 : List ByteArray) =>
  olet (IntKind.i64.wrap (v20 + 1)) fun (x22 : Int) =>
  obind (sub? L21 0 x22) fun (L23 : List ByteArray) =>
  some L23
noncomputable def x_strings_genSplit_k1 (a0 : ByteArray) (a1 : ByteArray) (a2 : Int) (v3 : Int) : Option ((List ByteArray)) :=
  olet (IntKind.i64.wrap ((a0.size : Int) + 1)) fun (x4 : Int) =>
  need (mkok 16 (imin v3 x4)) <|
  olet (IntKind.i64.wrap ((imin v3 x4) - 1)) fun (x5 : Int) =>
  obind (loopM (x_strings_genSplit_s2 a1 a2 x5) ((List.replicate (imin v3 x4).toNat lit_99ba06bc), a0, 0)) fun z => osum z (fun e => x_strings_genSplit_k2 e.1 e.2.1 e.2.2) (fun r => some r)
noncomputable def x_strings_genSplit (a0 : ByteArray) (a1 : ByteArray) (a2 : Int) (a3 : Int) : Option ((List ByteArray)) :=
  bsel (decide (a3 = 0)) (
    some ([] : List ByteArray)) (
    bsel (eqs a1 lit_99ba06bc) (
      none) (
      bsel (decide (a3 < 0)) (
        obind (x_strings_Count a0 a1) fun (r1 : Int) =>
        olet (IntKind.i64.wrap (r1 + 1)) fun (x2 : Int) =>
        x_strings_genSplit_k1 a0 a1 a2 x2) (
        x_strings_genSplit_k1 a0 a1 a2 a3)))
theorem x_strings_genSplit_ok (a0 : ByteArray) (a1 : ByteArray) (a2 : Int) (a3 : Int) (q0 : List ByteArray) (h : x_strings_genSplit a0 a1 a2 a3 = some q0) : Ev Tryd.prog 86 [AV.str a0, AV.str a1, AV.i64 a2, AV.i64 a3] [] (AV.oref 0 0 0 q0.length) [⟨0, some (q0.map AV.str)⟩] := by
  refine Ev.start Tryd.func86 rfl rfl 1 (τ := [(0, AV.str a0), (1, AV.str a1), (2, AV.i64 a2), (3, AV.i64 a3)]) rfl (Γ' := [⟨0, none⟩]) rfl (n := 133) rfl (g := 0) rfl (fun _ => rfl) ?_
  unfold x_strings_genSplit at h
  refine RunC.seq ?_
  refine RunC.regionW ?_
  refine ROps.l (r := AV.nilsl) rfl rfl rfl (LOp.assign rfl rfl) ?_
  refine ROps.nil ?_
  refine RunC.seq ?_
  refine RunC.seq ?_
  rcases bsel_some h with ⟨hc1, h⟩ | ⟨hc1, h⟩
  · refine RunC.regionW ?_
    refine ROps.l (r := AV.i64 a3) rfl rfl rfl (LOp.move rfl rfl) ?_
    refine ROps.l (r := AV.b true) rfl rfl rfl (LOp.eqb (LOp.eql rfl rfl rfl) hc1) ?_
    refine ROps.nil ?_
    refine RunC.cond_true rfl rfl ?_
    refine RunC.seq ?_
    refine RunC.regionW ?_
    refine ROps.l (r := AV.nilsl) rfl rfl rfl (LOp.assign rfl rfl) ?_
    refine ROps.nil ?_
    refine RunC.nil_slot (Γ' := [⟨1, some (([] : List ByteArray).map AV.str)⟩]) 8 0 rfl rfl rfl ?_
    refine RunC.ret ?_
    have hq := Option.some.inj h
    subst q0
    exact bodyQ.mk (r' := AV.oref 0 1 0 (([] : List ByteArray).length)) [(0, 1)] (.inr rfl) rfl (show List.Nodup [0] from by decide) rfl rfl (Res.eq (Res.one rfl (RV.tmp rfl)) (by rw [(show ([] : List ByteArray).length = 0 from rfl)] <;> rfl)) (SelL.arr0 (f := AV.str) (fun _ => rfl) rfl trivial)
  · refine RunC.regionW ?_
    refine ROps.l (r := AV.i64 a3) rfl rfl rfl (LOp.move rfl rfl) ?_
    refine ROps.l (r := AV.b false) rfl rfl rfl (LOp.eqb (LOp.eql rfl rfl rfl) hc1) ?_
    refine ROps.nil ?_
    refine RunC.cond_false rfl rfl ?_
    refine RunC.skip ?_
    refine RunC.seq ?_
    refine RunC.seq ?_
    rcases bsel_some h with ⟨hc2, h⟩ | ⟨hc2, h⟩
    · refine RunC.regionW ?_
      refine ROps.l (r := AV.str a1) rfl rfl rfl (LOp.move rfl rfl) ?_
      refine ROps.l (r := AV.b true) rfl rfl rfl (LOp.eqb (LOp.eqs rfl rfl rfl) hc2) ?_
      refine ROps.nil ?_
      refine RunC.cond_true rfl rfl ?_
      refine RunC.seq ?_
      cases h
    · refine RunC.regionW ?_
      refine ROps.l (r := AV.str a1) rfl rfl rfl (LOp.move rfl rfl) ?_
      refine ROps.l (r := AV.b false) rfl rfl rfl (LOp.eqb (LOp.eqs rfl rfl rfl) hc2) ?_
      refine ROps.nil ?_
      refine RunC.cond_false rfl rfl ?_
      refine RunC.skip ?_
      refine RunC.seq ?_
      refine RunC.cutN (fun τ Γ => ∃ (v3 : Int), WeakLe τ [(0, AV.str a0), (1, AV.str a1), (2, AV.i64 a2), (3, AV.i64 v3)] ∧ DeadLe Γ [⟨0, none⟩] ∧ x_strings_genSplit_k1 a0 a1 a2 v3 = some q0) ?_ ?_
      · refine RunC.seq ?_
        rcases bsel_some h with ⟨hc3, h⟩ | ⟨hc3, h⟩
        · refine RunC.regionW ?_
          refine ROps.l (r := AV.i64 a3) rfl rfl rfl (LOp.move rfl rfl) ?_
          refine ROps.l (r := AV.b true) rfl rfl rfl (LOp.eqb (LOp.lss rfl rfl rfl) hc3) ?_
          refine ROps.nil ?_
          refine RunC.cond_true rfl rfl ?_
          obtain ⟨r1, hf4, h⟩ := obind_some h
          obtain ⟨x2, hx5, h⟩ := olet_some h
          refine RunC.regionW ?_
          refine ROps.l (r := AV.str a0) rfl rfl rfl (LOp.move rfl rfl) ?_
          refine ROps.l (r := AV.str a1) rfl rfl rfl (LOp.move rfl rfl) ?_
          refine ROps.d (r := AV.i64 r1) (fs := []) (Γ' := [⟨0, none⟩]) rfl rfl rfl (TOp.callB (CallAs.func ent102 rfl rfl) (Bors.cons (Bor.pure rfl) (Bors.cons (Bor.pure rfl) Bors.nil)) rfl rfl (x_strings_Count_ok a0 a1 r1 hf4)) rfl ?_
          refine ROps.l (r := AV.i64 x2) rfl rfl rfl (LOp.eqr (LOp.add rfl rfl rfl) (congrArg (AV.ik .i64) hx5)) ?_
          refine ROps.l (r := AV.i64 x2) rfl rfl rfl (LOp.assign rfl rfl) ?_
          refine ROps.nil ?_
          exact ⟨x2, ⟨(ALe.refl _), (ALe.refl _), (ALe.refl _), (ALe.refl _), trivial⟩, ⟨⟨rfl, .inr rfl⟩, trivial⟩, h⟩
        · refine RunC.regionW ?_
          refine ROps.l (r := AV.i64 a3) rfl rfl rfl (LOp.move rfl rfl) ?_
          refine ROps.l (r := AV.b false) rfl rfl rfl (LOp.eqb (LOp.lss rfl rfl rfl) hc3) ?_
          refine ROps.nil ?_
          refine RunC.cond_false rfl rfl ?_
          refine RunC.skip ?_
          exact ⟨a3, ⟨(ALe.refl _), (ALe.refl _), (ALe.refl _), (ALe.refl _), trivial⟩, ⟨⟨rfl, .inr rfl⟩, trivial⟩, h⟩
      · rintro τ3 Γ3 ⟨v3, hw3, hd3, h⟩
        refine RunC.wl (τ' := [(0, AV.str a0), (1, AV.str a1), (2, AV.i64 a2), (3, AV.i64 v3)]) (Γ' := [⟨0, none⟩]) hw3 hd3 ?_
        unfold x_strings_genSplit_k1 at h
        refine RunC.seq ?_
        obtain ⟨x4, hx6, h⟩ := olet_some h
        refine RunC.regionW ?_
        refine ROps.l (r := AV.i64 v3) rfl rfl rfl (LOp.move rfl rfl) ?_
        refine ROps.l (r := AV.str a0) rfl rfl rfl (LOp.move rfl rfl) ?_
        refine ROps.l (r := AV.i64 (a0.size : Int)) rfl rfl rfl (LOp.len_str und9 rfl rfl) ?_
        refine ROps.l (r := AV.i64 x4) rfl rfl rfl (LOp.eqr (LOp.add rfl rfl rfl) (congrArg (AV.ik .i64) hx6)) ?_
        refine ROps.l (r := AV.i64 (imin v3 x4)) rfl rfl rfl (LOp.min2 rfl rfl rfl) ?_
        refine ROps.l (r := AV.i64 (imin v3 x4)) rfl rfl rfl (LOp.assign rfl rfl) ?_
        refine ROps.nil ?_
        refine RunC.seq ?_
        obtain ⟨hm7, h⟩ := need_some h
        refine RunC.regionW ?_
        refine ROps.l (r := AV.i64 (imin v3 x4)) rfl rfl rfl (LOp.move rfl rfl) ?_
        refine ROps.d (r := AV.oref 0 1 0 ((imin v3 x4).toNat)) (fs := [(0, ((List.replicate (imin v3 x4).toNat lit_99ba06bc).map AV.str))]) (Γ' := [⟨1, some ((List.replicate (imin v3 x4).toNat lit_99ba06bc).map AV.str)⟩]) rfl rfl rfl (TOp.mkS (g := ⟨0, none⟩) (t := 35) (e := 9) (by_ := 16) (f := AV.str) (zv := lit_99ba06bc) 0 rfl und35 tin9 rfl siz9 zer9 rfl zel9 rfl rfl rfl hm7) rfl ?_
        refine ROps.l (r := AV.oref 0 1 0 ((imin v3 x4).toNat)) rfl rfl rfl (LOp.assign rfl rfl) ?_
        refine ROps.nil ?_
        refine RunC.seq ?_
        obtain ⟨x5, hx8, h⟩ := olet_some h
        refine RunC.regionW ?_
        refine ROps.l (r := AV.i64 (imin v3 x4)) rfl rfl rfl (LOp.move rfl rfl) ?_
        refine ROps.l (r := AV.i64 x5) rfl rfl rfl (LOp.eqr (LOp.sub rfl rfl rfl) (congrArg (AV.ik .i64) hx8)) ?_
        refine ROps.l (r := AV.i64 x5) rfl rfl rfl (LOp.assign rfl rfl) ?_
        refine ROps.nil ?_
        refine RunC.seq ?_
        refine RunC.regionW ?_
        refine ROps.l (r := AV.i64 0) rfl rfl rfl (LOp.assign rfl rfl) ?_
        refine ROps.nil ?_
        refine RunC.seq ?_
        obtain ⟨z4, hz_4, h⟩ := obind_some h
        refine RunC.cutN (fun τ Γ => ∃ (L17 : List ByteArray) (s19 : ByteArray) (v20 : Int), L17.length = (imin v3 x4).toNat ∧ WeakLe τ [(0, AV.str s19), (9, AV.oref 0 1 0 ((imin v3 x4).toNat)), (10, AV.i64 v20)] ∧ DeadLe Γ [⟨1, some (L17.map AV.str)⟩] ∧ z4 = .inl (L17, s19, v20)) ?_ ?_
        · refine RunC.block (RunC.loop (RunL.loopM (x := z4) (x_strings_genSplit_s2 a1 a2 x5) (fun (s : (List ByteArray) × ByteArray × Int) τ Γ => s.1.length = (imin v3 x4).toNat ∧ WeakLe τ [(0, AV.str s.2.1), (1, AV.str a1), (2, AV.i64 a2), (3, AV.i64 x5), (9, AV.oref 0 1 0 ((imin v3 x4).toNat)), (10, AV.i64 s.2.2)] ∧ DeadLe Γ [⟨1, some (s.1.map AV.str)⟩]) ?_ _ _ _ hz_4 ⟨List.length_replicate, ⟨(ALe.refl _), (ALe.refl _), (ALe.refl _), (ALe.refl _), (ALe.refl _), (ALe.refl _), trivial⟩, ⟨⟨rfl, .inr rfl⟩, trivial⟩⟩))
          rintro ⟨L6, s8, v9⟩ τ4 Γ4 y4_ ⟨hl7, hw4, hd4⟩ h4_ ho4 hr4
          refine RunC.wl (τ' := [(0, AV.str s8), (1, AV.str a1), (2, AV.i64 a2), (3, AV.i64 x5), (9, AV.oref 0 1 0 ((imin v3 x4).toNat)), (10, AV.i64 v9)]) (Γ' := [⟨1, some (L6.map AV.str)⟩]) hw4 hd4 ?_
          replace hl7 : L6.length = (imin v3 x4).toNat := hl7
          replace h4_ : x_strings_genSplit_b2 a1 a2 x5 L6 s8 v9 = some y4_ := h4_
          unfold x_strings_genSplit_b2 at h4_
          refine RunC.seq ?_
          refine RunC.seq ?_
          rcases bsel_some h4_ with ⟨hc9, h4_⟩ | ⟨hc9, h4_⟩
          · refine RunC.regionW ?_
            refine ROps.l (r := AV.i64 v9) rfl rfl rfl (LOp.move rfl rfl) ?_
            refine ROps.l (r := AV.i64 x5) rfl rfl rfl (LOp.move rfl rfl) ?_
            refine ROps.l (r := AV.b true) rfl rfl rfl (LOp.eqb (LOp.lss rfl rfl rfl) hc9) ?_
            refine ROps.nil ?_
            refine RunC.cond_true rfl rfl ?_
            refine RunC.skip ?_
            refine RunC.block ?_
            refine RunC.seq ?_
            obtain ⟨r10, hf10, h4_⟩ := obind_some h4_
            refine RunC.regionW ?_
            refine ROps.l (r := AV.str s8) rfl rfl rfl (LOp.move rfl rfl) ?_
            refine ROps.l (r := AV.str a1) rfl rfl rfl (LOp.move rfl rfl) ?_
            refine ROps.d (r := AV.i64 r10) (fs := []) (Γ' := [⟨1, some (L6.map AV.str)⟩]) rfl rfl rfl (TOp.callB (CallAs.func ent76 rfl rfl) (Bors.cons (Bor.pure rfl) (Bors.cons (Bor.pure rfl) Bors.nil)) rfl rfl (x_strings_Index_ok s8 a1 r10 hf10)) rfl ?_
            refine ROps.l (r := AV.i64 r10) rfl rfl rfl (LOp.assign rfl rfl) ?_
            refine ROps.nil ?_
            refine RunC.seq ?_
            refine RunC.seq ?_
            rcases bsel_some h4_ with ⟨hc11, h4_⟩ | ⟨hc11, h4_⟩
            · refine RunC.regionW ?_
              refine ROps.l (r := AV.i64 r10) rfl rfl rfl (LOp.move rfl rfl) ?_
              refine ROps.l (r := AV.b true) rfl rfl rfl (LOp.eqb (LOp.lss rfl rfl rfl) hc11) ?_
              refine ROps.nil ?_
              refine RunC.cond_true rfl rfl ?_
              refine RunC.exit ?_
              cases Option.some.inj h4_
              have hx := ho4 _ rfl
              exact ⟨L6, s8, v9, hl7, ⟨(ALe.refl _), (ALe.refl _), (ALe.refl _), trivial⟩, ⟨⟨rfl, .inr rfl⟩, trivial⟩, hx⟩
            · refine RunC.regionW ?_
              refine ROps.l (r := AV.i64 r10) rfl rfl rfl (LOp.move rfl rfl) ?_
              refine ROps.l (r := AV.b false) rfl rfl rfl (LOp.eqb (LOp.lss rfl rfl rfl) hc11) ?_
              refine ROps.nil ?_
              refine RunC.cond_false rfl rfl ?_
              refine RunC.skip ?_
              refine RunC.seq ?_
              obtain ⟨x11, hx12, h4_⟩ := olet_some h4_
              obtain ⟨t12, hs13, h4_⟩ := obind_some h4_
              obtain ⟨L13, he14, h4_⟩ := obind_some h4_
              refine RunC.regionW ?_
              refine ROps.l (r := AV.oref 0 1 0 ((imin v3 x4).toNat)) rfl rfl rfl (LOp.move rfl rfl) ?_
              refine ROps.l (r := AV.i64 v9) rfl rfl rfl (LOp.move rfl rfl) ?_
              refine ROps.l (r := AV.str s8) rfl rfl rfl (LOp.move rfl rfl) ?_
              refine ROps.l (r := AV.i64 r10) rfl rfl rfl (LOp.move rfl rfl) ?_
              refine ROps.l (r := AV.i64 a2) rfl rfl rfl (LOp.move rfl rfl) ?_
              refine ROps.l (r := AV.i64 x11) rfl rfl rfl (LOp.eqr (LOp.add rfl rfl rfl) (congrArg (AV.ik .i64) hx12)) ?_
              refine ROps.l (r := AV.str t12) rfl rfl rfl (LOp.subs_hi und9 rfl rfl rfl hs13) ?_
              refine ROps.d (r := AV.optr 0 1 v9.toNat) (fs := []) (Γ' := [⟨1, some (L6.map AV.str)⟩]) rfl rfl rfl (TOp.ixo und35 siz9 rfl rfl rfl (set_in he14 hl7) rfl) rfl ?_
              refine ROps.st (f := AV.str) (i := v9) (Γ' := [⟨1, some (L13.map AV.str)⟩]) rfl siz9 rfl rfl rfl (ALe.refl _) rfl rfl rfl he14 rfl ?_
              refine ROps.nil ?_
              refine RunC.wl (τ' := [(0, AV.str s8), (1, AV.str a1), (2, AV.i64 a2), (3, AV.i64 x5), (9, AV.oref 0 1 0 ((imin v3 x4).toNat)), (10, AV.i64 v9), (11, AV.i64 r10)]) (Γ' := [⟨1, some (L13.map AV.str)⟩]) ⟨(ALe.refl _), (ALe.refl _), (ALe.refl _), (ALe.refl _), (ALe.refl _), (ALe.refl _), (ALe.refl _), trivial⟩ ⟨⟨rfl, .inr rfl⟩, trivial⟩ ?_
              refine RunC.seq ?_
              obtain ⟨x14, hx15, h4_⟩ := olet_some h4_
              obtain ⟨t15, hs16, h4_⟩ := obind_some h4_
              refine RunC.regionW ?_
              refine ROps.l (r := AV.str s8) rfl rfl rfl (LOp.move rfl rfl) ?_
              refine ROps.l (r := AV.i64 r10) rfl rfl rfl (LOp.move rfl rfl) ?_
              refine ROps.l (r := AV.str a1) rfl rfl rfl (LOp.move rfl rfl) ?_
              refine ROps.l (r := AV.i64 (a1.size : Int)) rfl rfl rfl (LOp.len_str und9 rfl rfl) ?_
              refine ROps.l (r := AV.i64 x14) rfl rfl rfl (LOp.eqr (LOp.add rfl rfl rfl) (congrArg (AV.ik .i64) hx15)) ?_
              refine ROps.l (r := AV.str t15) rfl rfl rfl (LOp.subs_lo und9 rfl rfl rfl hs16) ?_
              refine ROps.l (r := AV.str t15) rfl rfl rfl (LOp.assign rfl rfl) ?_
              refine ROps.nil ?_
              obtain ⟨x16, hx17, h4_⟩ := olet_some h4_
              refine RunC.regionW ?_
              refine ROps.l (r := AV.i64 v9) rfl rfl rfl (LOp.move rfl rfl) ?_
              refine ROps.l (r := AV.i64 x16) rfl rfl rfl (LOp.eqr (LOp.add rfl rfl rfl) (congrArg (AV.ik .i64) hx17)) ?_
              refine ROps.l (r := AV.i64 x16) rfl rfl rfl (LOp.assign rfl rfl) ?_
              refine ROps.nil ?_
              cases Option.some.inj h4_
              exact ⟨_, rfl, ((setAt?_len he14).trans hl7), ⟨(ALe.refl _), (ALe.refl _), (ALe.refl _), (ALe.refl _), (ALe.refl _), (ALe.refl _), trivial⟩, ⟨⟨rfl, .inr rfl⟩, trivial⟩⟩
          · refine RunC.regionW ?_
            refine ROps.l (r := AV.i64 v9) rfl rfl rfl (LOp.move rfl rfl) ?_
            refine ROps.l (r := AV.i64 x5) rfl rfl rfl (LOp.move rfl rfl) ?_
            refine ROps.l (r := AV.b false) rfl rfl rfl (LOp.eqb (LOp.lss rfl rfl rfl) hc9) ?_
            refine ROps.nil ?_
            refine RunC.cond_false rfl rfl ?_
            refine RunC.exit ?_
            cases Option.some.inj h4_
            have hx := ho4 _ rfl
            exact ⟨L6, s8, v9, hl7, ⟨(ALe.refl _), (ALe.refl _), (ALe.refl _), trivial⟩, ⟨⟨rfl, .inr rfl⟩, trivial⟩, hx⟩
        · rintro τ5 Γ5 ⟨L17, s19, v20, hl18, hw5, hd5, rfl⟩
          refine RunC.wl (τ' := [(0, AV.str s19), (9, AV.oref 0 1 0 ((imin v3 x4).toNat)), (10, AV.i64 v20)]) (Γ' := [⟨1, some (L17.map AV.str)⟩]) hw5 hd5 ?_
          replace h : x_strings_genSplit_k2 L17 s19 v20 = some q0 := h
          unfold x_strings_genSplit_k2 at h
          refine RunC.seq ?_
          obtain ⟨L21, he18, h⟩ := obind_some h
          refine RunC.regionW ?_
          refine ROps.l (r := AV.oref 0 1 0 ((imin v3 x4).toNat)) rfl rfl rfl (LOp.move rfl rfl) ?_
          refine ROps.l (r := AV.i64 v20) rfl rfl rfl (LOp.move rfl rfl) ?_
          refine ROps.l (r := AV.str s19) rfl rfl rfl (LOp.move rfl rfl) ?_
          refine ROps.d (r := AV.optr 0 1 v20.toNat) (fs := []) (Γ' := [⟨1, some (L17.map AV.str)⟩]) rfl rfl rfl (TOp.ixo und35 siz9 rfl rfl rfl (set_in he18 hl18) rfl) rfl ?_
          refine ROps.st (f := AV.str) (i := v20) (Γ' := [⟨1, some (L21.map AV.str)⟩]) rfl siz9 rfl rfl rfl (ALe.refl _) rfl rfl rfl he18 rfl ?_
          refine ROps.nil ?_
          refine RunC.seq ?_
          obtain ⟨x22, hx19, h⟩ := olet_some h
          obtain ⟨L23, hs20, h⟩ := obind_some h
          refine RunC.regionW ?_
          refine ROps.l (r := AV.oref 0 1 0 ((imin v3 x4).toNat)) rfl rfl rfl (LOp.move rfl rfl) ?_
          refine ROps.l (r := AV.i64 v20) rfl rfl rfl (LOp.move rfl rfl) ?_
          refine ROps.l (r := AV.i64 x22) rfl rfl rfl (LOp.eqr (LOp.add rfl rfl rfl) (congrArg (AV.ik .i64) hx19)) ?_
          refine ROps.slice_hi_o (f := AV.str) (Γ' := [⟨1, some (L23.map AV.str)⟩]) rfl und35 siz9 rfl rfl rfl rfl rfl ((setAt?_len he18).trans hl18) hs20 rfl rfl ?_
          refine ROps.l (r := AV.oref 0 1 0 L23.length) rfl rfl rfl (LOp.assign rfl rfl) ?_
          refine ROps.nil ?_
          refine RunC.ret ?_
          have hq := Option.some.inj h
          subst q0
          exact bodyQ.mk (r' := AV.oref 0 1 0 L23.length) [(0, 1)] (.inr rfl) rfl (show List.Nodup [0] from by decide) rfl rfl (Res.one rfl (RV.tmp rfl)) (SelL.arr0 (f := AV.str) (fun _ => rfl) rfl trivial)
noncomputable def x_strings_Split (a0 : ByteArray) (a1 : ByteArray) : Option ((List ByteArray)) :=
  obind (x_strings_genSplit a0 a1 0 (-1)) fun (r1 : List ByteArray) =>
  some r1
theorem x_strings_Split_ok (a0 : ByteArray) (a1 : ByteArray) (q0 : List ByteArray) (h : x_strings_Split a0 a1 = some q0) : Ev Tryd.prog 66 [AV.str a0, AV.str a1] [] (AV.oref 0 0 0 q0.length) [⟨0, some (q0.map AV.str)⟩] := by
  refine Ev.start Tryd.func66 rfl rfl 1 (τ := [(0, AV.str a0), (1, AV.str a1)]) rfl (Γ' := [⟨0, none⟩]) rfl (n := 17) rfl (g := 0) rfl (fun _ => rfl) ?_
  unfold x_strings_Split at h
  refine RunC.seq ?_
  refine RunC.regionW ?_
  refine ROps.l (r := AV.nilsl) rfl rfl rfl (LOp.assign rfl rfl) ?_
  refine ROps.nil ?_
  refine RunC.seq ?_
  obtain ⟨r1, hf1, h⟩ := obind_some h
  refine RunC.regionW ?_
  refine ROps.l (r := AV.str a0) rfl rfl rfl (LOp.move rfl rfl) ?_
  refine ROps.l (r := AV.str a1) rfl rfl rfl (LOp.move rfl rfl) ?_
  refine ROps.d (r := AV.oref 0 1 0 r1.length) (fs := [(0, (r1.map AV.str))]) (Γ' := [⟨1, some (r1.map AV.str)⟩]) rfl rfl rfl (TOp.callBN (ls := [(r1.map AV.str)]) [0] (CallAs.func ent86 rfl rfl) (Bors.cons (Bor.pure rfl) (Bors.cons (Bor.pure rfl) (Bors.cons (Bor.pure rfl) (Bors.cons (Bor.pure rfl) Bors.nil)))) rfl (x_strings_genSplit_ok a0 a1 0 (-1) r1 hf1) (and_all (lts0_map (f := AV.str) (fun _ => rfl) _) rfl) (and_all (noss_map (f := AV.str) (fun _ => rfl) _) rfl) rfl (by decide) (ns_of ⟨⟨_, rfl⟩, trivial⟩)) rfl ?_
  refine ROps.l (r := AV.oref 0 1 0 r1.length) rfl rfl rfl (LOp.assign rfl rfl) ?_
  refine ROps.nil ?_
  refine RunC.ret ?_
  have hq := Option.some.inj h
  subst q0
  exact bodyQ.mk (r' := AV.oref 0 1 0 r1.length) [(0, 1)] (.inr rfl) rfl (show List.Nodup [0] from by decide) rfl rfl (Res.one rfl (RV.tmp rfl)) (SelL.arr0 (f := AV.str) (fun _ => rfl) rfl trivial)
noncomputable def i_linesOf (a0 : ByteArray) : Option ((List ByteArray) × Bool) :=
  obind (x_strings_Split a0 lit_e4a5378b) fun (r1 : List ByteArray) =>
  olet (IntKind.i64.wrap ((r1.length : Int) - 1)) fun (x2 : Int) =>
  obind (sub? r1 0 x2) fun (l3 : List ByteArray) =>
  bsel (decide ((a0.size : Int) ≤ 16000)) (
    obind (at? r1 x2) fun (e4 : ByteArray) =>
    some (l3, (eqs e4 lit_99ba06bc))) (
    some (l3, false))
theorem i_linesOf_ok (a0 : ByteArray) (q0 : List ByteArray) (q1 : Bool) (h : i_linesOf a0 = some (q0, q1)) : Ev Tryd.prog 36 [AV.str a0] [] (AV.tup [AV.sl q0.length (q0.map AV.str), AV.b q1]) [] := by
  refine Ev.start Tryd.func36 rfl rfl 0 (τ := [(0, AV.str a0)]) rfl (Γ' := []) rfl (n := 49) rfl (g := 0) rfl (fun _ => rfl) ?_
  unfold i_linesOf at h
  refine RunC.seq ?_
  refine RunC.regionW ?_
  refine ROps.l (r := AV.nilsl) rfl rfl rfl (LOp.assign rfl rfl) ?_
  refine ROps.l (r := AV.b false) rfl rfl rfl (LOp.assign rfl rfl) ?_
  refine ROps.nil ?_
  refine RunC.seq ?_
  obtain ⟨r1, hf1, h⟩ := obind_some h
  refine RunC.regionW ?_
  refine ROps.l (r := AV.str a0) rfl rfl rfl (LOp.move rfl rfl) ?_
  refine ROps.d (r := AV.sl r1.length (r1.map AV.str)) (fs := []) (Γ' := []) rfl rfl rfl (TOp.callS (CallAs.func ent66 rfl rfl) (ALes.cons (ALe.refl _) (ALes.cons (ALe.refl _) ALes.nil)) (lts_cons rfl (lts_cons rfl lts_nil)) (lt_sl (fun _ => rfl)) (x_strings_Split_ok a0 lit_e4a5378b r1 hf1) (Bor.own (f := AV.str) (fun _ => rfl) rfl rfl)) rfl ?_
  refine ROps.l (r := AV.sl r1.length (r1.map AV.str)) rfl rfl rfl (LOp.assign rfl rfl) ?_
  refine ROps.nil ?_
  refine RunC.seq ?_
  obtain ⟨x2, hx2, h⟩ := olet_some h
  refine RunC.regionW ?_
  refine ROps.l (r := AV.sl r1.length (r1.map AV.str)) rfl rfl rfl (LOp.move rfl rfl) ?_
  refine ROps.l (r := AV.i64 (r1.length : Int)) rfl rfl rfl (LOp.len_sl und35 rfl rfl) ?_
  refine ROps.l (r := AV.i64 x2) rfl rfl rfl (LOp.eqr (LOp.sub rfl rfl rfl) (congrArg (AV.ik .i64) hx2)) ?_
  refine ROps.l (r := AV.i64 x2) rfl rfl rfl (LOp.assign rfl rfl) ?_
  refine ROps.nil ?_
  refine RunC.seq ?_
  obtain ⟨l3, hs3, h⟩ := obind_some h
  rcases bsel_some h with ⟨hc4, h⟩ | ⟨hc4, h⟩
  · obtain ⟨e4, he5, h⟩ := obind_some h
    refine RunC.region_draw (Γ' := []) 15 mixed 
      (TR.l (r := AV.sl r1.length (r1.map AV.str)) rfl rfl (LOp.move rfl rfl) <|
      (TR.l (r := AV.i64 x2) rfl rfl (LOp.move rfl rfl) <|
      (TR.l (r := AV.sl l3.length (l3.map AV.str)) rfl rfl (LOp.slice_hi (f := AV.str) und35 siz9 rfl rfl rfl rfl hs3) <|
      (TR.l (r := AV.str a0) rfl rfl (LOp.move rfl rfl) <|
      (TR.l (r := AV.i64 (a0.size : Int)) rfl rfl (LOp.len_str und9 rfl rfl) <|
      (TR.l (r := AV.b true) rfl rfl (LOp.eqb (LOp.leq rfl rfl rfl) hc4) <|
      (TR.l (r := AV.b true) rfl rfl (LOp.move rfl rfl) <|
      (TR.l (r := AV.sl r1.length (r1.map AV.str)) rfl rfl (LOp.move rfl rfl) <|
      (TR.l (r := AV.i64 x2) rfl rfl (LOp.move rfl rfl) <|
      (TR.l (r := AV.ptr [AV.str e4]) rfl rfl (LOp.le (LOp.ix (f := AV.str) und35 siz9 rfl rfl rfl rfl he5) ALe.ptr) <|
      (TR.l (r := AV.str e4) rfl rfl (LOp.load1 agg9 rfl rfl) <|
      (TR.l (r := AV.b (eqs e4 lit_99ba06bc)) rfl rfl (LOp.eqs rfl rfl rfl) <|
      (TR.l (r := AV.b (eqs e4 lit_99ba06bc)) rfl rfl (LOp.pick_true rfl rfl rfl) <|
      (TR.l (r := AV.sl l3.length (l3.map AV.str)) rfl rfl (LOp.assign rfl rfl) <|
      (TR.l (r := AV.b (eqs e4 lit_99ba06bc)) rfl rfl (LOp.assign rfl rfl) <|
      TR.nil))))))))))))))) rfl (by kernel_rfl) rfl fills_nil rfl ?_
    iterate 15 refine ROps.dropS ?_
    refine ROps.drop0 ?_
    refine ROps.nil ?_
    refine RunC.ret ?_
    have hq := Option.some.inj h
    obtain ⟨hq0, hq⟩ := Prod.mk.inj hq
    subst q0
    subst q1
    exact bodyQ.pure (.inr rfl) (lt_tup (lts_cons (lt_sl (fun _ => rfl)) (lts_cons rfl lts_nil))) (Res.two rfl (RV.tmp rfl) (RV.tmp rfl))
  · refine RunC.region_draw (Γ' := []) 15 mixed 
      (TR.l (r := AV.sl r1.length (r1.map AV.str)) rfl rfl (LOp.move rfl rfl) <|
      (TR.l (r := AV.i64 x2) rfl rfl (LOp.move rfl rfl) <|
      (TR.l (r := AV.sl l3.length (l3.map AV.str)) rfl rfl (LOp.slice_hi (f := AV.str) und35 siz9 rfl rfl rfl rfl hs3) <|
      (TR.l (r := AV.str a0) rfl rfl (LOp.move rfl rfl) <|
      (TR.l (r := AV.i64 (a0.size : Int)) rfl rfl (LOp.len_str und9 rfl rfl) <|
      (TR.l (r := AV.b false) rfl rfl (LOp.eqb (LOp.leq rfl rfl rfl) hc4) <|
      (TR.l (r := AV.b false) rfl rfl (LOp.move rfl rfl) <|
      (TR.s rfl rfl <|
      (TR.s rfl rfl <|
      (TR.s rfl rfl <|
      (TR.s rfl rfl <|
      (TR.s rfl rfl <|
      (TR.l (r := AV.b false) rfl rfl (LOp.pick_false rfl rfl rfl) <|
      (TR.l (r := AV.sl l3.length (l3.map AV.str)) rfl rfl (LOp.assign rfl rfl) <|
      (TR.l (r := AV.b false) rfl rfl (LOp.assign rfl rfl) <|
      TR.nil))))))))))))))) rfl (by kernel_rfl) rfl fills_nil rfl ?_
    iterate 15 refine ROps.dropS ?_
    refine ROps.drop0 ?_
    refine ROps.nil ?_
    refine RunC.ret ?_
    have hq := Option.some.inj h
    obtain ⟨hq0, hq⟩ := Prod.mk.inj hq
    subst q0
    subst q1
    exact bodyQ.pure (.inr rfl) (lt_tup (lts_cons (lt_sl (fun _ => rfl)) (lts_cons rfl lts_nil))) (Res.two rfl (RV.tmp rfl) (RV.tmp rfl))
noncomputable def i_length_string (a0 : List ByteArray) : Option (Int) :=
  some (a0.length : Int)
theorem i_length_string_ok (a0 : List ByteArray) (q0 : Int) (h : i_length_string a0 = some q0) : Ev Tryd.prog 37 [AV.sl a0.length (a0.map AV.str)] [] (AV.i64 q0) [] := by
  refine Ev.start Tryd.func37 rfl rfl 0 (τ := [(0, AV.sl a0.length (a0.map AV.str))]) rfl (Γ' := []) rfl (n := 11) rfl (g := 0) rfl (fun _ => rfl) ?_
  unfold i_length_string at h
  refine RunC.seq ?_
  refine RunC.regionW ?_
  refine ROps.l (r := AV.i64 0) rfl rfl rfl (LOp.assign rfl rfl) ?_
  refine ROps.nil ?_
  refine RunC.seq ?_
  refine RunC.regionW ?_
  refine ROps.l (r := AV.sl a0.length (a0.map AV.str)) rfl rfl rfl (LOp.move rfl rfl) ?_
  refine ROps.l (r := AV.i64 (a0.length : Int)) rfl rfl rfl (LOp.len_sl und35 rfl rfl) ?_
  refine ROps.l (r := AV.i64 (a0.length : Int)) rfl rfl rfl (LOp.assign rfl rfl) ?_
  refine ROps.nil ?_
  refine RunC.ret ?_
  have hq := Option.some.inj h
  subst q0
  exact bodyQ.pure (.inr rfl) rfl (Res.one rfl (RV.tmp rfl))
noncomputable def i_CountOutputs_k2 (v4 : Int) (v8 : Int) : Option (LR (Int × Int) (Int) (Int × Int × Bool)) :=
  olet (IntKind.i64.wrap (v4 + 1)) fun (x9 : Int) =>
  some (LR.next (v8, x9))
noncomputable def i_CountOutputs_b3 (r1 : List ByteArray) (v3 : Int) (v4 : Int) : Option (LR (Int × Int) (Int) (Int × Int × Bool)) :=
  bsel (decide (v4 < (r1.length : Int))) (
    obind (at? r1 v4) fun (e5 : ByteArray) =>
    bsel (eqs e5 lit_7101a59a) (
      olet (IntKind.i64.wrap (v3 + 1)) fun (x6 : Int) =>
      i_CountOutputs_k2 v4 x6) (
      bsel (eqs e5 lit_2d360788) (
        olet (IntKind.i64.wrap (v3 + 1)) fun (x7 : Int) =>
        i_CountOutputs_k2 v4 x7) (
        i_CountOutputs_k2 v4 v3))) (
    some (LR.out v3))
noncomputable def i_CountOutputs_s3 (r1 : List ByteArray) : (Int × Int) → Option (LR (Int × Int) (Int) (Int × Int × Bool)) := fun s => i_CountOutputs_b3 r1 s.1 s.2
noncomputable def i_CountOutputs_k3 (r1 : List ByteArray) (v10 : Int) : Option (Int × Int × Bool) :=
  obind (i_length_string r1) fun (r11 : Int) =>
  olet (IntKind.i64.wrap (r11 - v10)) fun (x12 : Int) =>
  some (v10, x12, true)
noncomputable def i_CountOutputs (a0 : ByteArray) : Option (Int × Int × Bool) :=
  obind2 (i_linesOf a0) fun (r1 : List ByteArray) (r2 : Bool) =>
  bsel r2 (
    obind (loopM (i_CountOutputs_s3 r1) (0, 0)) fun z => osum z (fun e => i_CountOutputs_k3 r1 e) (fun r => some r)) (
    some (0, 0, false))
theorem i_CountOutputs_ok (a0 : ByteArray) (q0 : Int) (q1 : Int) (q2 : Bool) (h : i_CountOutputs a0 = some (q0, q1, q2)) : Ev Tryd.prog 10 [AV.str a0] [] (AV.tup [AV.i64 q0, AV.i64 q1, AV.b q2]) [] := by
  refine Ev.start Tryd.func10 rfl rfl 0 (τ := [(0, AV.str a0)]) rfl (Γ' := []) rfl (n := 75) rfl (g := 0) rfl (fun _ => rfl) ?_
  unfold i_CountOutputs at h
  refine RunC.seq ?_
  refine RunC.regionW ?_
  refine ROps.l (r := AV.i64 0) rfl rfl rfl (LOp.assign rfl rfl) ?_
  refine ROps.l (r := AV.i64 0) rfl rfl rfl (LOp.assign rfl rfl) ?_
  refine ROps.l (r := AV.b false) rfl rfl rfl (LOp.assign rfl rfl) ?_
  refine ROps.nil ?_
  refine RunC.seq ?_
  obtain ⟨r1, r2, hf1, h⟩ := obind2_some h
  rcases bsel_some h with ⟨hc2, h⟩ | ⟨hc2, h⟩
  · refine RunC.regionW ?_
    refine ROps.l (r := AV.str a0) rfl rfl rfl (LOp.move rfl rfl) ?_
    refine ROps.d (r := AV.tup [AV.sl r1.length (r1.map AV.str), AV.b r2]) (fs := []) (Γ' := []) rfl rfl rfl (TOp.call (CallAs.le (CallAs.func ent36 rfl rfl) (ALes.cons (ALe.refl _) ALes.nil)) (lts_cons rfl lts_nil) (lt_tup (lts_cons (lt_sl (fun _ => rfl)) (lts_cons rfl lts_nil))) (i_linesOf_ok a0 r1 r2 hf1)) rfl ?_
    refine ROps.l (r := AV.tup [AV.sl r1.length (r1.map AV.str), AV.b r2]) rfl rfl rfl (LOp.move rfl rfl) ?_
    refine ROps.l (r := AV.sl r1.length (r1.map AV.str)) rfl rfl rfl (LOp.extract rfl rfl rfl) ?_
    refine ROps.l (r := AV.b true) rfl rfl rfl (LOp.eqb (LOp.extract rfl rfl rfl) hc2) ?_
    refine ROps.l (r := AV.sl r1.length (r1.map AV.str)) rfl rfl rfl (LOp.assign rfl rfl) ?_
    refine ROps.l (r := AV.b true) rfl rfl rfl (LOp.assign rfl rfl) ?_
    refine ROps.nil ?_
    refine RunC.seq ?_
    refine RunC.seq ?_
    refine RunC.regionW ?_
    refine ROps.l (r := AV.b true) rfl rfl rfl (LOp.move rfl rfl) ?_
    refine ROps.l (r := AV.b false) rfl rfl rfl (LOp.eqb (LOp.not rfl rfl) rfl) ?_
    refine ROps.nil ?_
    refine RunC.cond_false rfl rfl ?_
    refine RunC.skip ?_
    refine RunC.seq ?_
    refine RunC.regionW ?_
    refine ROps.l (r := AV.i64 0) rfl rfl rfl (LOp.assign rfl rfl) ?_
    refine ROps.nil ?_
    refine RunC.seq ?_
    refine RunC.seq ?_
    refine RunC.regionW ?_
    refine ROps.l (r := AV.sl r1.length (r1.map AV.str)) rfl rfl rfl (LOp.move rfl rfl) ?_
    refine ROps.l (r := AV.i64 (r1.length : Int)) rfl rfl rfl (LOp.len_sl und35 rfl rfl) ?_
    refine ROps.l (r := AV.i64 0) rfl rfl rfl (LOp.move rfl rfl) ?_
    refine ROps.nil ?_
    obtain ⟨z4, hz_4, h⟩ := obind_some h
    refine RunC.cutN (fun τ Γ => ∃ (v10 : Int), WeakLe τ [(5, AV.sl r1.length (r1.map AV.str)), (7, AV.i64 v10)] ∧ DeadLe Γ [] ∧ z4 = .inl v10) ?_ ?_
    · refine RunC.block (RunC.loop (RunL.loopM (x := z4) (i_CountOutputs_s3 r1) (fun (s : Int × Int) τ Γ => WeakLe τ [(5, AV.sl r1.length (r1.map AV.str)), (7, AV.i64 s.1), (17, AV.sl r1.length (r1.map AV.str)), (18, AV.i64 (r1.length : Int)), (19, AV.i64 s.2)] ∧ DeadLe Γ []) ?_ _ _ _ hz_4 ⟨⟨(ALe.refl _), (ALe.refl _), (ALe.refl _), (ALe.refl _), (ALe.refl _), trivial⟩, trivial⟩))
      rintro ⟨v3, v4⟩ τ4 Γ4 y4_ ⟨hw4, hd4⟩ h4_ ho4 hr4
      refine RunC.wl (τ' := [(5, AV.sl r1.length (r1.map AV.str)), (7, AV.i64 v3), (17, AV.sl r1.length (r1.map AV.str)), (18, AV.i64 (r1.length : Int)), (19, AV.i64 v4)]) (Γ' := []) hw4 hd4 ?_
      replace h4_ : i_CountOutputs_b3 r1 v3 v4 = some y4_ := h4_
      unfold i_CountOutputs_b3 at h4_
      refine RunC.seq ?_
      rcases bsel_some h4_ with ⟨hc3, h4_⟩ | ⟨hc3, h4_⟩
      · refine RunC.regionW ?_
        refine ROps.l (r := AV.b true) rfl rfl rfl (LOp.eqb (LOp.lss rfl rfl rfl) hc3) ?_
        refine ROps.nil ?_
        refine RunC.seq ?_
        refine RunC.cond_true rfl rfl ?_
        refine RunC.skip ?_
        refine RunC.seq ?_
        refine RunC.cutN (fun τ Γ => ∃ (v8 : Int), WeakLe τ [(5, AV.sl r1.length (r1.map AV.str)), (7, AV.i64 v8), (17, AV.sl r1.length (r1.map AV.str)), (18, AV.i64 (r1.length : Int)), (19, AV.i64 v4)] ∧ DeadLe Γ [] ∧ i_CountOutputs_k2 v4 v8 = some y4_) ?_ ?_
        · refine RunC.block ?_
          refine RunC.seq ?_
          obtain ⟨e5, he4, h4_⟩ := obind_some h4_
          refine RunC.regionW ?_
          refine ROps.l (r := AV.ptr [AV.str e5]) rfl rfl rfl (LOp.le (LOp.ix (f := AV.str) und35 siz9 rfl rfl rfl rfl he4) ALe.ptr) ?_
          refine ROps.l (r := AV.str e5) rfl rfl rfl (LOp.load1 agg9 rfl rfl) ?_
          refine ROps.l (r := AV.str e5) rfl rfl rfl (LOp.assign rfl rfl) ?_
          refine ROps.nil ?_
          refine RunC.seq ?_
          rcases bsel_some h4_ with ⟨hc5, h4_⟩ | ⟨hc5, h4_⟩
          · refine RunC.regionW ?_
            refine ROps.l (r := AV.str e5) rfl rfl rfl (LOp.move rfl rfl) ?_
            refine ROps.l (r := AV.b true) rfl rfl rfl (LOp.eqb (LOp.eqs rfl rfl rfl) hc5) ?_
            refine ROps.l (r := AV.b true) rfl rfl rfl (LOp.move rfl rfl) ?_
            refine ROps.s rfl rfl rfl ?_
            refine ROps.s rfl rfl rfl ?_
            refine ROps.l (r := AV.b true) rfl rfl rfl (LOp.pick_true rfl rfl rfl) ?_
            refine ROps.nil ?_
            refine RunC.cond_true rfl rfl ?_
            obtain ⟨x6, hx7, h4_⟩ := olet_some h4_
            refine RunC.regionW ?_
            refine ROps.l (r := AV.i64 v3) rfl rfl rfl (LOp.move rfl rfl) ?_
            refine ROps.l (r := AV.i64 x6) rfl rfl rfl (LOp.eqr (LOp.add rfl rfl rfl) (congrArg (AV.ik .i64) hx7)) ?_
            refine ROps.l (r := AV.i64 x6) rfl rfl rfl (LOp.assign rfl rfl) ?_
            refine ROps.nil ?_
            exact ⟨x6, ⟨(ALe.refl _), (ALe.refl _), (ALe.refl _), (ALe.refl _), (ALe.refl _), trivial⟩, trivial, h4_⟩
          · rcases bsel_some h4_ with ⟨hc6, h4_⟩ | ⟨hc6, h4_⟩
            · refine RunC.regionW ?_
              refine ROps.l (r := AV.str e5) rfl rfl rfl (LOp.move rfl rfl) ?_
              refine ROps.l (r := AV.b false) rfl rfl rfl (LOp.eqb (LOp.eqs rfl rfl rfl) hc5) ?_
              refine ROps.l (r := AV.b false) rfl rfl rfl (LOp.move rfl rfl) ?_
              refine ROps.l (r := AV.str e5) rfl rfl rfl (LOp.move rfl rfl) ?_
              refine ROps.l (r := AV.b true) rfl rfl rfl (LOp.eqb (LOp.eqs rfl rfl rfl) hc6) ?_
              refine ROps.l (r := AV.b true) rfl rfl rfl (LOp.pick_false rfl rfl rfl) ?_
              refine ROps.nil ?_
              refine RunC.cond_true rfl rfl ?_
              obtain ⟨x7, hx8, h4_⟩ := olet_some h4_
              refine RunC.regionW ?_
              refine ROps.l (r := AV.i64 v3) rfl rfl rfl (LOp.move rfl rfl) ?_
              refine ROps.l (r := AV.i64 x7) rfl rfl rfl (LOp.eqr (LOp.add rfl rfl rfl) (congrArg (AV.ik .i64) hx8)) ?_
              refine ROps.l (r := AV.i64 x7) rfl rfl rfl (LOp.assign rfl rfl) ?_
              refine ROps.nil ?_
              exact ⟨x7, ⟨(ALe.refl _), (ALe.refl _), (ALe.refl _), (ALe.refl _), (ALe.refl _), trivial⟩, trivial, h4_⟩
            · refine RunC.regionW ?_
              refine ROps.l (r := AV.str e5) rfl rfl rfl (LOp.move rfl rfl) ?_
              refine ROps.l (r := AV.b false) rfl rfl rfl (LOp.eqb (LOp.eqs rfl rfl rfl) hc5) ?_
              refine ROps.l (r := AV.b false) rfl rfl rfl (LOp.move rfl rfl) ?_
              refine ROps.l (r := AV.str e5) rfl rfl rfl (LOp.move rfl rfl) ?_
              refine ROps.l (r := AV.b false) rfl rfl rfl (LOp.eqb (LOp.eqs rfl rfl rfl) hc6) ?_
              refine ROps.l (r := AV.b false) rfl rfl rfl (LOp.pick_false rfl rfl rfl) ?_
              refine ROps.nil ?_
              refine RunC.cond_false rfl rfl ?_
              refine RunC.skip ?_
              exact ⟨v3, ⟨(ALe.refl _), (ALe.refl _), (ALe.refl _), (ALe.refl _), (ALe.refl _), trivial⟩, trivial, h4_⟩
        · rintro τ5 Γ5 ⟨v8, hw5, hd5, h4_⟩
          refine RunC.wl (τ' := [(5, AV.sl r1.length (r1.map AV.str)), (7, AV.i64 v8), (17, AV.sl r1.length (r1.map AV.str)), (18, AV.i64 (r1.length : Int)), (19, AV.i64 v4)]) (Γ' := []) hw5 hd5 ?_
          unfold i_CountOutputs_k2 at h4_
          obtain ⟨x9, hx9, h4_⟩ := olet_some h4_
          refine RunC.regionW ?_
          refine ROps.l (r := AV.i64 x9) rfl rfl rfl (LOp.eqr (LOp.add rfl rfl rfl) (congrArg (AV.ik .i64) hx9)) ?_
          refine ROps.l (r := AV.i64 x9) rfl rfl rfl (LOp.move rfl rfl) ?_
          refine ROps.nil ?_
          cases Option.some.inj h4_
          exact ⟨_, rfl, ⟨(ALe.refl _), (ALe.refl _), (ALe.refl _), (ALe.refl _), (ALe.refl _), trivial⟩, trivial⟩
      · refine RunC.regionW ?_
        refine ROps.l (r := AV.b false) rfl rfl rfl (LOp.eqb (LOp.lss rfl rfl rfl) hc3) ?_
        refine ROps.nil ?_
        refine RunC.seq ?_
        refine RunC.cond_false rfl rfl ?_
        refine RunC.exit ?_
        cases Option.some.inj h4_
        have hx := ho4 _ rfl
        exact ⟨v3, ⟨(ALe.refl _), (ALe.refl _), trivial⟩, trivial, hx⟩
    · rintro τ6 Γ6 ⟨v10, hw6, hd6, rfl⟩
      refine RunC.wl (τ' := [(5, AV.sl r1.length (r1.map AV.str)), (7, AV.i64 v10)]) (Γ' := []) hw6 hd6 ?_
      replace h : i_CountOutputs_k3 r1 v10 = some (q0, q1, q2) := h
      unfold i_CountOutputs_k3 at h
      refine RunC.seq ?_
      obtain ⟨r11, hf10, h⟩ := obind_some h
      obtain ⟨x12, hx11, h⟩ := olet_some h
      refine RunC.regionW ?_
      refine ROps.l (r := AV.i64 v10) rfl rfl rfl (LOp.move rfl rfl) ?_
      refine ROps.l (r := AV.sl r1.length (r1.map AV.str)) rfl rfl rfl (LOp.move rfl rfl) ?_
      refine ROps.d (r := AV.i64 r11) (fs := []) (Γ' := []) rfl rfl rfl (TOp.callB (CallAs.func ent37 rfl rfl) (Bors.cons (Bor.sl (fun _ => rfl)) Bors.nil) rfl rfl (i_length_string_ok r1 r11 hf10)) rfl ?_
      refine ROps.l (r := AV.i64 v10) rfl rfl rfl (LOp.move rfl rfl) ?_
      refine ROps.l (r := AV.i64 x12) rfl rfl rfl (LOp.eqr (LOp.sub rfl rfl rfl) (congrArg (AV.ik .i64) hx11)) ?_
      refine ROps.l (r := AV.i64 v10) rfl rfl rfl (LOp.assign rfl rfl) ?_
      refine ROps.l (r := AV.i64 x12) rfl rfl rfl (LOp.assign rfl rfl) ?_
      refine ROps.l (r := AV.b true) rfl rfl rfl (LOp.assign rfl rfl) ?_
      refine ROps.nil ?_
      refine RunC.ret ?_
      have hq := Option.some.inj h
      obtain ⟨hq0, hq⟩ := Prod.mk.inj hq
      obtain ⟨hq1, hq⟩ := Prod.mk.inj hq
      subst q0
      subst q1
      subst q2
      exact bodyQ.pure (.inr rfl) rfl (Res.three rfl (RV.tmp rfl) (RV.tmp rfl) (RV.tmp rfl))
  · refine RunC.regionW ?_
    refine ROps.l (r := AV.str a0) rfl rfl rfl (LOp.move rfl rfl) ?_
    refine ROps.d (r := AV.tup [AV.sl r1.length (r1.map AV.str), AV.b r2]) (fs := []) (Γ' := []) rfl rfl rfl (TOp.call (CallAs.le (CallAs.func ent36 rfl rfl) (ALes.cons (ALe.refl _) ALes.nil)) (lts_cons rfl lts_nil) (lt_tup (lts_cons (lt_sl (fun _ => rfl)) (lts_cons rfl lts_nil))) (i_linesOf_ok a0 r1 r2 hf1)) rfl ?_
    refine ROps.l (r := AV.tup [AV.sl r1.length (r1.map AV.str), AV.b r2]) rfl rfl rfl (LOp.move rfl rfl) ?_
    refine ROps.l (r := AV.sl r1.length (r1.map AV.str)) rfl rfl rfl (LOp.extract rfl rfl rfl) ?_
    refine ROps.l (r := AV.b false) rfl rfl rfl (LOp.eqb (LOp.extract rfl rfl rfl) hc2) ?_
    refine ROps.l (r := AV.sl r1.length (r1.map AV.str)) rfl rfl rfl (LOp.assign rfl rfl) ?_
    refine ROps.l (r := AV.b false) rfl rfl rfl (LOp.assign rfl rfl) ?_
    refine ROps.nil ?_
    refine RunC.seq ?_
    refine RunC.seq ?_
    refine RunC.regionW ?_
    refine ROps.l (r := AV.b false) rfl rfl rfl (LOp.move rfl rfl) ?_
    refine ROps.l (r := AV.b true) rfl rfl rfl (LOp.eqb (LOp.not rfl rfl) rfl) ?_
    refine ROps.nil ?_
    refine RunC.cond_true rfl rfl ?_
    refine RunC.seq ?_
    refine RunC.regionW ?_
    refine ROps.l (r := AV.i64 0) rfl rfl rfl (LOp.assign rfl rfl) ?_
    refine ROps.l (r := AV.i64 0) rfl rfl rfl (LOp.assign rfl rfl) ?_
    refine ROps.l (r := AV.b false) rfl rfl rfl (LOp.assign rfl rfl) ?_
    refine ROps.nil ?_
    refine RunC.ret ?_
    have hq := Option.some.inj h
    obtain ⟨hq0, hq⟩ := Prod.mk.inj hq
    obtain ⟨hq1, hq⟩ := Prod.mk.inj hq
    subst q0
    subst q1
    subst q2
    exact bodyQ.pure (.inr rfl) rfl (Res.three rfl (RV.tmp rfl) (RV.tmp rfl) (RV.tmp rfl))
noncomputable def w_FnExactCountOutputs (a0 : ByteArray) : Option (Bool) :=
  bsel (decide (1048576 < (a0.size : Int))) (
    some true) (
    obind3 (s_CountOutputs a0) fun (r1 : Int) (r2 : Int) (r3 : Bool) =>
    obind3 (i_CountOutputs a0) fun (r4 : Int) (r5 : Int) (r6 : Bool) =>
    bsel (!decide (r4 = r1)) (
      some false) (
      bsel (!decide (r5 = r2)) (
        some false) (
        bsel (!(r6 == r3)) (
          some false) (
          some true))))
theorem w_FnExactCountOutputs_ok (a0 : ByteArray) (q0 : Bool) (h : w_FnExactCountOutputs a0 = some q0) : Ev Tryd.prog 3 [AV.str a0] [] (AV.b q0) [] := by
  refine Ev.start Tryd.func3 rfl rfl 0 (τ := [(0, AV.str a0)]) rfl (Γ' := []) rfl (n := 75) rfl (g := 0) rfl (fun _ => rfl) ?_
  unfold w_FnExactCountOutputs at h
  refine RunC.seq ?_
  refine RunC.regionW ?_
  refine ROps.l (r := AV.b false) rfl rfl rfl (LOp.assign rfl rfl) ?_
  refine ROps.nil ?_
  refine RunC.seq ?_
  refine RunC.seq ?_
  rcases bsel_some h with ⟨hc1, h⟩ | ⟨hc1, h⟩
  · refine RunC.regionW ?_
    refine ROps.l (r := AV.str a0) rfl rfl rfl (LOp.move rfl rfl) ?_
    refine ROps.l (r := AV.i64 (a0.size : Int)) rfl rfl rfl (LOp.len_str und9 rfl rfl) ?_
    refine ROps.l (r := AV.b true) rfl rfl rfl (LOp.eqb (LOp.gtr rfl rfl rfl) hc1) ?_
    refine ROps.nil ?_
    refine RunC.cond_true rfl rfl ?_
    refine RunC.seq ?_
    refine RunC.regionW ?_
    refine ROps.l (r := AV.b true) rfl rfl rfl (LOp.assign rfl rfl) ?_
    refine ROps.nil ?_
    refine RunC.ret ?_
    have hq := Option.some.inj h
    subst q0
    exact bodyQ.pure (.inr rfl) rfl (Res.one rfl (RV.tmp rfl))
  · refine RunC.regionW ?_
    refine ROps.l (r := AV.str a0) rfl rfl rfl (LOp.move rfl rfl) ?_
    refine ROps.l (r := AV.i64 (a0.size : Int)) rfl rfl rfl (LOp.len_str und9 rfl rfl) ?_
    refine ROps.l (r := AV.b false) rfl rfl rfl (LOp.eqb (LOp.gtr rfl rfl rfl) hc1) ?_
    refine ROps.nil ?_
    refine RunC.cond_false rfl rfl ?_
    refine RunC.skip ?_
    refine RunC.seq ?_
    obtain ⟨r1, r2, r3, hf2, h⟩ := obind3_some h
    refine RunC.regionW ?_
    refine ROps.l (r := AV.str a0) rfl rfl rfl (LOp.move rfl rfl) ?_
    refine ROps.d (r := AV.tup [AV.i64 r1, AV.i64 r2, AV.b r3]) (fs := []) (Γ' := []) rfl rfl rfl (TOp.callB (CallAs.func ent9 rfl rfl) (Bors.cons (Bor.pure rfl) Bors.nil) rfl rfl (s_CountOutputs_ok a0 r1 r2 r3 hf2)) rfl ?_
    refine ROps.l (r := AV.tup [AV.i64 r1, AV.i64 r2, AV.b r3]) rfl rfl rfl (LOp.move rfl rfl) ?_
    refine ROps.l (r := AV.i64 r1) rfl rfl rfl (LOp.extract rfl rfl rfl) ?_
    refine ROps.l (r := AV.i64 r2) rfl rfl rfl (LOp.extract rfl rfl rfl) ?_
    refine ROps.l (r := AV.b r3) rfl rfl rfl (LOp.extract rfl rfl rfl) ?_
    refine ROps.l (r := AV.i64 r1) rfl rfl rfl (LOp.assign rfl rfl) ?_
    refine ROps.l (r := AV.i64 r2) rfl rfl rfl (LOp.assign rfl rfl) ?_
    refine ROps.l (r := AV.b r3) rfl rfl rfl (LOp.assign rfl rfl) ?_
    refine ROps.nil ?_
    refine RunC.seq ?_
    obtain ⟨r4, r5, r6, hf3, h⟩ := obind3_some h
    refine RunC.regionW ?_
    refine ROps.l (r := AV.str a0) rfl rfl rfl (LOp.move rfl rfl) ?_
    refine ROps.d (r := AV.tup [AV.i64 r4, AV.i64 r5, AV.b r6]) (fs := []) (Γ' := []) rfl rfl rfl (TOp.callB (CallAs.func ent10 rfl rfl) (Bors.cons (Bor.pure rfl) Bors.nil) rfl rfl (i_CountOutputs_ok a0 r4 r5 r6 hf3)) rfl ?_
    refine ROps.l (r := AV.tup [AV.i64 r4, AV.i64 r5, AV.b r6]) rfl rfl rfl (LOp.move rfl rfl) ?_
    refine ROps.l (r := AV.i64 r4) rfl rfl rfl (LOp.extract rfl rfl rfl) ?_
    refine ROps.l (r := AV.i64 r5) rfl rfl rfl (LOp.extract rfl rfl rfl) ?_
    refine ROps.l (r := AV.b r6) rfl rfl rfl (LOp.extract rfl rfl rfl) ?_
    refine ROps.l (r := AV.i64 r4) rfl rfl rfl (LOp.assign rfl rfl) ?_
    refine ROps.l (r := AV.i64 r5) rfl rfl rfl (LOp.assign rfl rfl) ?_
    refine ROps.l (r := AV.b r6) rfl rfl rfl (LOp.assign rfl rfl) ?_
    refine ROps.nil ?_
    refine RunC.seq ?_
    refine RunC.seq ?_
    rcases bsel_some h with ⟨hc4, h⟩ | ⟨hc4, h⟩
    · refine RunC.regionW ?_
      refine ROps.l (r := AV.i64 r4) rfl rfl rfl (LOp.move rfl rfl) ?_
      refine ROps.l (r := AV.i64 r1) rfl rfl rfl (LOp.move rfl rfl) ?_
      refine ROps.l (r := AV.b true) rfl rfl rfl (LOp.eqb (LOp.neq rfl rfl rfl) hc4) ?_
      refine ROps.l (r := AV.b true) rfl rfl rfl (LOp.move rfl rfl) ?_
      refine ROps.s rfl rfl rfl ?_
      refine ROps.s rfl rfl rfl ?_
      refine ROps.s rfl rfl rfl ?_
      refine ROps.l (r := AV.b true) rfl rfl rfl (LOp.pick_true rfl rfl rfl) ?_
      refine ROps.l (r := AV.b true) rfl rfl rfl (LOp.move rfl rfl) ?_
      refine ROps.s rfl rfl rfl ?_
      refine ROps.s rfl rfl rfl ?_
      refine ROps.s rfl rfl rfl ?_
      refine ROps.l (r := AV.b true) rfl rfl rfl (LOp.pick_true rfl rfl rfl) ?_
      refine ROps.nil ?_
      refine RunC.wl (τ' := [(36, AV.b true)]) (Γ' := []) ⟨(ALe.refl _), trivial⟩ trivial ?_
      refine RunC.cond_true rfl rfl ?_
      refine RunC.seq ?_
      refine RunC.regionW ?_
      refine ROps.l (r := AV.b false) rfl rfl rfl (LOp.assign rfl rfl) ?_
      refine ROps.nil ?_
      refine RunC.ret ?_
      have hq := Option.some.inj h
      subst q0
      exact bodyQ.pure (.inr rfl) rfl (Res.one rfl (RV.tmp rfl))
    · rcases bsel_some h with ⟨hc5, h⟩ | ⟨hc5, h⟩
      · refine RunC.regionW ?_
        refine ROps.l (r := AV.i64 r4) rfl rfl rfl (LOp.move rfl rfl) ?_
        refine ROps.l (r := AV.i64 r1) rfl rfl rfl (LOp.move rfl rfl) ?_
        refine ROps.l (r := AV.b false) rfl rfl rfl (LOp.eqb (LOp.neq rfl rfl rfl) hc4) ?_
        refine ROps.l (r := AV.b false) rfl rfl rfl (LOp.move rfl rfl) ?_
        refine ROps.l (r := AV.i64 r5) rfl rfl rfl (LOp.move rfl rfl) ?_
        refine ROps.l (r := AV.i64 r2) rfl rfl rfl (LOp.move rfl rfl) ?_
        refine ROps.l (r := AV.b true) rfl rfl rfl (LOp.eqb (LOp.neq rfl rfl rfl) hc5) ?_
        refine ROps.l (r := AV.b true) rfl rfl rfl (LOp.pick_false rfl rfl rfl) ?_
        refine ROps.l (r := AV.b true) rfl rfl rfl (LOp.move rfl rfl) ?_
        refine ROps.s rfl rfl rfl ?_
        refine ROps.s rfl rfl rfl ?_
        refine ROps.s rfl rfl rfl ?_
        refine ROps.l (r := AV.b true) rfl rfl rfl (LOp.pick_true rfl rfl rfl) ?_
        refine ROps.nil ?_
        refine RunC.wl (τ' := [(36, AV.b true)]) (Γ' := []) ⟨(ALe.refl _), trivial⟩ trivial ?_
        refine RunC.cond_true rfl rfl ?_
        refine RunC.seq ?_
        refine RunC.regionW ?_
        refine ROps.l (r := AV.b false) rfl rfl rfl (LOp.assign rfl rfl) ?_
        refine ROps.nil ?_
        refine RunC.ret ?_
        have hq := Option.some.inj h
        subst q0
        exact bodyQ.pure (.inr rfl) rfl (Res.one rfl (RV.tmp rfl))
      · rcases bsel_some h with ⟨hc6, h⟩ | ⟨hc6, h⟩
        · refine RunC.regionW ?_
          refine ROps.l (r := AV.i64 r4) rfl rfl rfl (LOp.move rfl rfl) ?_
          refine ROps.l (r := AV.i64 r1) rfl rfl rfl (LOp.move rfl rfl) ?_
          refine ROps.l (r := AV.b false) rfl rfl rfl (LOp.eqb (LOp.neq rfl rfl rfl) hc4) ?_
          refine ROps.l (r := AV.b false) rfl rfl rfl (LOp.move rfl rfl) ?_
          refine ROps.l (r := AV.i64 r5) rfl rfl rfl (LOp.move rfl rfl) ?_
          refine ROps.l (r := AV.i64 r2) rfl rfl rfl (LOp.move rfl rfl) ?_
          refine ROps.l (r := AV.b false) rfl rfl rfl (LOp.eqb (LOp.neq rfl rfl rfl) hc5) ?_
          refine ROps.l (r := AV.b false) rfl rfl rfl (LOp.pick_false rfl rfl rfl) ?_
          refine ROps.l (r := AV.b false) rfl rfl rfl (LOp.move rfl rfl) ?_
          refine ROps.l (r := AV.b r6) rfl rfl rfl (LOp.move rfl rfl) ?_
          refine ROps.l (r := AV.b r3) rfl rfl rfl (LOp.move rfl rfl) ?_
          refine ROps.l (r := AV.b true) rfl rfl rfl (LOp.eqb (LOp.neqb pun4 rfl rfl rfl) hc6) ?_
          refine ROps.l (r := AV.b true) rfl rfl rfl (LOp.pick_false rfl rfl rfl) ?_
          refine ROps.nil ?_
          refine RunC.wl (τ' := [(36, AV.b true)]) (Γ' := []) ⟨(ALe.refl _), trivial⟩ trivial ?_
          refine RunC.cond_true rfl rfl ?_
          refine RunC.seq ?_
          refine RunC.regionW ?_
          refine ROps.l (r := AV.b false) rfl rfl rfl (LOp.assign rfl rfl) ?_
          refine ROps.nil ?_
          refine RunC.ret ?_
          have hq := Option.some.inj h
          subst q0
          exact bodyQ.pure (.inr rfl) rfl (Res.one rfl (RV.tmp rfl))
        · refine RunC.regionW ?_
          refine ROps.l (r := AV.i64 r4) rfl rfl rfl (LOp.move rfl rfl) ?_
          refine ROps.l (r := AV.i64 r1) rfl rfl rfl (LOp.move rfl rfl) ?_
          refine ROps.l (r := AV.b false) rfl rfl rfl (LOp.eqb (LOp.neq rfl rfl rfl) hc4) ?_
          refine ROps.l (r := AV.b false) rfl rfl rfl (LOp.move rfl rfl) ?_
          refine ROps.l (r := AV.i64 r5) rfl rfl rfl (LOp.move rfl rfl) ?_
          refine ROps.l (r := AV.i64 r2) rfl rfl rfl (LOp.move rfl rfl) ?_
          refine ROps.l (r := AV.b false) rfl rfl rfl (LOp.eqb (LOp.neq rfl rfl rfl) hc5) ?_
          refine ROps.l (r := AV.b false) rfl rfl rfl (LOp.pick_false rfl rfl rfl) ?_
          refine ROps.l (r := AV.b false) rfl rfl rfl (LOp.move rfl rfl) ?_
          refine ROps.l (r := AV.b r6) rfl rfl rfl (LOp.move rfl rfl) ?_
          refine ROps.l (r := AV.b r3) rfl rfl rfl (LOp.move rfl rfl) ?_
          refine ROps.l (r := AV.b false) rfl rfl rfl (LOp.eqb (LOp.neqb pun4 rfl rfl rfl) hc6) ?_
          refine ROps.l (r := AV.b false) rfl rfl rfl (LOp.pick_false rfl rfl rfl) ?_
          refine ROps.nil ?_
          refine RunC.wl (τ' := [(36, AV.b false)]) (Γ' := []) ⟨(ALe.refl _), trivial⟩ trivial ?_
          refine RunC.cond_false rfl rfl ?_
          refine RunC.skip ?_
          refine RunC.seq ?_
          refine RunC.regionW ?_
          refine ROps.l (r := AV.b true) rfl rfl rfl (LOp.assign rfl rfl) ?_
          refine ROps.nil ?_
          refine RunC.ret ?_
          have hq := Option.some.inj h
          subst q0
          exact bodyQ.pure (.inr rfl) rfl (Res.one rfl (RV.tmp rfl))
end Go.Proofs.YtddegdokdpeboaaDoor
