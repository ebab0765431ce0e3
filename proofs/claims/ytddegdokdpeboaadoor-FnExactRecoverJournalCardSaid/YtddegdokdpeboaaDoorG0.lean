/- Generated. -/
import Derived.Test.YtddegdokdpeboaaDoorTys
namespace Go.Proofs.YtddegdokdpeboaaDoor
open Go Go.AM
set_option maxRecDepth 20000
set_option maxHeartbeats 4000000
set_option linter.unusedVariables false
set_option linter.unusedSimpArgs false
noncomputable def s_l01Cut_k2 (v5 : Int) (L13 : List ByteArray) (v14 : Int) : Option (LR ((List ByteArray) × Int × Int) ((List ByteArray)) ((List ByteArray))) :=
  olet (IntKind.i64.wrap (v5 + 1)) fun (x15 : Int) =>
  some (LR.next (L13, v14, x15))
noncomputable def s_l01Cut_b3 (a0 : ByteArray) (a1 : Int) (L3 : List ByteArray) (v4 : Int) (v5 : Int) : Option (LR ((List ByteArray) × Int × Int) ((List ByteArray)) ((List ByteArray))) :=
  bsel (decide (v5 ≤ (a0.size : Int))) (
    bsel (decide (v5 = (a0.size : Int))) (
      obind (subs? a0 v4 v5) fun (t7 : ByteArray) =>
      need (apok 16 L3.length 1) <|
      olet (IntKind.i64.wrap (v5 + 1)) fun (x8 : Int) =>
      s_l01Cut_k2 v5 (L3 ++ ([t7] : List ByteArray)) x8) (
      obind (sat? a0 v5) fun (e6 : Int) =>
      bsel (decide (e6 = a1)) (
        obind (subs? a0 v4 v5) fun (t9 : ByteArray) =>
        need (apok 16 L3.length 1) <|
        olet (IntKind.i64.wrap (v5 + 1)) fun (x10 : Int) =>
        s_l01Cut_k2 v5 (L3 ++ ([t9] : List ByteArray)) x10) (
        s_l01Cut_k2 v5 L3 v4))) (
    some (LR.out L3))
noncomputable def s_l01Cut_s3 (a0 : ByteArray) (a1 : Int) : ((List ByteArray) × Int × Int) → Option (LR ((List ByteArray) × Int × Int) ((List ByteArray)) ((List ByteArray))) := fun s => s_l01Cut_b3 a0 a1 s.1 s.2.1 s.2.2
noncomputable def s_l01Cut_k3 (L18 : List ByteArray) : Option ((List ByteArray)) :=
  some L18
noncomputable def s_l01Cut (a0 : ByteArray) (a1 : Int) : Option ((List ByteArray)) :=
  obind (loopM (s_l01Cut_s3 a0 a1) (([] : List ByteArray), 0, 0)) fun z => osum z (fun e => s_l01Cut_k3 e) (fun r => some r)
theorem s_l01Cut_ok (a0 : ByteArray) (a1 : Int) (q0 : List ByteArray) (h : s_l01Cut a0 a1 = some q0) : Ev Tryd.prog 65 [AV.str a0, AV.ik .u8 a1] [] (AV.oref 0 0 0 q0.length) [⟨0, some (q0.map AV.str)⟩] := by
  refine Ev.start Tryd.func65 rfl rfl 2 (τ := [(0, AV.str a0), (1, AV.ik .u8 a1)]) rfl (Γ' := [⟨0, none⟩, ⟨0, none⟩]) rfl (n := 73) rfl (g := 0) rfl (fun _ => rfl) ?_
  unfold s_l01Cut at h
  refine RunC.seq ?_
  refine RunC.regionW ?_
  refine ROps.l (r := AV.nilsl) rfl rfl rfl (LOp.assign rfl rfl) ?_
  refine ROps.nil ?_
  refine RunC.seq ?_
  refine RunC.regionW ?_
  refine ROps.d (r := AV.oref 0 1 0 0) (fs := [(0, (([] : List ByteArray).map AV.str))]) (Γ' := [⟨1, some (([] : List ByteArray).map AV.str)⟩, ⟨0, none⟩]) rfl rfl rfl (TOp.buildSlice_o (g := ⟨0, none⟩) (za := AV.str lit_99ba06bc) (qs := []) 0 rfl und35 siz9 zer9 rfl zel9 rfl rfl trivial rfl) rfl ?_
  refine ROps.l (r := AV.oref 0 1 0 0) rfl rfl rfl (LOp.assign rfl rfl) ?_
  refine ROps.nil ?_
  refine RunC.seq ?_
  refine RunC.regionW ?_
  refine ROps.l (r := AV.i64 0) rfl rfl rfl (LOp.assign rfl rfl) ?_
  refine ROps.nil ?_
  refine RunC.seq ?_
  refine RunC.seq ?_
  refine RunC.regionW ?_
  refine ROps.l (r := AV.i64 0) rfl rfl rfl (LOp.assign rfl rfl) ?_
  refine ROps.nil ?_
  obtain ⟨z4, hz_4, h⟩ := obind_some h
  refine RunC.cutN (fun τ Γ => ∃ (L18 : List ByteArray) (u16 : Nat) (u17 : Nat), WeakLe τ [(5, AV.oref 0 u16 0 L18.length)] ∧ DeadLe Γ [⟨u16, some (L18.map AV.str)⟩, ⟨u17, none⟩] ∧ z4 = .inl L18) ?_ ?_
  · refine RunC.block (RunC.loop (RunL.loopM (x := z4) (s_l01Cut_s3 a0 a1) (fun (s : (List ByteArray) × Int × Int) τ Γ => ∃ (u1 : Nat) (u2 : Nat), WeakLe τ [(0, AV.str a0), (1, AV.ik .u8 a1), (5, AV.oref 0 u1 0 s.1.length), (6, AV.i64 s.2.1), (7, AV.i64 s.2.2)] ∧ DeadLe Γ [⟨u1, some (s.1.map AV.str)⟩, ⟨u2, none⟩]) ?_ _ _ _ hz_4 ⟨1, 0, ⟨(ALe.refl _), (ALe.refl _), (ALe.refl _), (ALe.refl _), (ALe.refl _), trivial⟩, ⟨⟨rfl, .inr rfl⟩, ⟨rfl, .inl rfl⟩, trivial⟩⟩))
    rintro ⟨L3, v4, v5⟩ τ4 Γ4 y4_ ⟨u1, u2, hw4, hd4⟩ h4_ ho4 hr4
    refine RunC.wl (τ' := [(0, AV.str a0), (1, AV.ik .u8 a1), (5, AV.oref 0 u1 0 L3.length), (6, AV.i64 v4), (7, AV.i64 v5)]) (Γ' := [⟨u1, some (L3.map AV.str)⟩, ⟨u2, none⟩]) hw4 hd4 ?_
    replace h4_ : s_l01Cut_b3 a0 a1 L3 v4 v5 = some y4_ := h4_
    unfold s_l01Cut_b3 at h4_
    refine RunC.seq ?_
    refine RunC.seq ?_
    rcases bsel_some h4_ with ⟨hc1, h4_⟩ | ⟨hc1, h4_⟩
    · refine RunC.regionW ?_
      refine ROps.l (r := AV.i64 v5) rfl rfl rfl (LOp.move rfl rfl) ?_
      refine ROps.l (r := AV.str a0) rfl rfl rfl (LOp.move rfl rfl) ?_
      refine ROps.l (r := AV.i64 (a0.size : Int)) rfl rfl rfl (LOp.len_str und9 rfl rfl) ?_
      refine ROps.l (r := AV.b true) rfl rfl rfl (LOp.eqb (LOp.leq rfl rfl rfl) hc1) ?_
      refine ROps.nil ?_
      refine RunC.cond_true rfl rfl ?_
      refine RunC.skip ?_
      refine RunC.seq ?_
      refine RunC.cutN (fun τ Γ => ∃ (L13 : List ByteArray) (v14 : Int) (u11 : Nat) (u12 : Nat), WeakLe τ [(0, AV.str a0), (1, AV.ik .u8 a1), (5, AV.oref 0 u11 0 L13.length), (6, AV.i64 v14), (7, AV.i64 v5)] ∧ DeadLe Γ [⟨u11, some (L13.map AV.str)⟩, ⟨u12, none⟩] ∧ s_l01Cut_k2 v5 L13 v14 = some y4_) ?_ ?_
      · refine RunC.block ?_
        refine RunC.seq ?_
        rcases bsel_some h4_ with ⟨hc2, h4_⟩ | ⟨hc2, h4_⟩
        · refine RunC.regionW ?_
          refine ROps.l (r := AV.i64 v5) rfl rfl rfl (LOp.move rfl rfl) ?_
          refine ROps.l (r := AV.str a0) rfl rfl rfl (LOp.move rfl rfl) ?_
          refine ROps.l (r := AV.i64 (a0.size : Int)) rfl rfl rfl (LOp.len_str und9 rfl rfl) ?_
          refine ROps.l (r := AV.b true) rfl rfl rfl (LOp.eqb (LOp.eql rfl rfl rfl) hc2) ?_
          refine ROps.l (r := AV.b true) rfl rfl rfl (LOp.move rfl rfl) ?_
          refine ROps.s rfl rfl rfl ?_
          refine ROps.s rfl rfl rfl ?_
          refine ROps.s rfl rfl rfl ?_
          refine ROps.s rfl rfl rfl ?_
          refine ROps.s rfl rfl rfl ?_
          refine ROps.l (r := AV.b true) rfl rfl rfl (LOp.pick_true rfl rfl rfl) ?_
          refine ROps.nil ?_
          refine RunC.cond_true rfl rfl ?_
          refine RunC.seq ?_
          obtain ⟨t7, hs5, h4_⟩ := obind_some h4_
          obtain ⟨hm6, h4_⟩ := need_some h4_
          refine RunC.regionW ?_
          refine ROps.l (r := AV.oref 0 u1 0 L3.length) rfl rfl rfl (LOp.move rfl rfl) ?_
          refine ROps.l (r := AV.str a0) rfl rfl rfl (LOp.move rfl rfl) ?_
          refine ROps.l (r := AV.i64 v4) rfl rfl rfl (LOp.move rfl rfl) ?_
          refine ROps.l (r := AV.i64 v5) rfl rfl rfl (LOp.move rfl rfl) ?_
          refine ROps.l (r := AV.str t7) rfl rfl rfl (LOp.subs und9 rfl rfl rfl rfl hs5) ?_
          refine ROps.d (r := AV.oref 1 (u2 + 1) 0 1) (fs := [(1, (([t7] : List ByteArray).map AV.str))]) (Γ' := [⟨u1, some (L3.map AV.str)⟩, ⟨(u2 + 1), some (([t7] : List ByteArray).map AV.str)⟩]) rfl rfl rfl (TOp.buildSlice_o (g := ⟨u2, none⟩) (za := AV.str lit_99ba06bc) (qs := [(0, [AV.str t7])]) 1 rfl und35 siz9 zer9 rfl zel9 rfl rfl ⟨rfl, ⟨_, ALe.refl _, rfl⟩, trivial⟩ rfl) rfl ?_
          refine ROps.app (f := AV.str) (xs := L3) (ys := ([t7] : List ByteArray)) (Γ' := [⟨(u1 + 1), some ((L3 ++ ([t7] : List ByteArray)).map AV.str)⟩, ⟨(u2 + 1), some (([t7] : List ByteArray).map AV.str)⟩]) rfl pun35 inf9 rfl rfl rfl rfl rfl rfl rfl rfl rfl (by simp) (ReadAs.own rfl (by simp)) (ones_map (fun _ => rfl)) (ap_by hm6) (ap_mx hm6) rfl ?_
          refine ROps.l (r := AV.oref 0 (u1 + 1) 0 (L3.length + 1)) rfl rfl rfl (LOp.assign rfl rfl) ?_
          refine ROps.nil ?_
          refine RunC.wl (τ' := [(0, AV.str a0), (1, AV.ik .u8 a1), (5, AV.oref 0 (u1 + 1) 0 (L3.length + 1)), (7, AV.i64 v5)]) (Γ' := [⟨(u1 + 1), some ((L3 ++ ([t7] : List ByteArray)).map AV.str)⟩, ⟨(u2 + 1), none⟩]) ⟨(ALe.refl _), (ALe.refl _), (ALe.refl _), (ALe.refl _), trivial⟩ ⟨⟨rfl, .inr rfl⟩, ⟨rfl, .inl rfl⟩, trivial⟩ ?_
          obtain ⟨x8, hx7, h4_⟩ := olet_some h4_
          refine RunC.regionW ?_
          refine ROps.l (r := AV.i64 v5) rfl rfl rfl (LOp.move rfl rfl) ?_
          refine ROps.l (r := AV.i64 x8) rfl rfl rfl (LOp.eqr (LOp.add rfl rfl rfl) (congrArg (AV.ik .i64) hx7)) ?_
          refine ROps.l (r := AV.i64 x8) rfl rfl rfl (LOp.assign rfl rfl) ?_
          refine ROps.nil ?_
          exact ⟨(L3 ++ ([t7] : List ByteArray)), x8, (u1 + 1), (u2 + 1), ⟨(ALe.refl _), (ALe.refl _), (ALe.eq (by rw [(app_len rfl rfl)] <;> rfl)), (ALe.refl _), (ALe.refl _), trivial⟩, ⟨⟨rfl, .inr rfl⟩, ⟨rfl, .inl rfl⟩, trivial⟩, h4_⟩
        · obtain ⟨e6, he3, h4_⟩ := obind_some h4_
          rcases bsel_some h4_ with ⟨hc4, h4_⟩ | ⟨hc4, h4_⟩
          · refine RunC.regionW ?_
            refine ROps.l (r := AV.i64 v5) rfl rfl rfl (LOp.move rfl rfl) ?_
            refine ROps.l (r := AV.str a0) rfl rfl rfl (LOp.move rfl rfl) ?_
            refine ROps.l (r := AV.i64 (a0.size : Int)) rfl rfl rfl (LOp.len_str und9 rfl rfl) ?_
            refine ROps.l (r := AV.b false) rfl rfl rfl (LOp.eqb (LOp.eql rfl rfl rfl) hc2) ?_
            refine ROps.l (r := AV.b false) rfl rfl rfl (LOp.move rfl rfl) ?_
            refine ROps.l (r := AV.str a0) rfl rfl rfl (LOp.move rfl rfl) ?_
            refine ROps.l (r := AV.i64 v5) rfl rfl rfl (LOp.move rfl rfl) ?_
            refine ROps.l (r := AV.ik .u8 e6) rfl rfl rfl (LOp.index_str und9 rfl rfl rfl he3) ?_
            refine ROps.l (r := AV.ik .u8 a1) rfl rfl rfl (LOp.move rfl rfl) ?_
            refine ROps.l (r := AV.b true) rfl rfl rfl (LOp.eqb (LOp.eql rfl rfl rfl) hc4) ?_
            refine ROps.l (r := AV.b true) rfl rfl rfl (LOp.pick_false rfl rfl rfl) ?_
            refine ROps.nil ?_
            refine RunC.cond_true rfl rfl ?_
            refine RunC.seq ?_
            obtain ⟨t9, hs8, h4_⟩ := obind_some h4_
            obtain ⟨hm9, h4_⟩ := need_some h4_
            refine RunC.regionW ?_
            refine ROps.l (r := AV.oref 0 u1 0 L3.length) rfl rfl rfl (LOp.move rfl rfl) ?_
            refine ROps.l (r := AV.str a0) rfl rfl rfl (LOp.move rfl rfl) ?_
            refine ROps.l (r := AV.i64 v4) rfl rfl rfl (LOp.move rfl rfl) ?_
            refine ROps.l (r := AV.i64 v5) rfl rfl rfl (LOp.move rfl rfl) ?_
            refine ROps.l (r := AV.str t9) rfl rfl rfl (LOp.subs und9 rfl rfl rfl rfl hs8) ?_
            refine ROps.d (r := AV.oref 1 (u2 + 1) 0 1) (fs := [(1, (([t9] : List ByteArray).map AV.str))]) (Γ' := [⟨u1, some (L3.map AV.str)⟩, ⟨(u2 + 1), some (([t9] : List ByteArray).map AV.str)⟩]) rfl rfl rfl (TOp.buildSlice_o (g := ⟨u2, none⟩) (za := AV.str lit_99ba06bc) (qs := [(0, [AV.str t9])]) 1 rfl und35 siz9 zer9 rfl zel9 rfl rfl ⟨rfl, ⟨_, ALe.refl _, rfl⟩, trivial⟩ rfl) rfl ?_
            refine ROps.app (f := AV.str) (xs := L3) (ys := ([t9] : List ByteArray)) (Γ' := [⟨(u1 + 1), some ((L3 ++ ([t9] : List ByteArray)).map AV.str)⟩, ⟨(u2 + 1), some (([t9] : List ByteArray).map AV.str)⟩]) rfl pun35 inf9 rfl rfl rfl rfl rfl rfl rfl rfl rfl (by simp) (ReadAs.own rfl (by simp)) (ones_map (fun _ => rfl)) (ap_by hm9) (ap_mx hm9) rfl ?_
            refine ROps.l (r := AV.oref 0 (u1 + 1) 0 (L3.length + 1)) rfl rfl rfl (LOp.assign rfl rfl) ?_
            refine ROps.nil ?_
            refine RunC.wl (τ' := [(0, AV.str a0), (1, AV.ik .u8 a1), (5, AV.oref 0 (u1 + 1) 0 (L3.length + 1)), (7, AV.i64 v5), (20, AV.str a0), (21, AV.i64 v5), (22, AV.ik .u8 e6), (23, AV.ik .u8 a1), (24, AV.b true)]) (Γ' := [⟨(u1 + 1), some ((L3 ++ ([t9] : List ByteArray)).map AV.str)⟩, ⟨(u2 + 1), none⟩]) ⟨(ALe.refl _), (ALe.refl _), (ALe.refl _), (ALe.refl _), (ALe.refl _), (ALe.refl _), (ALe.refl _), (ALe.refl _), (ALe.refl _), trivial⟩ ⟨⟨rfl, .inr rfl⟩, ⟨rfl, .inl rfl⟩, trivial⟩ ?_
            obtain ⟨x10, hx10, h4_⟩ := olet_some h4_
            refine RunC.regionW ?_
            refine ROps.l (r := AV.i64 v5) rfl rfl rfl (LOp.move rfl rfl) ?_
            refine ROps.l (r := AV.i64 x10) rfl rfl rfl (LOp.eqr (LOp.add rfl rfl rfl) (congrArg (AV.ik .i64) hx10)) ?_
            refine ROps.l (r := AV.i64 x10) rfl rfl rfl (LOp.assign rfl rfl) ?_
            refine ROps.nil ?_
            exact ⟨(L3 ++ ([t9] : List ByteArray)), x10, (u1 + 1), (u2 + 1), ⟨(ALe.refl _), (ALe.refl _), (ALe.eq (by rw [(app_len rfl rfl)] <;> rfl)), (ALe.refl _), (ALe.refl _), trivial⟩, ⟨⟨rfl, .inr rfl⟩, ⟨rfl, .inl rfl⟩, trivial⟩, h4_⟩
          · refine RunC.regionW ?_
            refine ROps.l (r := AV.i64 v5) rfl rfl rfl (LOp.move rfl rfl) ?_
            refine ROps.l (r := AV.str a0) rfl rfl rfl (LOp.move rfl rfl) ?_
            refine ROps.l (r := AV.i64 (a0.size : Int)) rfl rfl rfl (LOp.len_str und9 rfl rfl) ?_
            refine ROps.l (r := AV.b false) rfl rfl rfl (LOp.eqb (LOp.eql rfl rfl rfl) hc2) ?_
            refine ROps.l (r := AV.b false) rfl rfl rfl (LOp.move rfl rfl) ?_
            refine ROps.l (r := AV.str a0) rfl rfl rfl (LOp.move rfl rfl) ?_
            refine ROps.l (r := AV.i64 v5) rfl rfl rfl (LOp.move rfl rfl) ?_
            refine ROps.l (r := AV.ik .u8 e6) rfl rfl rfl (LOp.index_str und9 rfl rfl rfl he3) ?_
            refine ROps.l (r := AV.ik .u8 a1) rfl rfl rfl (LOp.move rfl rfl) ?_
            refine ROps.l (r := AV.b false) rfl rfl rfl (LOp.eqb (LOp.eql rfl rfl rfl) hc4) ?_
            refine ROps.l (r := AV.b false) rfl rfl rfl (LOp.pick_false rfl rfl rfl) ?_
            refine ROps.nil ?_
            refine RunC.cond_false rfl rfl ?_
            refine RunC.skip ?_
            exact ⟨L3, v4, u1, u2, ⟨(ALe.refl _), (ALe.refl _), (ALe.refl _), (ALe.refl _), (ALe.refl _), trivial⟩, ⟨⟨rfl, .inr rfl⟩, ⟨rfl, .inl rfl⟩, trivial⟩, h4_⟩
      · rintro τ5 Γ5 ⟨L13, v14, u11, u12, hw5, hd5, h4_⟩
        refine RunC.wl (τ' := [(0, AV.str a0), (1, AV.ik .u8 a1), (5, AV.oref 0 u11 0 L13.length), (6, AV.i64 v14), (7, AV.i64 v5)]) (Γ' := [⟨u11, some (L13.map AV.str)⟩, ⟨u12, none⟩]) hw5 hd5 ?_
        unfold s_l01Cut_k2 at h4_
        obtain ⟨x15, hx11, h4_⟩ := olet_some h4_
        refine RunC.regionW ?_
        refine ROps.l (r := AV.i64 v5) rfl rfl rfl (LOp.move rfl rfl) ?_
        refine ROps.l (r := AV.i64 x15) rfl rfl rfl (LOp.eqr (LOp.add rfl rfl rfl) (congrArg (AV.ik .i64) hx11)) ?_
        refine ROps.l (r := AV.i64 x15) rfl rfl rfl (LOp.assign rfl rfl) ?_
        refine ROps.nil ?_
        cases Option.some.inj h4_
        exact ⟨_, rfl, u11, u12, ⟨(ALe.refl _), (ALe.refl _), (ALe.refl _), (ALe.refl _), (ALe.refl _), trivial⟩, ⟨⟨rfl, .inr rfl⟩, ⟨rfl, .inl rfl⟩, trivial⟩⟩
    · refine RunC.regionW ?_
      refine ROps.l (r := AV.i64 v5) rfl rfl rfl (LOp.move rfl rfl) ?_
      refine ROps.l (r := AV.str a0) rfl rfl rfl (LOp.move rfl rfl) ?_
      refine ROps.l (r := AV.i64 (a0.size : Int)) rfl rfl rfl (LOp.len_str und9 rfl rfl) ?_
      refine ROps.l (r := AV.b false) rfl rfl rfl (LOp.eqb (LOp.leq rfl rfl rfl) hc1) ?_
      refine ROps.nil ?_
      refine RunC.cond_false rfl rfl ?_
      refine RunC.exit ?_
      cases Option.some.inj h4_
      have hx := ho4 _ rfl
      exact ⟨L3, u1, u2, ⟨(ALe.refl _), trivial⟩, ⟨⟨rfl, .inr rfl⟩, ⟨rfl, .inl rfl⟩, trivial⟩, hx⟩
  · rintro τ6 Γ6 ⟨L18, u16, u17, hw6, hd6, rfl⟩
    refine RunC.wl (τ' := [(5, AV.oref 0 u16 0 L18.length)]) (Γ' := [⟨u16, some (L18.map AV.str)⟩, ⟨u17, none⟩]) hw6 hd6 ?_
    replace h : s_l01Cut_k3 L18 = some q0 := h
    unfold s_l01Cut_k3 at h
    refine RunC.seq ?_
    refine RunC.regionW ?_
    refine ROps.l (r := AV.oref 0 u16 0 L18.length) rfl rfl rfl (LOp.move rfl rfl) ?_
    refine ROps.l (r := AV.oref 0 u16 0 L18.length) rfl rfl rfl (LOp.assign rfl rfl) ?_
    refine ROps.nil ?_
    refine RunC.ret ?_
    have hq := Option.some.inj h
    subst q0
    exact bodyQ.mk (r' := AV.oref 0 u16 0 L18.length) [(0, u16)] (.inr rfl) rfl (show List.Nodup [0] from by decide) (by simp [AV.ren, AV.rens, sigma]) rfl (Res.one rfl (RV.tmp rfl)) (SelL.arr0 (f := AV.str) (fun _ => rfl) rfl trivial)
noncomputable def s_l08Lines (a0 : ByteArray) : Option ((List ByteArray) × ByteArray) :=
  obind (s_l01Cut a0 10) fun (r1 : List ByteArray) =>
  olet (IntKind.i64.wrap ((r1.length : Int) - 1)) fun (x2 : Int) =>
  obind (sub? r1 0 x2) fun (l3 : List ByteArray) =>
  olet (IntKind.i64.wrap ((r1.length : Int) - 1)) fun (x4 : Int) =>
  obind (at? r1 x4) fun (e5 : ByteArray) =>
  some (l3, e5)
theorem s_l08Lines_ok (a0 : ByteArray) (q0 : List ByteArray) (q1 : ByteArray) (h : s_l08Lines a0 = some (q0, q1)) : Ev Tryd.prog 35 [AV.str a0] [] (AV.tup [AV.sl q0.length (q0.map AV.str), AV.str q1]) [] := by
  refine Ev.start Tryd.func35 rfl rfl 0 (τ := [(0, AV.str a0)]) rfl (Γ' := []) rfl (n := 37) rfl (g := 0) rfl (fun _ => rfl) ?_
  unfold s_l08Lines at h
  refine RunC.seq ?_
  refine RunC.regionW ?_
  refine ROps.l (r := AV.nilsl) rfl rfl rfl (LOp.assign rfl rfl) ?_
  refine ROps.l (r := AV.str lit_99ba06bc) rfl rfl rfl (LOp.assign rfl rfl) ?_
  refine ROps.nil ?_
  refine RunC.seq ?_
  obtain ⟨r1, hf1, h⟩ := obind_some h
  refine RunC.regionW ?_
  refine ROps.l (r := AV.str a0) rfl rfl rfl (LOp.move rfl rfl) ?_
  refine ROps.d (r := AV.sl r1.length (r1.map AV.str)) (fs := []) (Γ' := []) rfl rfl rfl (TOp.callS (CallAs.func ent65 rfl rfl) (ALes.cons (ALe.refl _) (ALes.cons (ALe.refl _) ALes.nil)) (lts_cons rfl (lts_cons rfl lts_nil)) (lt_sl (fun _ => rfl)) (s_l01Cut_ok a0 10 r1 hf1) (Bor.own (f := AV.str) (fun _ => rfl) rfl rfl)) rfl ?_
  refine ROps.l (r := AV.sl r1.length (r1.map AV.str)) rfl rfl rfl (LOp.assign rfl rfl) ?_
  refine ROps.nil ?_
  refine RunC.seq ?_
  obtain ⟨x2, hx2, h⟩ := olet_some h
  obtain ⟨l3, hs3, h⟩ := obind_some h
  obtain ⟨x4, hx4, h⟩ := olet_some h
  obtain ⟨e5, he5, h⟩ := obind_some h
  refine RunC.region_draw (Γ' := []) 13 mixed 
    (TR.l (r := AV.sl r1.length (r1.map AV.str)) rfl rfl (LOp.move rfl rfl) <|
    (TR.l (r := AV.sl r1.length (r1.map AV.str)) rfl rfl (LOp.move rfl rfl) <|
    (TR.l (r := AV.i64 (r1.length : Int)) rfl rfl (LOp.len_sl und35 rfl rfl) <|
    (TR.l (r := AV.i64 x2) rfl rfl (LOp.eqr (LOp.sub rfl rfl rfl) (congrArg (AV.ik .i64) hx2)) <|
    (TR.l (r := AV.sl l3.length (l3.map AV.str)) rfl rfl (LOp.slice_hi (f := AV.str) und35 siz9 rfl rfl rfl rfl hs3) <|
    (TR.l (r := AV.sl r1.length (r1.map AV.str)) rfl rfl (LOp.move rfl rfl) <|
    (TR.l (r := AV.sl r1.length (r1.map AV.str)) rfl rfl (LOp.move rfl rfl) <|
    (TR.l (r := AV.i64 (r1.length : Int)) rfl rfl (LOp.len_sl und35 rfl rfl) <|
    (TR.l (r := AV.i64 x4) rfl rfl (LOp.eqr (LOp.sub rfl rfl rfl) (congrArg (AV.ik .i64) hx4)) <|
    (TR.l (r := AV.ptr [AV.str e5]) rfl rfl (LOp.le (LOp.ix (f := AV.str) und35 siz9 rfl rfl rfl rfl he5) ALe.ptr) <|
    (TR.l (r := AV.str e5) rfl rfl (LOp.load1 agg9 rfl rfl) <|
    (TR.l (r := AV.sl l3.length (l3.map AV.str)) rfl rfl (LOp.assign rfl rfl) <|
    (TR.l (r := AV.str e5) rfl rfl (LOp.assign rfl rfl) <|
    TR.nil))))))))))))) rfl (by kernel_rfl) rfl fills_nil rfl ?_
  iterate 13 refine ROps.dropS ?_
  refine ROps.drop0 ?_
  refine ROps.nil ?_
  refine RunC.ret ?_
  have hq := Option.some.inj h
  obtain ⟨hq0, hq⟩ := Prod.mk.inj hq
  subst q0
  subst q1
  exact bodyQ.pure (.inr rfl) (lt_tup (lts_cons (lt_sl (fun _ => rfl)) (lts_cons rfl lts_nil))) (Res.two rfl (RV.tmp rfl) (RV.tmp rfl))
noncomputable def s_l01Check_b1 (a1 : ByteArray) (v1 : Int) (v2 : Int) : Option (LR (Int × Int) (Int) (Int)) :=
  bsel (decide (v2 < (a1.size : Int))) (
    olet (IntKind.i64.wrap (863 * v1)) fun (x3 : Int) =>
    obind (sat? a1 v2) fun (e4 : Int) =>
    olet (IntKind.i64.wrap e4) fun (x5 : Int) =>
    olet (IntKind.i64.wrap (x3 + x5)) fun (x6 : Int) =>
    olet (IntKind.i64.wrap (x6 + 157)) fun (x7 : Int) =>
    need (!decide (65003 = 0)) <|
    olet (x7.tmod 65003) fun (x8 : Int) =>
    olet (IntKind.i64.wrap (v2 + 1)) fun (x9 : Int) =>
    some (LR.next (x8, x9))) (
    some (LR.out v1))
noncomputable def s_l01Check_s1 (a1 : ByteArray) : (Int × Int) → Option (LR (Int × Int) (Int) (Int)) := fun s => s_l01Check_b1 a1 s.1 s.2
noncomputable def s_l01Check_k1 (v10 : Int) : Option (Int) :=
  some v10
noncomputable def s_l01Check (a0 : Int) (a1 : ByteArray) : Option (Int) :=
  obind (loopM (s_l01Check_s1 a1) (a0, 0)) fun z => osum z (fun e => s_l01Check_k1 e) (fun r => some r)
theorem s_l01Check_ok (a0 : Int) (a1 : ByteArray) (q0 : Int) (h : s_l01Check a0 a1 = some q0) : Ev Tryd.prog 72 [AV.i64 a0, AV.str a1] [] (AV.i64 q0) [] := by
  refine Ev.start Tryd.func72 rfl rfl 0 (τ := [(0, AV.i64 a0), (1, AV.str a1)]) rfl (Γ' := []) rfl (n := 45) rfl (g := 0) rfl (fun _ => rfl) ?_
  unfold s_l01Check at h
  refine RunC.seq ?_
  refine RunC.regionW ?_
  refine ROps.l (r := AV.i64 0) rfl rfl rfl (LOp.assign rfl rfl) ?_
  refine ROps.nil ?_
  refine RunC.seq ?_
  refine RunC.seq ?_
  refine RunC.regionW ?_
  refine ROps.l (r := AV.i64 0) rfl rfl rfl (LOp.assign rfl rfl) ?_
  refine ROps.nil ?_
  obtain ⟨z2, hz_2, h⟩ := obind_some h
  refine RunC.cutN (fun τ Γ => ∃ (v10 : Int), WeakLe τ [(0, AV.i64 v10)] ∧ DeadLe Γ [] ∧ z2 = .inl v10) ?_ ?_
  · refine RunC.block (RunC.loop (RunL.loopM (x := z2) (s_l01Check_s1 a1) (fun (s : Int × Int) τ Γ => WeakLe τ [(0, AV.i64 s.1), (1, AV.str a1), (5, AV.i64 s.2)] ∧ DeadLe Γ []) ?_ _ _ _ hz_2 ⟨⟨(ALe.refl _), (ALe.refl _), (ALe.refl _), trivial⟩, trivial⟩))
    rintro ⟨v1, v2⟩ τ2 Γ2 y2_ ⟨hw2, hd2⟩ h2_ ho2 hr2
    refine RunC.wl (τ' := [(0, AV.i64 v1), (1, AV.str a1), (5, AV.i64 v2)]) (Γ' := []) hw2 hd2 ?_
    replace h2_ : s_l01Check_b1 a1 v1 v2 = some y2_ := h2_
    unfold s_l01Check_b1 at h2_
    refine RunC.seq ?_
    refine RunC.seq ?_
    rcases bsel_some h2_ with ⟨hc1, h2_⟩ | ⟨hc1, h2_⟩
    · refine RunC.regionW ?_
      refine ROps.l (r := AV.i64 v2) rfl rfl rfl (LOp.move rfl rfl) ?_
      refine ROps.l (r := AV.str a1) rfl rfl rfl (LOp.move rfl rfl) ?_
      refine ROps.l (r := AV.i64 (a1.size : Int)) rfl rfl rfl (LOp.len_str und9 rfl rfl) ?_
      refine ROps.l (r := AV.b true) rfl rfl rfl (LOp.eqb (LOp.lss rfl rfl rfl) hc1) ?_
      refine ROps.nil ?_
      refine RunC.cond_true rfl rfl ?_
      refine RunC.skip ?_
      refine RunC.seq ?_
      refine RunC.block ?_
      obtain ⟨x3, hx2, h2_⟩ := olet_some h2_
      obtain ⟨e4, he3, h2_⟩ := obind_some h2_
      obtain ⟨x5, hx4, h2_⟩ := olet_some h2_
      obtain ⟨x6, hx5, h2_⟩ := olet_some h2_
      obtain ⟨x7, hx6, h2_⟩ := olet_some h2_
      obtain ⟨hz7, h2_⟩ := need_some h2_
      obtain ⟨x8, hx8, h2_⟩ := olet_some h2_
      refine RunC.regionW ?_
      refine ROps.l (r := AV.i64 v1) rfl rfl rfl (LOp.move rfl rfl) ?_
      refine ROps.l (r := AV.i64 x3) rfl rfl rfl (LOp.eqr (LOp.mul rfl rfl rfl) (congrArg (AV.ik .i64) hx2)) ?_
      refine ROps.l (r := AV.str a1) rfl rfl rfl (LOp.move rfl rfl) ?_
      refine ROps.l (r := AV.i64 v2) rfl rfl rfl (LOp.move rfl rfl) ?_
      refine ROps.l (r := AV.ik .u8 e4) rfl rfl rfl (LOp.index_str und9 rfl rfl rfl he3) ?_
      refine ROps.l (r := AV.i64 x5) rfl rfl rfl (LOp.eqr (LOp.i2i (src := 5) (dst := 2) ⟨_, pun5⟩ pun2 rfl rfl) (congrArg (AV.ik .i64) hx4)) ?_
      refine ROps.l (r := AV.i64 x6) rfl rfl rfl (LOp.eqr (LOp.add rfl rfl rfl) (congrArg (AV.ik .i64) hx5)) ?_
      refine ROps.l (r := AV.i64 x7) rfl rfl rfl (LOp.eqr (LOp.add rfl rfl rfl) (congrArg (AV.ik .i64) hx6)) ?_
      refine ROps.l (r := AV.i64 x8) rfl rfl rfl (LOp.eqr (LOp.rem rfl rfl rfl (nz hz7)) (congrArg (AV.ik .i64) hx8)) ?_
      refine ROps.l (r := AV.i64 x8) rfl rfl rfl (LOp.assign rfl rfl) ?_
      refine ROps.nil ?_
      refine RunC.wl (τ' := [(0, AV.i64 x8), (1, AV.str a1), (5, AV.i64 v2)]) (Γ' := []) ⟨(ALe.refl _), (ALe.refl _), (ALe.refl _), trivial⟩ trivial ?_
      obtain ⟨x9, hx9, h2_⟩ := olet_some h2_
      refine RunC.regionW ?_
      refine ROps.l (r := AV.i64 v2) rfl rfl rfl (LOp.move rfl rfl) ?_
      refine ROps.l (r := AV.i64 x9) rfl rfl rfl (LOp.eqr (LOp.add rfl rfl rfl) (congrArg (AV.ik .i64) hx9)) ?_
      refine ROps.l (r := AV.i64 x9) rfl rfl rfl (LOp.assign rfl rfl) ?_
      refine ROps.nil ?_
      cases Option.some.inj h2_
      exact ⟨_, rfl, ⟨(ALe.refl _), (ALe.refl _), (ALe.refl _), trivial⟩, trivial⟩
    · refine RunC.regionW ?_
      refine ROps.l (r := AV.i64 v2) rfl rfl rfl (LOp.move rfl rfl) ?_
      refine ROps.l (r := AV.str a1) rfl rfl rfl (LOp.move rfl rfl) ?_
      refine ROps.l (r := AV.i64 (a1.size : Int)) rfl rfl rfl (LOp.len_str und9 rfl rfl) ?_
      refine ROps.l (r := AV.b false) rfl rfl rfl (LOp.eqb (LOp.lss rfl rfl rfl) hc1) ?_
      refine ROps.nil ?_
      refine RunC.cond_false rfl rfl ?_
      refine RunC.exit ?_
      cases Option.some.inj h2_
      have hx := ho2 _ rfl
      exact ⟨v1, ⟨(ALe.refl _), trivial⟩, trivial, hx⟩
  · rintro τ3 Γ3 ⟨v10, hw3, hd3, rfl⟩
    refine RunC.wl (τ' := [(0, AV.i64 v10)]) (Γ' := []) hw3 hd3 ?_
    replace h : s_l01Check_k1 v10 = some q0 := h
    unfold s_l01Check_k1 at h
    refine RunC.seq ?_
    refine RunC.regionW ?_
    refine ROps.l (r := AV.i64 v10) rfl rfl rfl (LOp.move rfl rfl) ?_
    refine ROps.l (r := AV.i64 v10) rfl rfl rfl (LOp.assign rfl rfl) ?_
    refine ROps.nil ?_
    refine RunC.ret ?_
    have hq := Option.some.inj h
    subst q0
    exact bodyQ.pure (.inr rfl) rfl (Res.one rfl (RV.tmp rfl))
noncomputable def s_l01Dec_k6 (l3 : List Int) (v4 : Int) (v7 : Int) : Option (LR ((List Int) × Int) ((List Int)) (ByteArray)) :=
  olet (IntKind.i64.wrap (48 + v7)) fun (x8 : Int) =>
  olet (IntKind.u8.wrap x8) fun (x9 : Int) =>
  need (apok 1 1 l3.length) <|
  need (!decide (10 = 0)) <|
  olet (IntKind.i64.wrap (v4.tdiv 10)) fun (x10 : Int) =>
  some (LR.next ((([x9] : List Int) ++ l3), x10))
noncomputable def s_l01Dec_k5 (l3 : List Int) (v4 : Int) : Option (LR ((List Int) × Int) ((List Int)) (ByteArray)) :=
  need (!decide (10 = 0)) <|
  olet (v4.tmod 10) fun (x5 : Int) =>
  bsel (decide (x5 < 0)) (
    olet (IntKind.i64.wrap (0 - x5)) fun (x6 : Int) =>
    s_l01Dec_k6 l3 v4 x6) (
    s_l01Dec_k6 l3 v4 x5)
noncomputable def s_l01Dec_b7 (l3 : List Int) (v4 : Int) : Option (LR ((List Int) × Int) ((List Int)) (ByteArray)) :=
  bsel (decide ((l3.length : Int) = 0)) (
    s_l01Dec_k5 l3 v4) (
    bsel (!decide (v4 = 0)) (
      s_l01Dec_k5 l3 v4) (
      some (LR.out l3)))
noncomputable def s_l01Dec_s7  : ((List Int) × Int) → Option (LR ((List Int) × Int) ((List Int)) (ByteArray)) := fun s => s_l01Dec_b7 s.1 s.2
noncomputable def s_l01Dec_k8 (l15 : List Int) : Option (ByteArray) :=
  some (strOfNums l15)
noncomputable def s_l01Dec_k7 (a0 : Int) (l13 : List Int) : Option (ByteArray) :=
  bsel (decide (a0 < 0)) (
    need (apok 1 1 l13.length) <|
    s_l01Dec_k8 (([45] : List Int) ++ l13)) (
    s_l01Dec_k8 l13)
noncomputable def s_l01Dec (a0 : Int) : Option (ByteArray) :=
  obind (loopM (s_l01Dec_s7) (([] : List Int), a0)) fun z => osum z (fun e => s_l01Dec_k7 a0 e) (fun r => some r)
theorem s_l01Dec_ok (a0 : Int) (q0 : ByteArray) (h : s_l01Dec a0 = some q0) : Ev Tryd.prog 73 [AV.i64 a0] [] (AV.str q0) [] := by
  refine Ev.start Tryd.func73 rfl rfl 2 (τ := [(0, AV.i64 a0)]) rfl (Γ' := [⟨0, none⟩, ⟨0, none⟩]) rfl (n := 73) rfl (g := 0) rfl (fun _ => rfl) ?_
  unfold s_l01Dec at h
  refine RunC.seq ?_
  refine RunC.regionW ?_
  refine ROps.l (r := AV.str lit_99ba06bc) rfl rfl rfl (LOp.assign rfl rfl) ?_
  refine ROps.nil ?_
  refine RunC.seq ?_
  refine RunC.regionW ?_
  refine ROps.d (r := AV.oref 0 1 0 0) (fs := [(0, (([] : List Int).map (AV.ik .u8)))]) (Γ' := [⟨1, some (([] : List Int).map (AV.ik .u8))⟩, ⟨0, none⟩]) rfl rfl rfl (TOp.buildSlice_o (g := ⟨0, none⟩) (za := AV.ik .u8 0) (qs := []) 0 rfl und75 siz5 zer5 rfl zel5 rfl rfl trivial rfl) rfl ?_
  refine ROps.l (r := AV.oref 0 1 0 0) rfl rfl rfl (LOp.assign rfl rfl) ?_
  refine ROps.nil ?_
  refine RunC.seq ?_
  refine RunC.regionW ?_
  refine ROps.l (r := AV.i64 a0) rfl rfl rfl (LOp.move rfl rfl) ?_
  refine ROps.l (r := AV.i64 a0) rfl rfl rfl (LOp.assign rfl rfl) ?_
  refine ROps.nil ?_
  refine RunC.seq ?_
  obtain ⟨z9, hz_9, h⟩ := obind_some h
  refine RunC.cutN (fun τ Γ => ∃ (l13 : List Int) (u11 : Nat) (u12 : Nat), Le 73 τ Γ [(0, AV.i64 a0), (3, AV.sl l13.length (l13.map (AV.ik .u8)))] [⟨u11, none⟩, ⟨u12, none⟩] ∧ z9 = .inl l13) ?_ ?_
  · refine RunC.block (RunC.loop (RunL.loopM (x := z9) (s_l01Dec_s7) (fun (s : (List Int) × Int) τ Γ => ∃ (u1 : Nat) (u2 : Nat), Le 73 τ Γ [(0, AV.i64 a0), (3, AV.sl s.1.length (s.1.map (AV.ik .u8))), (4, AV.i64 s.2)] [⟨u1, none⟩, ⟨u2, none⟩]) ?_ _ _ _ hz_9 ⟨1, 0, (Le.trans (Le.settle 0 [(0, AV.i64 a0), (3, AV.sl ([] : List Int).length (([] : List Int).map (AV.ik .u8))), (4, AV.i64 a0)] rfl rfl rfl ⟨.inl rfl, .inr (Bor.own (f := (AV.ik .u8)) (fun _ => rfl) rfl rfl), .inl rfl, trivial⟩) (Le.of ⟨(ALe.refl _), (ALe.refl _), (ALe.refl _), trivial⟩ ⟨⟨rfl, .inl rfl⟩, ⟨rfl, .inl rfl⟩, trivial⟩))⟩))
    rintro ⟨l3, v4⟩ τ9 Γ9 y9_ ⟨u1, u2, hw9⟩ h9_ ho9 hr9
    refine RunC.le (τ' := [(0, AV.i64 a0), (3, AV.sl l3.length (l3.map (AV.ik .u8))), (4, AV.i64 v4)]) (Γ' := [⟨u1, none⟩, ⟨u2, none⟩]) hw9 ?_
    replace h9_ : s_l01Dec_b7 l3 v4 = some y9_ := h9_
    unfold s_l01Dec_b7 at h9_
    refine RunC.seq ?_
    refine RunC.cutN (fun τ Γ =>  Le 73 τ Γ [(0, AV.i64 a0), (3, AV.sl l3.length (l3.map (AV.ik .u8))), (4, AV.i64 v4)] [⟨u1, none⟩, ⟨u2, none⟩] ∧ s_l01Dec_k5 l3 v4 = some y9_) ?_ ?_
    · refine RunC.seq ?_
      rcases bsel_some h9_ with ⟨hc1, h9_⟩ | ⟨hc1, h9_⟩
      · refine RunC.regionW ?_
        refine ROps.l (r := AV.sl l3.length (l3.map (AV.ik .u8))) rfl rfl rfl (LOp.move rfl rfl) ?_
        refine ROps.l (r := AV.i64 (l3.length : Int)) rfl rfl rfl (LOp.len_sl und75 rfl rfl) ?_
        refine ROps.l (r := AV.b true) rfl rfl rfl (LOp.eqb (LOp.eql rfl rfl rfl) hc1) ?_
        refine ROps.l (r := AV.b true) rfl rfl rfl (LOp.move rfl rfl) ?_
        refine ROps.s rfl rfl rfl ?_
        refine ROps.s rfl rfl rfl ?_
        refine ROps.l (r := AV.b true) rfl rfl rfl (LOp.pick_true rfl rfl rfl) ?_
        refine ROps.nil ?_
        refine RunC.cond_true rfl rfl ?_
        refine RunC.skip ?_
        exact ⟨(Le.of ⟨(ALe.refl _), (ALe.refl _), (ALe.refl _), trivial⟩ ⟨⟨rfl, .inl rfl⟩, ⟨rfl, .inl rfl⟩, trivial⟩), h9_⟩
      · rcases bsel_some h9_ with ⟨hc2, h9_⟩ | ⟨hc2, h9_⟩
        · refine RunC.regionW ?_
          refine ROps.l (r := AV.sl l3.length (l3.map (AV.ik .u8))) rfl rfl rfl (LOp.move rfl rfl) ?_
          refine ROps.l (r := AV.i64 (l3.length : Int)) rfl rfl rfl (LOp.len_sl und75 rfl rfl) ?_
          refine ROps.l (r := AV.b false) rfl rfl rfl (LOp.eqb (LOp.eql rfl rfl rfl) hc1) ?_
          refine ROps.l (r := AV.b false) rfl rfl rfl (LOp.move rfl rfl) ?_
          refine ROps.l (r := AV.i64 v4) rfl rfl rfl (LOp.move rfl rfl) ?_
          refine ROps.l (r := AV.b true) rfl rfl rfl (LOp.eqb (LOp.neq rfl rfl rfl) hc2) ?_
          refine ROps.l (r := AV.b true) rfl rfl rfl (LOp.pick_false rfl rfl rfl) ?_
          refine ROps.nil ?_
          refine RunC.cond_true rfl rfl ?_
          refine RunC.skip ?_
          exact ⟨(Le.of ⟨(ALe.refl _), (ALe.refl _), (ALe.refl _), trivial⟩ ⟨⟨rfl, .inl rfl⟩, ⟨rfl, .inl rfl⟩, trivial⟩), h9_⟩
        · refine RunC.regionW ?_
          refine ROps.l (r := AV.sl l3.length (l3.map (AV.ik .u8))) rfl rfl rfl (LOp.move rfl rfl) ?_
          refine ROps.l (r := AV.i64 (l3.length : Int)) rfl rfl rfl (LOp.len_sl und75 rfl rfl) ?_
          refine ROps.l (r := AV.b false) rfl rfl rfl (LOp.eqb (LOp.eql rfl rfl rfl) hc1) ?_
          refine ROps.l (r := AV.b false) rfl rfl rfl (LOp.move rfl rfl) ?_
          refine ROps.l (r := AV.i64 v4) rfl rfl rfl (LOp.move rfl rfl) ?_
          refine ROps.l (r := AV.b false) rfl rfl rfl (LOp.eqb (LOp.neq rfl rfl rfl) hc2) ?_
          refine ROps.l (r := AV.b false) rfl rfl rfl (LOp.pick_false rfl rfl rfl) ?_
          refine ROps.nil ?_
          refine RunC.cond_false rfl rfl ?_
          refine RunC.exit ?_
          cases Option.some.inj h9_
          have hx := ho9 _ rfl
          exact ⟨l3, u1, u2, (Le.of ⟨(ALe.refl _), (ALe.refl _), trivial⟩ ⟨⟨rfl, .inl rfl⟩, ⟨rfl, .inl rfl⟩, trivial⟩), hx⟩
    · rintro τ10 Γ10 ⟨hw10, h9_⟩
      refine RunC.le (τ' := [(0, AV.i64 a0), (3, AV.sl l3.length (l3.map (AV.ik .u8))), (4, AV.i64 v4)]) (Γ' := [⟨u1, none⟩, ⟨u2, none⟩]) hw10 ?_
      unfold s_l01Dec_k5 at h9_
      refine RunC.block ?_
      refine RunC.seq ?_
      obtain ⟨hz3, h9_⟩ := need_some h9_
      obtain ⟨x5, hx4, h9_⟩ := olet_some h9_
      refine RunC.regionW ?_
      refine ROps.l (r := AV.i64 v4) rfl rfl rfl (LOp.move rfl rfl) ?_
      refine ROps.l (r := AV.i64 x5) rfl rfl rfl (LOp.eqr (LOp.rem rfl rfl rfl (nz hz3)) (congrArg (AV.ik .i64) hx4)) ?_
      refine ROps.l (r := AV.i64 x5) rfl rfl rfl (LOp.assign rfl rfl) ?_
      refine ROps.nil ?_
      refine RunC.seq ?_
      refine RunC.cutN (fun τ Γ => ∃ (v7 : Int), Le 73 τ Γ [(0, AV.i64 a0), (3, AV.sl l3.length (l3.map (AV.ik .u8))), (4, AV.i64 v4), (5, AV.i64 v7)] [⟨u1, none⟩, ⟨u2, none⟩] ∧ s_l01Dec_k6 l3 v4 v7 = some y9_) ?_ ?_
      · refine RunC.seq ?_
        rcases bsel_some h9_ with ⟨hc5, h9_⟩ | ⟨hc5, h9_⟩
        · refine RunC.regionW ?_
          refine ROps.l (r := AV.i64 x5) rfl rfl rfl (LOp.move rfl rfl) ?_
          refine ROps.l (r := AV.b true) rfl rfl rfl (LOp.eqb (LOp.lss rfl rfl rfl) hc5) ?_
          refine ROps.nil ?_
          refine RunC.cond_true rfl rfl ?_
          obtain ⟨x6, hx6, h9_⟩ := olet_some h9_
          refine RunC.regionW ?_
          refine ROps.l (r := AV.i64 x5) rfl rfl rfl (LOp.move rfl rfl) ?_
          refine ROps.l (r := AV.i64 x6) rfl rfl rfl (LOp.eqr (LOp.neg_int rfl rfl) (congrArg (AV.ik .i64) hx6)) ?_
          refine ROps.l (r := AV.i64 x6) rfl rfl rfl (LOp.assign rfl rfl) ?_
          refine ROps.nil ?_
          exact ⟨x6, (Le.of ⟨(ALe.refl _), (ALe.refl _), (ALe.refl _), (ALe.refl _), trivial⟩ ⟨⟨rfl, .inl rfl⟩, ⟨rfl, .inl rfl⟩, trivial⟩), h9_⟩
        · refine RunC.regionW ?_
          refine ROps.l (r := AV.i64 x5) rfl rfl rfl (LOp.move rfl rfl) ?_
          refine ROps.l (r := AV.b false) rfl rfl rfl (LOp.eqb (LOp.lss rfl rfl rfl) hc5) ?_
          refine ROps.nil ?_
          refine RunC.cond_false rfl rfl ?_
          refine RunC.skip ?_
          exact ⟨x5, (Le.of ⟨(ALe.refl _), (ALe.refl _), (ALe.refl _), (ALe.refl _), trivial⟩ ⟨⟨rfl, .inl rfl⟩, ⟨rfl, .inl rfl⟩, trivial⟩), h9_⟩
      · rintro τ11 Γ11 ⟨v7, hw11, h9_⟩
        refine RunC.le (τ' := [(0, AV.i64 a0), (3, AV.sl l3.length (l3.map (AV.ik .u8))), (4, AV.i64 v4), (5, AV.i64 v7)]) (Γ' := [⟨u1, none⟩, ⟨u2, none⟩]) hw11 ?_
        unfold s_l01Dec_k6 at h9_
        refine RunC.seq ?_
        obtain ⟨x8, hx7, h9_⟩ := olet_some h9_
        obtain ⟨x9, hx8, h9_⟩ := olet_some h9_
        obtain ⟨hm9, h9_⟩ := need_some h9_
        refine RunC.regionW ?_
        refine ROps.l (r := AV.i64 v7) rfl rfl rfl (LOp.move rfl rfl) ?_
        refine ROps.l (r := AV.i64 x8) rfl rfl rfl (LOp.eqr (LOp.add rfl rfl rfl) (congrArg (AV.ik .i64) hx7)) ?_
        refine ROps.l (r := AV.ik .u8 x9) rfl rfl rfl (LOp.eqr (LOp.i2i (src := 2) (dst := 5) ⟨_, pun2⟩ pun5 rfl rfl) (congrArg (AV.ik .u8) hx8)) ?_
        refine ROps.d (r := AV.oref 0 (u1 + 1) 0 1) (fs := [(0, (([x9] : List Int).map (AV.ik .u8)))]) (Γ' := [⟨(u1 + 1), some (([x9] : List Int).map (AV.ik .u8))⟩, ⟨u2, none⟩]) rfl rfl rfl (TOp.buildSlice_o (g := ⟨u1, none⟩) (za := AV.ik .u8 0) (qs := [(0, [AV.ik .u8 x9])]) 0 rfl und75 siz5 zer5 rfl zel5 rfl rfl ⟨rfl, ⟨_, ALe.refl _, rfl⟩, trivial⟩ rfl) rfl ?_
        refine ROps.l (r := AV.sl l3.length (l3.map (AV.ik .u8))) rfl rfl rfl (LOp.move rfl rfl) ?_
        refine ROps.app (f := (AV.ik .u8)) (xs := ([x9] : List Int)) (ys := l3) (Γ' := [⟨(u1 + 2), some ((([x9] : List Int) ++ l3).map (AV.ik .u8))⟩, ⟨u2, none⟩]) rfl pun75 inf5 rfl rfl rfl rfl rfl rfl rfl rfl rfl (by simp) (ReadAs.sl (by simp)) (ones_map (fun _ => rfl)) (ap_by hm9) (ap_mx hm9) rfl ?_
        refine ROps.l (r := AV.oref 0 (u1 + 2) 0 (1 + l3.length)) rfl rfl rfl (LOp.assign rfl rfl) ?_
        refine ROps.nil ?_
        obtain ⟨hz10, h9_⟩ := need_some h9_
        obtain ⟨x10, hx11, h9_⟩ := olet_some h9_
        refine RunC.regionW ?_
        refine ROps.l (r := AV.i64 v4) rfl rfl rfl (LOp.move rfl rfl) ?_
        refine ROps.l (r := AV.i64 x10) rfl rfl rfl (LOp.eqr (LOp.quo rfl rfl rfl (nz hz10)) (congrArg (AV.ik .i64) hx11)) ?_
        refine ROps.l (r := AV.i64 x10) rfl rfl rfl (LOp.assign rfl rfl) ?_
        refine ROps.nil ?_
        cases Option.some.inj h9_
        exact ⟨_, rfl, (u1 + 2), u2, (Le.trans (Le.settle 0 [(0, AV.i64 a0), (3, AV.sl (([x9] : List Int) ++ l3).length ((([x9] : List Int) ++ l3).map (AV.ik .u8))), (4, AV.i64 x10)] rfl rfl rfl ⟨.inl rfl, .inr (Bor.own (f := (AV.ik .u8)) (fun _ => rfl) rfl (show (([x9] : List Int) ++ l3).length = (1 + l3.length) from (app_len rfl rfl))), .inl rfl, trivial⟩) (Le.of ⟨(ALe.refl _), (ALe.refl _), (ALe.refl _), trivial⟩ ⟨⟨rfl, .inl rfl⟩, ⟨rfl, .inl rfl⟩, trivial⟩))⟩
  · rintro τ12 Γ12 ⟨l13, u11, u12, hw12, rfl⟩
    refine RunC.le (τ' := [(0, AV.i64 a0), (3, AV.sl l13.length (l13.map (AV.ik .u8)))]) (Γ' := [⟨u11, none⟩, ⟨u12, none⟩]) hw12 ?_
    replace h : s_l01Dec_k7 a0 l13 = some q0 := h
    unfold s_l01Dec_k7 at h
    refine RunC.seq ?_
    refine RunC.cutN (fun τ Γ => ∃ (l15 : List Int) (u14 : Nat), Le 73 τ Γ [(3, AV.sl l15.length (l15.map (AV.ik .u8)))] [⟨u14, none⟩, ⟨u12, none⟩] ∧ s_l01Dec_k8 l15 = some q0) ?_ ?_
    · refine RunC.seq ?_
      rcases bsel_some h with ⟨hc12, h⟩ | ⟨hc12, h⟩
      · refine RunC.regionW ?_
        refine ROps.l (r := AV.i64 a0) rfl rfl rfl (LOp.move rfl rfl) ?_
        refine ROps.l (r := AV.b true) rfl rfl rfl (LOp.eqb (LOp.lss rfl rfl rfl) hc12) ?_
        refine ROps.nil ?_
        refine RunC.cond_true rfl rfl ?_
        obtain ⟨hm13, h⟩ := need_some h
        refine RunC.regionW ?_
        refine ROps.d (r := AV.oref 0 (u11 + 1) 0 1) (fs := [(0, (([45] : List Int).map (AV.ik .u8)))]) (Γ' := [⟨(u11 + 1), some (([45] : List Int).map (AV.ik .u8))⟩, ⟨u12, none⟩]) rfl rfl rfl (TOp.buildSlice_o (g := ⟨u11, none⟩) (za := AV.ik .u8 0) (qs := [(0, [AV.ik .u8 45])]) 0 rfl und75 siz5 zer5 rfl zel5 rfl rfl ⟨rfl, ⟨_, ALe.refl _, rfl⟩, trivial⟩ rfl) rfl ?_
        refine ROps.l (r := AV.sl l13.length (l13.map (AV.ik .u8))) rfl rfl rfl (LOp.move rfl rfl) ?_
        refine ROps.app (f := (AV.ik .u8)) (xs := ([45] : List Int)) (ys := l13) (Γ' := [⟨(u11 + 2), some ((([45] : List Int) ++ l13).map (AV.ik .u8))⟩, ⟨u12, none⟩]) rfl pun75 inf5 rfl rfl rfl rfl rfl rfl rfl rfl rfl (by simp) (ReadAs.sl (by simp)) (ones_map (fun _ => rfl)) (ap_by hm13) (ap_mx hm13) rfl ?_
        refine ROps.l (r := AV.oref 0 (u11 + 2) 0 (1 + l13.length)) rfl rfl rfl (LOp.assign rfl rfl) ?_
        refine ROps.nil ?_
        exact ⟨(([45] : List Int) ++ l13), (u11 + 2), (Le.trans (Le.settle 0 [(3, AV.sl (([45] : List Int) ++ l13).length ((([45] : List Int) ++ l13).map (AV.ik .u8)))] rfl rfl rfl ⟨.inr (Bor.own (f := (AV.ik .u8)) (fun _ => rfl) rfl (show (([45] : List Int) ++ l13).length = (1 + l13.length) from (app_len rfl rfl))), trivial⟩) (Le.of ⟨(ALe.refl _), trivial⟩ ⟨⟨rfl, .inl rfl⟩, ⟨rfl, .inl rfl⟩, trivial⟩)), h⟩
      · refine RunC.regionW ?_
        refine ROps.l (r := AV.i64 a0) rfl rfl rfl (LOp.move rfl rfl) ?_
        refine ROps.l (r := AV.b false) rfl rfl rfl (LOp.eqb (LOp.lss rfl rfl rfl) hc12) ?_
        refine ROps.nil ?_
        refine RunC.cond_false rfl rfl ?_
        refine RunC.skip ?_
        exact ⟨l13, u11, (Le.of ⟨(ALe.refl _), trivial⟩ ⟨⟨rfl, .inl rfl⟩, ⟨rfl, .inl rfl⟩, trivial⟩), h⟩
    · rintro τ13 Γ13 ⟨l15, u14, hw13, h⟩
      refine RunC.le (τ' := [(3, AV.sl l15.length (l15.map (AV.ik .u8)))]) (Γ' := [⟨u14, none⟩, ⟨u12, none⟩]) hw13 ?_
      unfold s_l01Dec_k8 at h
      refine RunC.seq ?_
      refine RunC.regionW ?_
      refine ROps.l (r := AV.sl l15.length (l15.map (AV.ik .u8))) rfl rfl rfl (LOp.move rfl rfl) ?_
      refine ROps.d (r := AV.str (strOfNums l15)) (fs := []) (Γ' := [⟨u14, none⟩, ⟨u12, none⟩]) rfl rfl rfl (TOp.b2s (xs := l15) pun75 pun5 pun9 rfl (fun _ _ => ReadAs.sl (by simp))) rfl ?_
      refine ROps.l (r := AV.str (strOfNums l15)) rfl rfl rfl (LOp.assign rfl rfl) ?_
      refine ROps.nil ?_
      refine RunC.ret ?_
      have hq := Option.some.inj h
      subst q0
      exact bodyQ.pure (.inr rfl) rfl (Res.one rfl (RV.tmp rfl))
noncomputable def s_l08Recover_b2 (r1 : List ByteArray) (v8 : Int) (v9 : Int) : Option (LR (Int) (Int) (Int × (List ByteArray))) :=
  obind (at? r1 v8) fun (e10 : ByteArray) =>
  bsel (decide (v9 < (e10.size : Int))) (
    obind (at? r1 v8) fun (e11 : ByteArray) =>
    obind (sat? e11 v9) fun (e12 : Int) =>
    bsel (!decide (e12 = 32)) (
      olet (IntKind.i64.wrap (v9 + 1)) fun (x13 : Int) =>
      some (LR.next x13)) (
      some (LR.out v9))) (
    some (LR.out v9))
noncomputable def s_l08Recover_s2 (r1 : List ByteArray) (v8 : Int) : (Int) → Option (LR (Int) (Int) (Int × (List ByteArray))) := fun s => s_l08Recover_b2 r1 v8 s
noncomputable def s_l08Recover_k2 (r1 : List ByteArray) (L5 : List ByteArray) (v6 : Int) (v7 : Int) (v8 : Int) (v14 : Int) : Option (LR ((List ByteArray) × Int × Int × Int) ((List ByteArray) × Int) (Int × (List ByteArray))) :=
  obind (at? r1 v8) fun (e15 : ByteArray) =>
  bsel (decide (v14 = (e15.size : Int))) (
    some (LR.out (L5, v7))) (
    obind (at? r1 v8) fun (e16 : ByteArray) =>
    olet (IntKind.i64.wrap (v14 + 1)) fun (x17 : Int) =>
    obind (subs? e16 x17 (e16.size : Int)) fun (t18 : ByteArray) =>
    obind (s_l01Check v6 t18) fun (r19 : Int) =>
    obind (at? r1 v8) fun (e20 : ByteArray) =>
    obind (subs? e20 0 v14) fun (t21 : ByteArray) =>
    obind (s_l01Dec r19) fun (r22 : ByteArray) =>
    bsel (!eqs t21 r22) (
      some (LR.out (L5, v7))) (
      need (apok 16 L5.length 1) <|
      obind (at? r1 v8) fun (e23 : ByteArray) =>
      olet (IntKind.i64.wrap ((e23.size : Int) + 1)) fun (x24 : Int) =>
      olet (IntKind.i64.wrap (v7 + x24)) fun (x25 : Int) =>
      olet (IntKind.i64.wrap (v8 + 1)) fun (x26 : Int) =>
      some (LR.next ((L5 ++ ([t18] : List ByteArray)), r19, x25, x26))))
noncomputable def s_l08Recover_b3 (r1 : List ByteArray) (L5 : List ByteArray) (v6 : Int) (v7 : Int) (v8 : Int) : Option (LR ((List ByteArray) × Int × Int × Int) ((List ByteArray) × Int) (Int × (List ByteArray))) :=
  bsel (decide (v8 < (r1.length : Int))) (
    obind (loopM (s_l08Recover_s2 r1 v8) 0) fun z => osum z (fun e => s_l08Recover_k2 r1 L5 v6 v7 v8 e) (fun r => some (LR.ret r))) (
    some (LR.out (L5, v7)))
noncomputable def s_l08Recover_s3 (r1 : List ByteArray) : ((List ByteArray) × Int × Int × Int) → Option (LR ((List ByteArray) × Int × Int × Int) ((List ByteArray) × Int) (Int × (List ByteArray))) := fun s => s_l08Recover_b3 r1 s.1 s.2.1 s.2.2.1 s.2.2.2
noncomputable def s_l08Recover_k3 (L29 : List ByteArray) (v30 : Int) : Option (Int × (List ByteArray)) :=
  some (v30, L29)
noncomputable def s_l08Recover (a0 : ByteArray) : Option (Int × (List ByteArray)) :=
  obind2 (s_l08Lines a0) fun (r1 : List ByteArray) (r2 : ByteArray) =>
  obind (loopM (s_l08Recover_s3 r1) (([] : List ByteArray), 0, 0, 0)) fun z => osum z (fun e => s_l08Recover_k3 e.1 e.2) (fun r => some r)
theorem s_l08Recover_ok (a0 : ByteArray) (q0 : Int) (q1 : List ByteArray) (h : s_l08Recover a0 = some (q0, q1)) : Ev Tryd.prog 52 [AV.str a0] [] (AV.tup [AV.oref 0 0 0 q1.length, AV.i64 q0]) [⟨0, some (q1.map AV.str)⟩] := by
  refine Ev.start Tryd.func52 rfl rfl 2 (τ := [(0, AV.str a0)]) rfl (Γ' := [⟨0, none⟩, ⟨0, none⟩]) rfl (n := 165) rfl (g := 0) rfl (fun _ => rfl) ?_
  unfold s_l08Recover at h
  refine RunC.seq ?_
  refine RunC.regionW ?_
  refine ROps.l (r := AV.nilsl) rfl rfl rfl (LOp.assign rfl rfl) ?_
  refine ROps.l (r := AV.i64 0) rfl rfl rfl (LOp.assign rfl rfl) ?_
  refine ROps.nil ?_
  refine RunC.seq ?_
  obtain ⟨r1, r2, hf1, h⟩ := obind2_some h
  refine RunC.regionW ?_
  refine ROps.l (r := AV.str a0) rfl rfl rfl (LOp.move rfl rfl) ?_
  refine ROps.d (r := AV.tup [AV.sl r1.length (r1.map AV.str), AV.str r2]) (fs := []) (Γ' := [⟨0, none⟩, ⟨0, none⟩]) rfl rfl rfl (TOp.call (CallAs.le (CallAs.func ent35 rfl rfl) (ALes.cons (ALe.refl _) ALes.nil)) (lts_cons rfl lts_nil) (lt_tup (lts_cons (lt_sl (fun _ => rfl)) (lts_cons rfl lts_nil))) (s_l08Lines_ok a0 r1 r2 hf1)) rfl ?_
  refine ROps.l (r := AV.tup [AV.sl r1.length (r1.map AV.str), AV.str r2]) rfl rfl rfl (LOp.move rfl rfl) ?_
  refine ROps.l (r := AV.sl r1.length (r1.map AV.str)) rfl rfl rfl (LOp.extract rfl rfl rfl) ?_
  refine ROps.l (r := AV.str r2) rfl rfl rfl (LOp.extract rfl rfl rfl) ?_
  refine ROps.l (r := AV.sl r1.length (r1.map AV.str)) rfl rfl rfl (LOp.assign rfl rfl) ?_
  refine ROps.l (r := AV.str r2) rfl rfl rfl (LOp.assign rfl rfl) ?_
  refine ROps.nil ?_
  refine RunC.seq ?_
  refine RunC.regionW ?_
  refine ROps.d (r := AV.oref 0 1 0 0) (fs := [(0, (([] : List ByteArray).map AV.str))]) (Γ' := [⟨1, some (([] : List ByteArray).map AV.str)⟩, ⟨0, none⟩]) rfl rfl rfl (TOp.buildSlice_o (g := ⟨0, none⟩) (za := AV.str lit_99ba06bc) (qs := []) 0 rfl und35 siz9 zer9 rfl zel9 rfl rfl trivial rfl) rfl ?_
  refine ROps.l (r := AV.oref 0 1 0 0) rfl rfl rfl (LOp.assign rfl rfl) ?_
  refine ROps.nil ?_
  refine RunC.seq ?_
  refine RunC.regionW ?_
  refine ROps.l (r := AV.i64 0) rfl rfl rfl (LOp.assign rfl rfl) ?_
  refine ROps.nil ?_
  refine RunC.seq ?_
  refine RunC.regionW ?_
  refine ROps.l (r := AV.i64 0) rfl rfl rfl (LOp.assign rfl rfl) ?_
  refine ROps.nil ?_
  refine RunC.seq ?_
  refine RunC.seq ?_
  refine RunC.regionW ?_
  refine ROps.l (r := AV.i64 0) rfl rfl rfl (LOp.assign rfl rfl) ?_
  refine ROps.nil ?_
  obtain ⟨z4, hz_4, h⟩ := obind_some h
  refine RunC.cutN (fun τ Γ => ∃ (L29 : List ByteArray) (v30 : Int) (u27 : Nat) (u28 : Nat), WeakLe τ [(6, AV.oref 0 u27 0 L29.length), (8, AV.i64 v30)] ∧ DeadLe Γ [⟨u27, some (L29.map AV.str)⟩, ⟨u28, none⟩] ∧ z4 = .inl (L29, v30)) ?_ ?_
  · refine RunC.block (RunC.loop (RunL.loopM (x := z4) (s_l08Recover_s3 r1) (fun (s : (List ByteArray) × Int × Int × Int) τ Γ => ∃ (u3 : Nat) (u4 : Nat), WeakLe τ [(4, AV.sl r1.length (r1.map AV.str)), (6, AV.oref 0 u3 0 s.1.length), (7, AV.i64 s.2.1), (8, AV.i64 s.2.2.1), (9, AV.i64 s.2.2.2)] ∧ DeadLe Γ [⟨u3, some (s.1.map AV.str)⟩, ⟨u4, none⟩]) ?_ _ _ _ hz_4 ⟨1, 0, ⟨(ALe.refl _), (ALe.refl _), (ALe.refl _), (ALe.refl _), (ALe.refl _), trivial⟩, ⟨⟨rfl, .inr rfl⟩, ⟨rfl, .inl rfl⟩, trivial⟩⟩))
    rintro ⟨L5, v6, v7, v8⟩ τ4 Γ4 y4_ ⟨u3, u4, hw4, hd4⟩ h4_ ho4 hr4
    refine RunC.wl (τ' := [(4, AV.sl r1.length (r1.map AV.str)), (6, AV.oref 0 u3 0 L5.length), (7, AV.i64 v6), (8, AV.i64 v7), (9, AV.i64 v8)]) (Γ' := [⟨u3, some (L5.map AV.str)⟩, ⟨u4, none⟩]) hw4 hd4 ?_
    replace h4_ : s_l08Recover_b3 r1 L5 v6 v7 v8 = some y4_ := h4_
    unfold s_l08Recover_b3 at h4_
    refine RunC.seq ?_
    refine RunC.seq ?_
    rcases bsel_some h4_ with ⟨hc2, h4_⟩ | ⟨hc2, h4_⟩
    · refine RunC.regionW ?_
      refine ROps.l (r := AV.i64 v8) rfl rfl rfl (LOp.move rfl rfl) ?_
      refine ROps.l (r := AV.sl r1.length (r1.map AV.str)) rfl rfl rfl (LOp.move rfl rfl) ?_
      refine ROps.l (r := AV.i64 (r1.length : Int)) rfl rfl rfl (LOp.len_sl und35 rfl rfl) ?_
      refine ROps.l (r := AV.b true) rfl rfl rfl (LOp.eqb (LOp.lss rfl rfl rfl) hc2) ?_
      refine ROps.nil ?_
      refine RunC.cond_true rfl rfl ?_
      refine RunC.skip ?_
      refine RunC.seq ?_
      refine RunC.block ?_
      refine RunC.seq ?_
      refine RunC.regionW ?_
      refine ROps.l (r := AV.i64 0) rfl rfl rfl (LOp.assign rfl rfl) ?_
      refine ROps.nil ?_
      refine RunC.seq ?_
      obtain ⟨z5, hz_5, h4_⟩ := obind_some h4_
      refine RunC.cutN (fun τ Γ => ∃ (v14 : Int), WeakLe τ [(4, AV.sl r1.length (r1.map AV.str)), (6, AV.oref 0 u3 0 L5.length), (7, AV.i64 v6), (8, AV.i64 v7), (9, AV.i64 v8), (10, AV.i64 v14)] ∧ DeadLe Γ [⟨u3, some (L5.map AV.str)⟩, ⟨u4, none⟩] ∧ z5 = .inl v14) ?_ ?_
      · refine RunC.block (RunC.loop (RunL.loopM (x := z5) (s_l08Recover_s2 r1 v8) (fun (s : Int) τ Γ => WeakLe τ [(4, AV.sl r1.length (r1.map AV.str)), (6, AV.oref 0 u3 0 L5.length), (7, AV.i64 v6), (8, AV.i64 v7), (9, AV.i64 v8), (10, AV.i64 s)] ∧ DeadLe Γ [⟨u3, some (L5.map AV.str)⟩, ⟨u4, none⟩]) ?_ _ _ _ hz_5 ⟨⟨(ALe.refl _), (ALe.refl _), (ALe.refl _), (ALe.refl _), (ALe.refl _), (ALe.refl _), trivial⟩, ⟨⟨rfl, .inr rfl⟩, ⟨rfl, .inl rfl⟩, trivial⟩⟩))
        rintro v9 τ5 Γ5 y5_ ⟨hw5, hd5⟩ h5_ ho5 hr5
        refine RunC.wl (τ' := [(4, AV.sl r1.length (r1.map AV.str)), (6, AV.oref 0 u3 0 L5.length), (7, AV.i64 v6), (8, AV.i64 v7), (9, AV.i64 v8), (10, AV.i64 v9)]) (Γ' := [⟨u3, some (L5.map AV.str)⟩, ⟨u4, none⟩]) hw5 hd5 ?_
        replace h5_ : s_l08Recover_b2 r1 v8 v9 = some y5_ := h5_
        unfold s_l08Recover_b2 at h5_
        refine RunC.seq ?_
        refine RunC.seq ?_
        obtain ⟨e10, he3, h5_⟩ := obind_some h5_
        rcases bsel_some h5_ with ⟨hc4, h5_⟩ | ⟨hc4, h5_⟩
        · obtain ⟨e11, he5, h5_⟩ := obind_some h5_
          obtain ⟨e12, he6, h5_⟩ := obind_some h5_
          rcases bsel_some h5_ with ⟨hc7, h5_⟩ | ⟨hc7, h5_⟩
          · refine RunC.regionW ?_
            refine ROps.l (r := AV.i64 v9) rfl rfl rfl (LOp.move rfl rfl) ?_
            refine ROps.l (r := AV.sl r1.length (r1.map AV.str)) rfl rfl rfl (LOp.move rfl rfl) ?_
            refine ROps.l (r := AV.i64 v8) rfl rfl rfl (LOp.move rfl rfl) ?_
            refine ROps.l (r := AV.ptr [AV.str e10]) rfl rfl rfl (LOp.le (LOp.ix (f := AV.str) und35 siz9 rfl rfl rfl rfl he3) ALe.ptr) ?_
            refine ROps.l (r := AV.str e10) rfl rfl rfl (LOp.load1 agg9 rfl rfl) ?_
            refine ROps.l (r := AV.i64 (e10.size : Int)) rfl rfl rfl (LOp.len_str und9 rfl rfl) ?_
            refine ROps.l (r := AV.b true) rfl rfl rfl (LOp.eqb (LOp.lss rfl rfl rfl) hc4) ?_
            refine ROps.l (r := AV.b true) rfl rfl rfl (LOp.move rfl rfl) ?_
            refine ROps.l (r := AV.sl r1.length (r1.map AV.str)) rfl rfl rfl (LOp.move rfl rfl) ?_
            refine ROps.l (r := AV.i64 v8) rfl rfl rfl (LOp.move rfl rfl) ?_
            refine ROps.l (r := AV.ptr [AV.str e11]) rfl rfl rfl (LOp.le (LOp.ix (f := AV.str) und35 siz9 rfl rfl rfl rfl he5) ALe.ptr) ?_
            refine ROps.l (r := AV.str e11) rfl rfl rfl (LOp.load1 agg9 rfl rfl) ?_
            refine ROps.l (r := AV.i64 v9) rfl rfl rfl (LOp.move rfl rfl) ?_
            refine ROps.l (r := AV.ik .u8 e12) rfl rfl rfl (LOp.index_str und9 rfl rfl rfl he6) ?_
            refine ROps.l (r := AV.b true) rfl rfl rfl (LOp.eqb (LOp.neq rfl rfl rfl) hc7) ?_
            refine ROps.l (r := AV.b true) rfl rfl rfl (LOp.pick_true rfl rfl rfl) ?_
            refine ROps.nil ?_
            refine RunC.cond_true rfl rfl ?_
            refine RunC.skip ?_
            refine RunC.block ?_
            obtain ⟨x13, hx8, h5_⟩ := olet_some h5_
            refine RunC.regionW ?_
            refine ROps.l (r := AV.i64 v9) rfl rfl rfl (LOp.move rfl rfl) ?_
            refine ROps.l (r := AV.i64 x13) rfl rfl rfl (LOp.eqr (LOp.add rfl rfl rfl) (congrArg (AV.ik .i64) hx8)) ?_
            refine ROps.l (r := AV.i64 x13) rfl rfl rfl (LOp.assign rfl rfl) ?_
            refine ROps.nil ?_
            cases Option.some.inj h5_
            exact ⟨_, rfl, ⟨(ALe.refl _), (ALe.refl _), (ALe.refl _), (ALe.refl _), (ALe.refl _), (ALe.refl _), trivial⟩, ⟨⟨rfl, .inr rfl⟩, ⟨rfl, .inl rfl⟩, trivial⟩⟩
          · refine RunC.regionW ?_
            refine ROps.l (r := AV.i64 v9) rfl rfl rfl (LOp.move rfl rfl) ?_
            refine ROps.l (r := AV.sl r1.length (r1.map AV.str)) rfl rfl rfl (LOp.move rfl rfl) ?_
            refine ROps.l (r := AV.i64 v8) rfl rfl rfl (LOp.move rfl rfl) ?_
            refine ROps.l (r := AV.ptr [AV.str e10]) rfl rfl rfl (LOp.le (LOp.ix (f := AV.str) und35 siz9 rfl rfl rfl rfl he3) ALe.ptr) ?_
            refine ROps.l (r := AV.str e10) rfl rfl rfl (LOp.load1 agg9 rfl rfl) ?_
            refine ROps.l (r := AV.i64 (e10.size : Int)) rfl rfl rfl (LOp.len_str und9 rfl rfl) ?_
            refine ROps.l (r := AV.b true) rfl rfl rfl (LOp.eqb (LOp.lss rfl rfl rfl) hc4) ?_
            refine ROps.l (r := AV.b true) rfl rfl rfl (LOp.move rfl rfl) ?_
            refine ROps.l (r := AV.sl r1.length (r1.map AV.str)) rfl rfl rfl (LOp.move rfl rfl) ?_
            refine ROps.l (r := AV.i64 v8) rfl rfl rfl (LOp.move rfl rfl) ?_
            refine ROps.l (r := AV.ptr [AV.str e11]) rfl rfl rfl (LOp.le (LOp.ix (f := AV.str) und35 siz9 rfl rfl rfl rfl he5) ALe.ptr) ?_
            refine ROps.l (r := AV.str e11) rfl rfl rfl (LOp.load1 agg9 rfl rfl) ?_
            refine ROps.l (r := AV.i64 v9) rfl rfl rfl (LOp.move rfl rfl) ?_
            refine ROps.l (r := AV.ik .u8 e12) rfl rfl rfl (LOp.index_str und9 rfl rfl rfl he6) ?_
            refine ROps.l (r := AV.b false) rfl rfl rfl (LOp.eqb (LOp.neq rfl rfl rfl) hc7) ?_
            refine ROps.l (r := AV.b false) rfl rfl rfl (LOp.pick_true rfl rfl rfl) ?_
            refine ROps.nil ?_
            refine RunC.cond_false rfl rfl ?_
            refine RunC.exit ?_
            cases Option.some.inj h5_
            have hx := ho5 _ rfl
            exact ⟨v9, ⟨(ALe.refl _), (ALe.refl _), (ALe.refl _), (ALe.refl _), (ALe.refl _), (ALe.refl _), trivial⟩, ⟨⟨rfl, .inr rfl⟩, ⟨rfl, .inl rfl⟩, trivial⟩, hx⟩
        · refine RunC.regionW ?_
          refine ROps.l (r := AV.i64 v9) rfl rfl rfl (LOp.move rfl rfl) ?_
          refine ROps.l (r := AV.sl r1.length (r1.map AV.str)) rfl rfl rfl (LOp.move rfl rfl) ?_
          refine ROps.l (r := AV.i64 v8) rfl rfl rfl (LOp.move rfl rfl) ?_
          refine ROps.l (r := AV.ptr [AV.str e10]) rfl rfl rfl (LOp.le (LOp.ix (f := AV.str) und35 siz9 rfl rfl rfl rfl he3) ALe.ptr) ?_
          refine ROps.l (r := AV.str e10) rfl rfl rfl (LOp.load1 agg9 rfl rfl) ?_
          refine ROps.l (r := AV.i64 (e10.size : Int)) rfl rfl rfl (LOp.len_str und9 rfl rfl) ?_
          refine ROps.l (r := AV.b false) rfl rfl rfl (LOp.eqb (LOp.lss rfl rfl rfl) hc4) ?_
          refine ROps.l (r := AV.b false) rfl rfl rfl (LOp.move rfl rfl) ?_
          refine ROps.s rfl rfl rfl ?_
          refine ROps.s rfl rfl rfl ?_
          refine ROps.s rfl rfl rfl ?_
          refine ROps.s rfl rfl rfl ?_
          refine ROps.s rfl rfl rfl ?_
          refine ROps.s rfl rfl rfl ?_
          refine ROps.s rfl rfl rfl ?_
          refine ROps.l (r := AV.b false) rfl rfl rfl (LOp.pick_false rfl rfl rfl) ?_
          refine ROps.nil ?_
          refine RunC.cond_false rfl rfl ?_
          refine RunC.exit ?_
          cases Option.some.inj h5_
          have hx := ho5 _ rfl
          exact ⟨v9, ⟨(ALe.refl _), (ALe.refl _), (ALe.refl _), (ALe.refl _), (ALe.refl _), (ALe.refl _), trivial⟩, ⟨⟨rfl, .inr rfl⟩, ⟨rfl, .inl rfl⟩, trivial⟩, hx⟩
      · rintro τ6 Γ6 ⟨v14, hw6, hd6, rfl⟩
        refine RunC.wl (τ' := [(4, AV.sl r1.length (r1.map AV.str)), (6, AV.oref 0 u3 0 L5.length), (7, AV.i64 v6), (8, AV.i64 v7), (9, AV.i64 v8), (10, AV.i64 v14)]) (Γ' := [⟨u3, some (L5.map AV.str)⟩, ⟨u4, none⟩]) hw6 hd6 ?_
        replace h4_ : s_l08Recover_k2 r1 L5 v6 v7 v8 v14 = some y4_ := h4_
        unfold s_l08Recover_k2 at h4_
        refine RunC.seq ?_
        refine RunC.seq ?_
        obtain ⟨e15, he9, h4_⟩ := obind_some h4_
        rcases bsel_some h4_ with ⟨hc10, h4_⟩ | ⟨hc10, h4_⟩
        · refine RunC.regionW ?_
          refine ROps.l (r := AV.i64 v14) rfl rfl rfl (LOp.move rfl rfl) ?_
          refine ROps.l (r := AV.sl r1.length (r1.map AV.str)) rfl rfl rfl (LOp.move rfl rfl) ?_
          refine ROps.l (r := AV.i64 v8) rfl rfl rfl (LOp.move rfl rfl) ?_
          refine ROps.l (r := AV.ptr [AV.str e15]) rfl rfl rfl (LOp.le (LOp.ix (f := AV.str) und35 siz9 rfl rfl rfl rfl he9) ALe.ptr) ?_
          refine ROps.l (r := AV.str e15) rfl rfl rfl (LOp.load1 agg9 rfl rfl) ?_
          refine ROps.l (r := AV.i64 (e15.size : Int)) rfl rfl rfl (LOp.len_str und9 rfl rfl) ?_
          refine ROps.l (r := AV.b true) rfl rfl rfl (LOp.eqb (LOp.eql rfl rfl rfl) hc10) ?_
          refine ROps.nil ?_
          refine RunC.cond_true rfl rfl ?_
          refine RunC.exit ?_
          cases Option.some.inj h4_
          have hx := ho4 _ rfl
          exact ⟨L5, v7, u3, u4, ⟨(ALe.refl _), (ALe.refl _), trivial⟩, ⟨⟨rfl, .inr rfl⟩, ⟨rfl, .inl rfl⟩, trivial⟩, hx⟩
        · refine RunC.regionW ?_
          refine ROps.l (r := AV.i64 v14) rfl rfl rfl (LOp.move rfl rfl) ?_
          refine ROps.l (r := AV.sl r1.length (r1.map AV.str)) rfl rfl rfl (LOp.move rfl rfl) ?_
          refine ROps.l (r := AV.i64 v8) rfl rfl rfl (LOp.move rfl rfl) ?_
          refine ROps.l (r := AV.ptr [AV.str e15]) rfl rfl rfl (LOp.le (LOp.ix (f := AV.str) und35 siz9 rfl rfl rfl rfl he9) ALe.ptr) ?_
          refine ROps.l (r := AV.str e15) rfl rfl rfl (LOp.load1 agg9 rfl rfl) ?_
          refine ROps.l (r := AV.i64 (e15.size : Int)) rfl rfl rfl (LOp.len_str und9 rfl rfl) ?_
          refine ROps.l (r := AV.b false) rfl rfl rfl (LOp.eqb (LOp.eql rfl rfl rfl) hc10) ?_
          refine ROps.nil ?_
          refine RunC.cond_false rfl rfl ?_
          refine RunC.skip ?_
          refine RunC.seq ?_
          obtain ⟨e16, he11, h4_⟩ := obind_some h4_
          obtain ⟨x17, hx12, h4_⟩ := olet_some h4_
          obtain ⟨t18, hs13, h4_⟩ := obind_some h4_
          refine RunC.regionW ?_
          refine ROps.l (r := AV.sl r1.length (r1.map AV.str)) rfl rfl rfl (LOp.move rfl rfl) ?_
          refine ROps.l (r := AV.i64 v8) rfl rfl rfl (LOp.move rfl rfl) ?_
          refine ROps.l (r := AV.ptr [AV.str e16]) rfl rfl rfl (LOp.le (LOp.ix (f := AV.str) und35 siz9 rfl rfl rfl rfl he11) ALe.ptr) ?_
          refine ROps.l (r := AV.str e16) rfl rfl rfl (LOp.load1 agg9 rfl rfl) ?_
          refine ROps.l (r := AV.i64 v14) rfl rfl rfl (LOp.move rfl rfl) ?_
          refine ROps.l (r := AV.i64 x17) rfl rfl rfl (LOp.eqr (LOp.add rfl rfl rfl) (congrArg (AV.ik .i64) hx12)) ?_
          refine ROps.l (r := AV.str t18) rfl rfl rfl (LOp.subs_lo und9 rfl rfl rfl hs13) ?_
          refine ROps.l (r := AV.str t18) rfl rfl rfl (LOp.assign rfl rfl) ?_
          refine ROps.nil ?_
          refine RunC.seq ?_
          obtain ⟨r19, hf14, h4_⟩ := obind_some h4_
          refine RunC.regionW ?_
          refine ROps.l (r := AV.i64 v6) rfl rfl rfl (LOp.move rfl rfl) ?_
          refine ROps.l (r := AV.str t18) rfl rfl rfl (LOp.move rfl rfl) ?_
          refine ROps.d (r := AV.i64 r19) (fs := []) (Γ' := [⟨u3, some (L5.map AV.str)⟩, ⟨u4, none⟩]) rfl rfl rfl (TOp.callB (CallAs.func ent72 rfl rfl) (Bors.cons (Bor.pure rfl) (Bors.cons (Bor.pure rfl) Bors.nil)) rfl rfl (s_l01Check_ok v6 t18 r19 hf14)) rfl ?_
          refine ROps.l (r := AV.i64 r19) rfl rfl rfl (LOp.assign rfl rfl) ?_
          refine ROps.nil ?_
          refine RunC.seq ?_
          refine RunC.seq ?_
          obtain ⟨e20, he15, h4_⟩ := obind_some h4_
          obtain ⟨t21, hs16, h4_⟩ := obind_some h4_
          obtain ⟨r22, hf17, h4_⟩ := obind_some h4_
          rcases bsel_some h4_ with ⟨hc18, h4_⟩ | ⟨hc18, h4_⟩
          · refine RunC.region_draw (Γ' := [⟨u3, some (L5.map AV.str)⟩, ⟨u4, none⟩]) 9 mixed 
              (TR.l (r := AV.sl r1.length (r1.map AV.str)) rfl rfl (LOp.move rfl rfl) <|
              (TR.l (r := AV.i64 v8) rfl rfl (LOp.move rfl rfl) <|
              (TR.l (r := AV.ptr [AV.str e20]) rfl rfl (LOp.le (LOp.ix (f := AV.str) und35 siz9 rfl rfl rfl rfl he15) ALe.ptr) <|
              (TR.l (r := AV.str e20) rfl rfl (LOp.load1 agg9 rfl rfl) <|
              (TR.l (r := AV.i64 v14) rfl rfl (LOp.move rfl rfl) <|
              (TR.l (r := AV.str t21) rfl rfl (LOp.subs_hi und9 rfl rfl rfl hs16) <|
              (TR.l (r := AV.i64 r19) rfl rfl (LOp.move rfl rfl) <|
              (TR.d (r := AV.str r22) (fs := []) rfl rfl (TOp.callB (CallAs.func ent73 rfl rfl) (Bors.cons (Bor.pure rfl) Bors.nil) rfl rfl (s_l01Dec_ok r19 r22 hf17)) <|
              (TR.l (r := AV.b true) rfl rfl (LOp.eqb (LOp.neqs rfl rfl rfl) hc18) <|
              TR.nil))))))))) rfl (by kernel_rfl) rfl fills_nil rfl ?_
            iterate 9 refine ROps.dropS ?_
            refine ROps.drop0 ?_
            refine ROps.nil ?_
            refine RunC.wl (τ' := [(4, AV.sl r1.length (r1.map AV.str)), (6, AV.oref 0 u3 0 L5.length), (7, AV.i64 r19), (8, AV.i64 v7), (9, AV.i64 v8), (11, AV.str t18), (67, AV.b true)]) (Γ' := [⟨u3, some (L5.map AV.str)⟩, ⟨u4, none⟩]) ⟨(ALe.refl _), (ALe.refl _), (ALe.refl _), (ALe.refl _), (ALe.refl _), (ALe.refl _), (ALe.refl _), trivial⟩ ⟨⟨rfl, .inr rfl⟩, ⟨rfl, .inl rfl⟩, trivial⟩ ?_
            refine RunC.cond_true rfl rfl ?_
            refine RunC.exit ?_
            cases Option.some.inj h4_
            have hx := ho4 _ rfl
            exact ⟨L5, v7, u3, u4, ⟨(ALe.refl _), (ALe.refl _), trivial⟩, ⟨⟨rfl, .inr rfl⟩, ⟨rfl, .inl rfl⟩, trivial⟩, hx⟩
          · refine RunC.region_draw (Γ' := [⟨u3, some (L5.map AV.str)⟩, ⟨u4, none⟩]) 9 mixed 
              (TR.l (r := AV.sl r1.length (r1.map AV.str)) rfl rfl (LOp.move rfl rfl) <|
              (TR.l (r := AV.i64 v8) rfl rfl (LOp.move rfl rfl) <|
              (TR.l (r := AV.ptr [AV.str e20]) rfl rfl (LOp.le (LOp.ix (f := AV.str) und35 siz9 rfl rfl rfl rfl he15) ALe.ptr) <|
              (TR.l (r := AV.str e20) rfl rfl (LOp.load1 agg9 rfl rfl) <|
              (TR.l (r := AV.i64 v14) rfl rfl (LOp.move rfl rfl) <|
              (TR.l (r := AV.str t21) rfl rfl (LOp.subs_hi und9 rfl rfl rfl hs16) <|
              (TR.l (r := AV.i64 r19) rfl rfl (LOp.move rfl rfl) <|
              (TR.d (r := AV.str r22) (fs := []) rfl rfl (TOp.callB (CallAs.func ent73 rfl rfl) (Bors.cons (Bor.pure rfl) Bors.nil) rfl rfl (s_l01Dec_ok r19 r22 hf17)) <|
              (TR.l (r := AV.b false) rfl rfl (LOp.eqb (LOp.neqs rfl rfl rfl) hc18) <|
              TR.nil))))))))) rfl (by kernel_rfl) rfl fills_nil rfl ?_
            iterate 9 refine ROps.dropS ?_
            refine ROps.drop0 ?_
            refine ROps.nil ?_
            refine RunC.wl (τ' := [(4, AV.sl r1.length (r1.map AV.str)), (6, AV.oref 0 u3 0 L5.length), (7, AV.i64 r19), (8, AV.i64 v7), (9, AV.i64 v8), (11, AV.str t18), (67, AV.b false)]) (Γ' := [⟨u3, some (L5.map AV.str)⟩, ⟨u4, none⟩]) ⟨(ALe.refl _), (ALe.refl _), (ALe.refl _), (ALe.refl _), (ALe.refl _), (ALe.refl _), (ALe.refl _), trivial⟩ ⟨⟨rfl, .inr rfl⟩, ⟨rfl, .inl rfl⟩, trivial⟩ ?_
            refine RunC.cond_false rfl rfl ?_
            refine RunC.skip ?_
            refine RunC.seq ?_
            obtain ⟨hm19, h4_⟩ := need_some h4_
            refine RunC.regionW ?_
            refine ROps.l (r := AV.oref 0 u3 0 L5.length) rfl rfl rfl (LOp.move rfl rfl) ?_
            refine ROps.l (r := AV.str t18) rfl rfl rfl (LOp.move rfl rfl) ?_
            refine ROps.d (r := AV.oref 1 (u4 + 1) 0 1) (fs := [(1, (([t18] : List ByteArray).map AV.str))]) (Γ' := [⟨u3, some (L5.map AV.str)⟩, ⟨(u4 + 1), some (([t18] : List ByteArray).map AV.str)⟩]) rfl rfl rfl (TOp.buildSlice_o (g := ⟨u4, none⟩) (za := AV.str lit_99ba06bc) (qs := [(0, [AV.str t18])]) 1 rfl und35 siz9 zer9 rfl zel9 rfl rfl ⟨rfl, ⟨_, ALe.refl _, rfl⟩, trivial⟩ rfl) rfl ?_
            refine ROps.app (f := AV.str) (xs := L5) (ys := ([t18] : List ByteArray)) (Γ' := [⟨(u3 + 1), some ((L5 ++ ([t18] : List ByteArray)).map AV.str)⟩, ⟨(u4 + 1), some (([t18] : List ByteArray).map AV.str)⟩]) rfl pun35 inf9 rfl rfl rfl rfl rfl rfl rfl rfl rfl (by simp) (ReadAs.own rfl (by simp)) (ones_map (fun _ => rfl)) (ap_by hm19) (ap_mx hm19) rfl ?_
            refine ROps.l (r := AV.oref 0 (u3 + 1) 0 (L5.length + 1)) rfl rfl rfl (LOp.assign rfl rfl) ?_
            refine ROps.nil ?_
            refine RunC.wl (τ' := [(4, AV.sl r1.length (r1.map AV.str)), (6, AV.oref 0 (u3 + 1) 0 (L5.length + 1)), (7, AV.i64 r19), (8, AV.i64 v7), (9, AV.i64 v8)]) (Γ' := [⟨(u3 + 1), some ((L5 ++ ([t18] : List ByteArray)).map AV.str)⟩, ⟨(u4 + 1), none⟩]) ⟨(ALe.refl _), (ALe.refl _), (ALe.refl _), (ALe.refl _), (ALe.refl _), trivial⟩ ⟨⟨rfl, .inr rfl⟩, ⟨rfl, .inl rfl⟩, trivial⟩ ?_
            obtain ⟨e23, he20, h4_⟩ := obind_some h4_
            obtain ⟨x24, hx21, h4_⟩ := olet_some h4_
            obtain ⟨x25, hx22, h4_⟩ := olet_some h4_
            refine RunC.regionW ?_
            refine ROps.l (r := AV.i64 v7) rfl rfl rfl (LOp.move rfl rfl) ?_
            refine ROps.l (r := AV.sl r1.length (r1.map AV.str)) rfl rfl rfl (LOp.move rfl rfl) ?_
            refine ROps.l (r := AV.i64 v8) rfl rfl rfl (LOp.move rfl rfl) ?_
            refine ROps.l (r := AV.ptr [AV.str e23]) rfl rfl rfl (LOp.le (LOp.ix (f := AV.str) und35 siz9 rfl rfl rfl rfl he20) ALe.ptr) ?_
            refine ROps.l (r := AV.str e23) rfl rfl rfl (LOp.load1 agg9 rfl rfl) ?_
            refine ROps.l (r := AV.i64 (e23.size : Int)) rfl rfl rfl (LOp.len_str und9 rfl rfl) ?_
            refine ROps.l (r := AV.i64 x24) rfl rfl rfl (LOp.eqr (LOp.add rfl rfl rfl) (congrArg (AV.ik .i64) hx21)) ?_
            refine ROps.l (r := AV.i64 x25) rfl rfl rfl (LOp.eqr (LOp.add rfl rfl rfl) (congrArg (AV.ik .i64) hx22)) ?_
            refine ROps.l (r := AV.i64 x25) rfl rfl rfl (LOp.assign rfl rfl) ?_
            refine ROps.nil ?_
            obtain ⟨x26, hx23, h4_⟩ := olet_some h4_
            refine RunC.regionW ?_
            refine ROps.l (r := AV.i64 v8) rfl rfl rfl (LOp.move rfl rfl) ?_
            refine ROps.l (r := AV.i64 x26) rfl rfl rfl (LOp.eqr (LOp.add rfl rfl rfl) (congrArg (AV.ik .i64) hx23)) ?_
            refine ROps.l (r := AV.i64 x26) rfl rfl rfl (LOp.assign rfl rfl) ?_
            refine ROps.nil ?_
            cases Option.some.inj h4_
            exact ⟨_, rfl, (u3 + 1), (u4 + 1), ⟨(ALe.refl _), (ALe.eq (by rw [(app_len rfl rfl)] <;> rfl)), (ALe.refl _), (ALe.refl _), (ALe.refl _), trivial⟩, ⟨⟨rfl, .inr rfl⟩, ⟨rfl, .inl rfl⟩, trivial⟩⟩
    · refine RunC.regionW ?_
      refine ROps.l (r := AV.i64 v8) rfl rfl rfl (LOp.move rfl rfl) ?_
      refine ROps.l (r := AV.sl r1.length (r1.map AV.str)) rfl rfl rfl (LOp.move rfl rfl) ?_
      refine ROps.l (r := AV.i64 (r1.length : Int)) rfl rfl rfl (LOp.len_sl und35 rfl rfl) ?_
      refine ROps.l (r := AV.b false) rfl rfl rfl (LOp.eqb (LOp.lss rfl rfl rfl) hc2) ?_
      refine ROps.nil ?_
      refine RunC.cond_false rfl rfl ?_
      refine RunC.exit ?_
      cases Option.some.inj h4_
      have hx := ho4 _ rfl
      exact ⟨L5, v7, u3, u4, ⟨(ALe.refl _), (ALe.refl _), trivial⟩, ⟨⟨rfl, .inr rfl⟩, ⟨rfl, .inl rfl⟩, trivial⟩, hx⟩
  · rintro τ7 Γ7 ⟨L29, v30, u27, u28, hw7, hd7, rfl⟩
    refine RunC.wl (τ' := [(6, AV.oref 0 u27 0 L29.length), (8, AV.i64 v30)]) (Γ' := [⟨u27, some (L29.map AV.str)⟩, ⟨u28, none⟩]) hw7 hd7 ?_
    replace h : s_l08Recover_k3 L29 v30 = some (q0, q1) := h
    unfold s_l08Recover_k3 at h
    refine RunC.seq ?_
    refine RunC.regionW ?_
    refine ROps.l (r := AV.oref 0 u27 0 L29.length) rfl rfl rfl (LOp.move rfl rfl) ?_
    refine ROps.l (r := AV.i64 v30) rfl rfl rfl (LOp.move rfl rfl) ?_
    refine ROps.l (r := AV.oref 0 u27 0 L29.length) rfl rfl rfl (LOp.assign rfl rfl) ?_
    refine ROps.l (r := AV.i64 v30) rfl rfl rfl (LOp.assign rfl rfl) ?_
    refine ROps.nil ?_
    refine RunC.ret ?_
    have hq := Option.some.inj h
    obtain ⟨hq0, hq⟩ := Prod.mk.inj hq
    subst q0
    subst q1
    exact bodyQ.mk (r' := AV.tup [AV.oref 0 u27 0 L29.length, AV.i64 v30]) [(0, u27)] (.inr rfl) rfl (show List.Nodup [0] from by decide) (by simp [AV.ren, AV.rens, sigma]) rfl (Res.two rfl (RV.tmp rfl) (RV.tmp rfl)) (SelL.arr0 (f := AV.str) (fun _ => rfl) rfl trivial)
noncomputable def s_RecoverJournal (a0 : ByteArray) : Option (Int × Bool × (List ByteArray)) :=
  bsel (decide (16000 < (a0.size : Int))) (
    some (0, false, ([] : List ByteArray))) (
    obind2 (s_l08Recover a0) fun (r1 : Int) (r2 : List ByteArray) =>
    some (r1, true, r2))
theorem s_RecoverJournal_ok (a0 : ByteArray) (q0 : Int) (q1 : Bool) (q2 : List ByteArray) (h : s_RecoverJournal a0 = some (q0, q1, q2)) : Ev Tryd.prog 21 [AV.str a0] [] (AV.tup [AV.oref 0 0 0 q2.length, AV.i64 q0, AV.b q1]) [⟨0, some (q2.map AV.str)⟩] := by
  refine Ev.start Tryd.func21 rfl rfl 1 (τ := [(0, AV.str a0)]) rfl (Γ' := [⟨0, none⟩]) rfl (n := 35) rfl (g := 0) rfl (fun _ => rfl) ?_
  unfold s_RecoverJournal at h
  refine RunC.seq ?_
  refine RunC.regionW ?_
  refine ROps.l (r := AV.nilsl) rfl rfl rfl (LOp.assign rfl rfl) ?_
  refine ROps.l (r := AV.i64 0) rfl rfl rfl (LOp.assign rfl rfl) ?_
  refine ROps.l (r := AV.b false) rfl rfl rfl (LOp.assign rfl rfl) ?_
  refine ROps.nil ?_
  refine RunC.seq ?_
  refine RunC.seq ?_
  rcases bsel_some h with ⟨hc1, h⟩ | ⟨hc1, h⟩
  · refine RunC.regionW ?_
    refine ROps.l (r := AV.str a0) rfl rfl rfl (LOp.move rfl rfl) ?_
    refine ROps.l (r := AV.i64 (a0.size : Int)) rfl rfl rfl (LOp.len_str und9 rfl rfl) ?_
    refine ROps.l (r := AV.b true) rfl rfl rfl (LOp.eqb (LOp.gtr rfl rfl rfl) hc1) ?_
    refine ROps.nil ?_
    refine RunC.cond_true rfl rfl ?_
    refine RunC.seq ?_
    refine RunC.regionW ?_
    refine ROps.l (r := AV.nilsl) rfl rfl rfl (LOp.assign rfl rfl) ?_
    refine ROps.l (r := AV.i64 0) rfl rfl rfl (LOp.assign rfl rfl) ?_
    refine ROps.l (r := AV.b false) rfl rfl rfl (LOp.assign rfl rfl) ?_
    refine ROps.nil ?_
    refine RunC.nil_slot (Γ' := [⟨1, some (([] : List ByteArray).map AV.str)⟩]) 2 0 rfl rfl rfl ?_
    refine RunC.ret ?_
    have hq := Option.some.inj h
    obtain ⟨hq0, hq⟩ := Prod.mk.inj hq
    obtain ⟨hq1, hq⟩ := Prod.mk.inj hq
    subst q0
    subst q1
    subst q2
    exact bodyQ.mk (r' := AV.tup [AV.oref 0 1 0 (([] : List ByteArray).length), AV.i64 0, AV.b false]) [(0, 1)] (.inr rfl) rfl (show List.Nodup [0] from by decide) rfl rfl (Res.eq (Res.three rfl (RV.tmp rfl) (RV.tmp rfl) (RV.tmp rfl)) (by rw [(show ([] : List ByteArray).length = 0 from rfl)] <;> rfl)) (SelL.arr0 (f := AV.str) (fun _ => rfl) rfl trivial)
  · refine RunC.regionW ?_
    refine ROps.l (r := AV.str a0) rfl rfl rfl (LOp.move rfl rfl) ?_
    refine ROps.l (r := AV.i64 (a0.size : Int)) rfl rfl rfl (LOp.len_str und9 rfl rfl) ?_
    refine ROps.l (r := AV.b false) rfl rfl rfl (LOp.eqb (LOp.gtr rfl rfl rfl) hc1) ?_
    refine ROps.nil ?_
    refine RunC.cond_false rfl rfl ?_
    refine RunC.skip ?_
    refine RunC.seq ?_
    obtain ⟨r1, r2, hf2, h⟩ := obind2_some h
    refine RunC.regionW ?_
    refine ROps.l (r := AV.str a0) rfl rfl rfl (LOp.move rfl rfl) ?_
    refine ROps.d (r := AV.tup [AV.oref 0 1 0 r2.length, AV.i64 r1]) (fs := [(0, (r2.map AV.str))]) (Γ' := [⟨1, some (r2.map AV.str)⟩]) rfl rfl rfl (TOp.callBN (ls := [(r2.map AV.str)]) [0] (CallAs.func ent52 rfl rfl) (Bors.cons (Bor.pure rfl) Bors.nil) rfl (s_l08Recover_ok a0 r1 r2 hf2) (and_all (lts0_map (f := AV.str) (fun _ => rfl) _) rfl) (and_all (noss_map (f := AV.str) (fun _ => rfl) _) rfl) rfl (by decide) (ns_of ⟨⟨_, rfl⟩, trivial⟩)) rfl ?_
    refine ROps.l (r := AV.tup [AV.oref 0 1 0 r2.length, AV.i64 r1]) rfl rfl rfl (LOp.move rfl rfl) ?_
    refine ROps.l (r := AV.oref 0 1 0 r2.length) rfl rfl rfl (LOp.extract rfl rfl rfl) ?_
    refine ROps.l (r := AV.i64 r1) rfl rfl rfl (LOp.extract rfl rfl rfl) ?_
    refine ROps.l (r := AV.oref 0 1 0 r2.length) rfl rfl rfl (LOp.assign rfl rfl) ?_
    refine ROps.l (r := AV.i64 r1) rfl rfl rfl (LOp.assign rfl rfl) ?_
    refine ROps.nil ?_
    refine RunC.seq ?_
    refine RunC.regionW ?_
    refine ROps.l (r := AV.oref 0 1 0 r2.length) rfl rfl rfl (LOp.move rfl rfl) ?_
    refine ROps.l (r := AV.i64 r1) rfl rfl rfl (LOp.move rfl rfl) ?_
    refine ROps.l (r := AV.oref 0 1 0 r2.length) rfl rfl rfl (LOp.assign rfl rfl) ?_
    refine ROps.l (r := AV.i64 r1) rfl rfl rfl (LOp.assign rfl rfl) ?_
    refine ROps.l (r := AV.b true) rfl rfl rfl (LOp.assign rfl rfl) ?_
    refine ROps.nil ?_
    refine RunC.ret ?_
    have hq := Option.some.inj h
    obtain ⟨hq0, hq⟩ := Prod.mk.inj hq
    obtain ⟨hq1, hq⟩ := Prod.mk.inj hq
    subst q0
    subst q1
    subst q2
    exact bodyQ.mk (r' := AV.tup [AV.oref 0 1 0 r2.length, AV.i64 r1, AV.b true]) [(0, 1)] (.inr rfl) rfl (show List.Nodup [0] from by decide) rfl rfl (Res.three rfl (RV.tmp rfl) (RV.tmp rfl) (RV.tmp rfl)) (SelL.arr0 (f := AV.str) (fun _ => rfl) rfl trivial)
noncomputable def x_internal_stringslite_IndexByte (a0 : ByteArray) (a1 : Int) : Option (Int) :=
  some (idxB a0 a1)
theorem x_internal_stringslite_IndexByte_ok (a0 : ByteArray) (a1 : Int) (q0 : Int) (h : x_internal_stringslite_IndexByte a0 a1 = some q0) : Ev Tryd.prog 110 [AV.str a0, AV.ik .u8 a1] [] (AV.i64 q0) [] := by
  refine Ev.start Tryd.func110 rfl rfl 0 (τ := [(0, AV.str a0), (1, AV.ik .u8 a1)]) rfl (Γ' := []) rfl (n := 17) rfl (g := 0) rfl (fun _ => rfl) ?_
  unfold x_internal_stringslite_IndexByte at h
  refine RunC.seq ?_
  refine RunC.regionW ?_
  refine ROps.l (r := AV.i64 0) rfl rfl rfl (LOp.assign rfl rfl) ?_
  refine ROps.nil ?_
  refine RunC.seq ?_
  refine RunC.regionW ?_
  refine ROps.l (r := AV.str a0) rfl rfl rfl (LOp.move rfl rfl) ?_
  refine ROps.l (r := AV.ik .u8 a1) rfl rfl rfl (LOp.move rfl rfl) ?_
  refine ROps.l (r := AV.i64 (idxB a0 a1)) rfl rfl rfl (LOp.idxB ext130 rfl rfl rfl) ?_
  refine ROps.l (r := AV.i64 (idxB a0 a1)) rfl rfl rfl (LOp.assign rfl rfl) ?_
  refine ROps.nil ?_
  refine RunC.ret ?_
  have hq := Option.some.inj h
  subst q0
  exact bodyQ.pure (.inr rfl) rfl (Res.one rfl (RV.tmp rfl))
noncomputable def x_internal_stringslite_Index (a0 : ByteArray) (a1 : ByteArray) : Option (Int) :=
  bsel (decide ((a1.size : Int) = 0)) (
    some 0) (
    bsel (eqs a1 a0) (
      some 0) (
      bsel (decide ((a1.size : Int) = 1)) (
        obind (sat? a1 0) fun (e1 : Int) =>
        obind (x_internal_stringslite_IndexByte a0 e1) fun (r2 : Int) =>
        some r2) (
        bsel (decide ((a0.size : Int) ≤ (a1.size : Int))) (
          some (-1)) (
          none))))
theorem x_internal_stringslite_Index_ok (a0 : ByteArray) (a1 : ByteArray) (q0 : Int) (h : x_internal_stringslite_Index a0 a1 = some q0) : Ev Tryd.prog 93 [AV.str a0, AV.str a1] [] (AV.i64 q0) [] := by
  refine Ev.start Tryd.func93 rfl rfl 0 (τ := [(0, AV.str a0), (1, AV.str a1)]) rfl (Γ' := []) rfl (n := 287) rfl (g := 0) rfl (fun _ => rfl) ?_
  unfold x_internal_stringslite_Index at h
  refine RunC.seq ?_
  refine RunC.regionW ?_
  refine ROps.l (r := AV.i64 0) rfl rfl rfl (LOp.assign rfl rfl) ?_
  refine ROps.nil ?_
  refine RunC.seq ?_
  refine RunC.regionW ?_
  refine ROps.l (r := AV.str a1) rfl rfl rfl (LOp.move rfl rfl) ?_
  refine ROps.l (r := AV.i64 (a1.size : Int)) rfl rfl rfl (LOp.len_str und9 rfl rfl) ?_
  refine ROps.l (r := AV.i64 (a1.size : Int)) rfl rfl rfl (LOp.assign rfl rfl) ?_
  refine ROps.nil ?_
  refine RunC.seq ?_
  refine RunC.block ?_
  refine RunC.seq ?_
  rcases bsel_some h with ⟨hc1, h⟩ | ⟨hc1, h⟩
  · refine RunC.regionW ?_
    refine ROps.l (r := AV.i64 (a1.size : Int)) rfl rfl rfl (LOp.move rfl rfl) ?_
    refine ROps.l (r := AV.b true) rfl rfl rfl (LOp.eqb (LOp.eql rfl rfl rfl) hc1) ?_
    refine ROps.l (r := AV.b true) rfl rfl rfl (LOp.move rfl rfl) ?_
    refine ROps.s rfl rfl rfl ?_
    refine ROps.s rfl rfl rfl ?_
    refine ROps.s rfl rfl rfl ?_
    refine ROps.l (r := AV.b true) rfl rfl rfl (LOp.pick_true rfl rfl rfl) ?_
    refine ROps.l (r := AV.b true) rfl rfl rfl (LOp.assign rfl rfl) ?_
    refine ROps.nil ?_
    refine RunC.cond_true rfl rfl ?_
    refine RunC.seq ?_
    refine RunC.regionW ?_
    refine ROps.l (r := AV.i64 0) rfl rfl rfl (LOp.assign rfl rfl) ?_
    refine ROps.nil ?_
    refine RunC.ret ?_
    have hq := Option.some.inj h
    subst q0
    exact bodyQ.pure (.inr rfl) rfl (Res.one rfl (RV.tmp rfl))
  · rcases bsel_some h with ⟨hc2, h⟩ | ⟨hc2, h⟩
    · refine RunC.regionW ?_
      refine ROps.l (r := AV.i64 (a1.size : Int)) rfl rfl rfl (LOp.move rfl rfl) ?_
      refine ROps.l (r := AV.b false) rfl rfl rfl (LOp.eqb (LOp.eql rfl rfl rfl) hc1) ?_
      refine ROps.l (r := AV.b false) rfl rfl rfl (LOp.move rfl rfl) ?_
      refine ROps.l (r := AV.str a1) rfl rfl rfl (LOp.move rfl rfl) ?_
      refine ROps.l (r := AV.str a0) rfl rfl rfl (LOp.move rfl rfl) ?_
      refine ROps.l (r := AV.b true) rfl rfl rfl (LOp.eqb (LOp.eqs rfl rfl rfl) hc2) ?_
      refine ROps.l (r := AV.b true) rfl rfl rfl (LOp.pick_false rfl rfl rfl) ?_
      refine ROps.l (r := AV.b true) rfl rfl rfl (LOp.assign rfl rfl) ?_
      refine ROps.nil ?_
      refine RunC.cond_true rfl rfl ?_
      refine RunC.seq ?_
      refine RunC.regionW ?_
      refine ROps.l (r := AV.i64 0) rfl rfl rfl (LOp.assign rfl rfl) ?_
      refine ROps.nil ?_
      refine RunC.ret ?_
      have hq := Option.some.inj h
      subst q0
      exact bodyQ.pure (.inr rfl) rfl (Res.one rfl (RV.tmp rfl))
    · refine RunC.regionW ?_
      refine ROps.l (r := AV.i64 (a1.size : Int)) rfl rfl rfl (LOp.move rfl rfl) ?_
      refine ROps.l (r := AV.b false) rfl rfl rfl (LOp.eqb (LOp.eql rfl rfl rfl) hc1) ?_
      refine ROps.l (r := AV.b false) rfl rfl rfl (LOp.move rfl rfl) ?_
      refine ROps.l (r := AV.str a1) rfl rfl rfl (LOp.move rfl rfl) ?_
      refine ROps.l (r := AV.str a0) rfl rfl rfl (LOp.move rfl rfl) ?_
      refine ROps.l (r := AV.b false) rfl rfl rfl (LOp.eqb (LOp.eqs rfl rfl rfl) hc2) ?_
      refine ROps.l (r := AV.b false) rfl rfl rfl (LOp.pick_false rfl rfl rfl) ?_
      refine ROps.l (r := AV.b false) rfl rfl rfl (LOp.assign rfl rfl) ?_
      refine ROps.nil ?_
      refine RunC.cond_false rfl rfl ?_
      refine RunC.seq ?_
      rcases bsel_some h with ⟨hc3, h⟩ | ⟨hc3, h⟩
      · refine RunC.regionW ?_
        refine ROps.l (r := AV.i64 (a1.size : Int)) rfl rfl rfl (LOp.move rfl rfl) ?_
        refine ROps.l (r := AV.b true) rfl rfl rfl (LOp.eqb (LOp.eql rfl rfl rfl) hc3) ?_
        refine ROps.l (r := AV.b true) rfl rfl rfl (LOp.assign rfl rfl) ?_
        refine ROps.nil ?_
        refine RunC.cond_true rfl rfl ?_
        refine RunC.seq ?_
        obtain ⟨e1, he4, h⟩ := obind_some h
        obtain ⟨r2, hf5, h⟩ := obind_some h
        refine RunC.regionW ?_
        refine ROps.l (r := AV.str a0) rfl rfl rfl (LOp.move rfl rfl) ?_
        refine ROps.l (r := AV.str a1) rfl rfl rfl (LOp.move rfl rfl) ?_
        refine ROps.l (r := AV.ik .u8 e1) rfl rfl rfl (LOp.index_str und9 rfl rfl rfl he4) ?_
        refine ROps.d (r := AV.i64 r2) (fs := []) (Γ' := []) rfl rfl rfl (TOp.callB (CallAs.func ent110 rfl rfl) (Bors.cons (Bor.pure rfl) (Bors.cons (Bor.pure rfl) Bors.nil)) rfl rfl (x_internal_stringslite_IndexByte_ok a0 e1 r2 hf5)) rfl ?_
        refine ROps.l (r := AV.i64 r2) rfl rfl rfl (LOp.assign rfl rfl) ?_
        refine ROps.nil ?_
        refine RunC.ret ?_
        have hq := Option.some.inj h
        subst q0
        exact bodyQ.pure (.inr rfl) rfl (Res.one rfl (RV.tmp rfl))
      · refine RunC.regionW ?_
        refine ROps.l (r := AV.i64 (a1.size : Int)) rfl rfl rfl (LOp.move rfl rfl) ?_
        refine ROps.l (r := AV.b false) rfl rfl rfl (LOp.eqb (LOp.eql rfl rfl rfl) hc3) ?_
        refine ROps.l (r := AV.b false) rfl rfl rfl (LOp.assign rfl rfl) ?_
        refine ROps.nil ?_
        refine RunC.cond_false rfl rfl ?_
        refine RunC.seq ?_
        rcases bsel_some h with ⟨hc6, h⟩ | ⟨hc6, h⟩
        · refine RunC.regionW ?_
          refine ROps.l (r := AV.i64 (a1.size : Int)) rfl rfl rfl (LOp.move rfl rfl) ?_
          refine ROps.l (r := AV.str a0) rfl rfl rfl (LOp.move rfl rfl) ?_
          refine ROps.l (r := AV.i64 (a0.size : Int)) rfl rfl rfl (LOp.len_str und9 rfl rfl) ?_
          refine ROps.l (r := AV.b true) rfl rfl rfl (LOp.eqb (LOp.geq rfl rfl rfl) hc6) ?_
          refine ROps.l (r := AV.b true) rfl rfl rfl (LOp.assign rfl rfl) ?_
          refine ROps.nil ?_
          refine RunC.cond_true rfl rfl ?_
          refine RunC.seq ?_
          refine RunC.regionW ?_
          refine ROps.l (r := AV.i64 (-1)) rfl rfl rfl (LOp.assign rfl rfl) ?_
          refine ROps.nil ?_
          refine RunC.ret ?_
          have hq := Option.some.inj h
          subst q0
          exact bodyQ.pure (.inr rfl) rfl (Res.one rfl (RV.tmp rfl))
        · refine RunC.regionW ?_
          refine ROps.l (r := AV.i64 (a1.size : Int)) rfl rfl rfl (LOp.move rfl rfl) ?_
          refine ROps.l (r := AV.str a0) rfl rfl rfl (LOp.move rfl rfl) ?_
          refine ROps.l (r := AV.i64 (a0.size : Int)) rfl rfl rfl (LOp.len_str und9 rfl rfl) ?_
          refine ROps.l (r := AV.b false) rfl rfl rfl (LOp.eqb (LOp.geq rfl rfl rfl) hc6) ?_
          refine ROps.l (r := AV.b false) rfl rfl rfl (LOp.assign rfl rfl) ?_
          refine ROps.nil ?_
          refine RunC.cond_false rfl rfl ?_
          refine RunC.seq ?_
          cases h
noncomputable def x_internal_stringslite_Cut (a0 : ByteArray) (a1 : ByteArray) : Option (ByteArray × ByteArray × Bool) :=
  obind (x_internal_stringslite_Index a0 a1) fun (r1 : Int) =>
  bsel (decide (0 ≤ r1)) (
    obind (subs? a0 0 r1) fun (t2 : ByteArray) =>
    olet (IntKind.i64.wrap (r1 + (a1.size : Int))) fun (x3 : Int) =>
    obind (subs? a0 x3 (a0.size : Int)) fun (t4 : ByteArray) =>
    some (t2, t4, true)) (
    some (a0, lit_99ba06bc, false))
theorem x_internal_stringslite_Cut_ok (a0 : ByteArray) (a1 : ByteArray) (q0 : ByteArray) (q1 : ByteArray) (q2 : Bool) (h : x_internal_stringslite_Cut a0 a1 = some (q0, q1, q2)) : Ev Tryd.prog 77 [AV.str a0, AV.str a1] [] (AV.tup [AV.str q0, AV.str q1, AV.b q2]) [] := by
  refine Ev.start Tryd.func77 rfl rfl 0 (τ := [(0, AV.str a0), (1, AV.str a1)]) rfl (Γ' := []) rfl (n := 47) rfl (g := 0) rfl (fun _ => rfl) ?_
  unfold x_internal_stringslite_Cut at h
  refine RunC.seq ?_
  refine RunC.regionW ?_
  refine ROps.l (r := AV.str lit_99ba06bc) rfl rfl rfl (LOp.assign rfl rfl) ?_
  refine ROps.l (r := AV.str lit_99ba06bc) rfl rfl rfl (LOp.assign rfl rfl) ?_
  refine ROps.l (r := AV.b false) rfl rfl rfl (LOp.assign rfl rfl) ?_
  refine ROps.nil ?_
  refine RunC.seq ?_
  refine RunC.seq ?_
  obtain ⟨r1, hf1, h⟩ := obind_some h
  refine RunC.regionW ?_
  refine ROps.l (r := AV.str a0) rfl rfl rfl (LOp.move rfl rfl) ?_
  refine ROps.l (r := AV.str a1) rfl rfl rfl (LOp.move rfl rfl) ?_
  refine ROps.d (r := AV.i64 r1) (fs := []) (Γ' := []) rfl rfl rfl (TOp.callB (CallAs.func ent93 rfl rfl) (Bors.cons (Bor.pure rfl) (Bors.cons (Bor.pure rfl) Bors.nil)) rfl rfl (x_internal_stringslite_Index_ok a0 a1 r1 hf1)) rfl ?_
  refine ROps.l (r := AV.i64 r1) rfl rfl rfl (LOp.assign rfl rfl) ?_
  refine ROps.nil ?_
  refine RunC.seq ?_
  rcases bsel_some h with ⟨hc2, h⟩ | ⟨hc2, h⟩
  · refine RunC.regionW ?_
    refine ROps.l (r := AV.i64 r1) rfl rfl rfl (LOp.move rfl rfl) ?_
    refine ROps.l (r := AV.b true) rfl rfl rfl (LOp.eqb (LOp.geq rfl rfl rfl) hc2) ?_
    refine ROps.nil ?_
    refine RunC.cond_true rfl rfl ?_
    refine RunC.seq ?_
    obtain ⟨t2, hs3, h⟩ := obind_some h
    obtain ⟨x3, hx4, h⟩ := olet_some h
    obtain ⟨t4, hs5, h⟩ := obind_some h
    refine RunC.region_draw (Γ' := []) 12 mixed 
      (TR.l (r := AV.str a0) rfl rfl (LOp.move rfl rfl) <|
      (TR.l (r := AV.i64 r1) rfl rfl (LOp.move rfl rfl) <|
      (TR.l (r := AV.str t2) rfl rfl (LOp.subs_hi und9 rfl rfl rfl hs3) <|
      (TR.l (r := AV.str a0) rfl rfl (LOp.move rfl rfl) <|
      (TR.l (r := AV.i64 r1) rfl rfl (LOp.move rfl rfl) <|
      (TR.l (r := AV.str a1) rfl rfl (LOp.move rfl rfl) <|
      (TR.l (r := AV.i64 (a1.size : Int)) rfl rfl (LOp.len_str und9 rfl rfl) <|
      (TR.l (r := AV.i64 x3) rfl rfl (LOp.eqr (LOp.add rfl rfl rfl) (congrArg (AV.ik .i64) hx4)) <|
      (TR.l (r := AV.str t4) rfl rfl (LOp.subs_lo und9 rfl rfl rfl hs5) <|
      (TR.l (r := AV.str t2) rfl rfl (LOp.assign rfl rfl) <|
      (TR.l (r := AV.str t4) rfl rfl (LOp.assign rfl rfl) <|
      (TR.l (r := AV.b true) rfl rfl (LOp.assign rfl rfl) <|
      TR.nil)))))))))))) rfl (by kernel_rfl) rfl fills_nil rfl ?_
    iterate 12 refine ROps.dropS ?_
    refine ROps.drop0 ?_
    refine ROps.nil ?_
    refine RunC.ret ?_
    have hq := Option.some.inj h
    obtain ⟨hq0, hq⟩ := Prod.mk.inj hq
    obtain ⟨hq1, hq⟩ := Prod.mk.inj hq
    subst q0
    subst q1
    subst q2
    exact bodyQ.pure (.inr rfl) rfl (Res.three rfl (RV.tmp rfl) (RV.tmp rfl) (RV.tmp rfl))
  · refine RunC.regionW ?_
    refine ROps.l (r := AV.i64 r1) rfl rfl rfl (LOp.move rfl rfl) ?_
    refine ROps.l (r := AV.b false) rfl rfl rfl (LOp.eqb (LOp.geq rfl rfl rfl) hc2) ?_
    refine ROps.nil ?_
    refine RunC.cond_false rfl rfl ?_
    refine RunC.skip ?_
    refine RunC.seq ?_
    refine RunC.regionW ?_
    refine ROps.l (r := AV.str a0) rfl rfl rfl (LOp.move rfl rfl) ?_
    refine ROps.l (r := AV.str a0) rfl rfl rfl (LOp.assign rfl rfl) ?_
    refine ROps.l (r := AV.str lit_99ba06bc) rfl rfl rfl (LOp.assign rfl rfl) ?_
    refine ROps.l (r := AV.b false) rfl rfl rfl (LOp.assign rfl rfl) ?_
    refine ROps.nil ?_
    refine RunC.ret ?_
    have hq := Option.some.inj h
    obtain ⟨hq0, hq⟩ := Prod.mk.inj hq
    obtain ⟨hq1, hq⟩ := Prod.mk.inj hq
    subst q0
    subst q1
    subst q2
    exact bodyQ.pure (.inr rfl) rfl (Res.three rfl (RV.tmp rfl) (RV.tmp rfl) (RV.tmp rfl))
noncomputable def x_strings_Cut (a0 : ByteArray) (a1 : ByteArray) : Option (ByteArray × ByteArray × Bool) :=
  obind3 (x_internal_stringslite_Cut a0 a1) fun (r1 : ByteArray) (r2 : ByteArray) (r3 : Bool) =>
  some (r1, r2, r3)
theorem x_strings_Cut_ok (a0 : ByteArray) (a1 : ByteArray) (q0 : ByteArray) (q1 : ByteArray) (q2 : Bool) (h : x_strings_Cut a0 a1 = some (q0, q1, q2)) : Ev Tryd.prog 53 [AV.str a0, AV.str a1] [] (AV.tup [AV.str q0, AV.str q1, AV.b q2]) [] := by
  refine Ev.start Tryd.func53 rfl rfl 0 (τ := [(0, AV.str a0), (1, AV.str a1)]) rfl (Γ' := []) rfl (n := 27) rfl (g := 0) rfl (fun _ => rfl) ?_
  unfold x_strings_Cut at h
  refine RunC.seq ?_
  refine RunC.regionW ?_
  refine ROps.l (r := AV.str lit_99ba06bc) rfl rfl rfl (LOp.assign rfl rfl) ?_
  refine ROps.l (r := AV.str lit_99ba06bc) rfl rfl rfl (LOp.assign rfl rfl) ?_
  refine ROps.l (r := AV.b false) rfl rfl rfl (LOp.assign rfl rfl) ?_
  refine ROps.nil ?_
  refine RunC.seq ?_
  obtain ⟨r1, r2, r3, hf1, h⟩ := obind3_some h
  refine RunC.regionW ?_
  refine ROps.l (r := AV.str a0) rfl rfl rfl (LOp.move rfl rfl) ?_
  refine ROps.l (r := AV.str a1) rfl rfl rfl (LOp.move rfl rfl) ?_
  refine ROps.d (r := AV.tup [AV.str r1, AV.str r2, AV.b r3]) (fs := []) (Γ' := []) rfl rfl rfl (TOp.callB (CallAs.func ent77 rfl rfl) (Bors.cons (Bor.pure rfl) (Bors.cons (Bor.pure rfl) Bors.nil)) rfl rfl (x_internal_stringslite_Cut_ok a0 a1 r1 r2 r3 hf1)) rfl ?_
  refine ROps.l (r := AV.str r1) rfl rfl rfl (LOp.extract rfl rfl rfl) ?_
  refine ROps.l (r := AV.str r2) rfl rfl rfl (LOp.extract rfl rfl rfl) ?_
  refine ROps.l (r := AV.b r3) rfl rfl rfl (LOp.extract rfl rfl rfl) ?_
  refine ROps.l (r := AV.str r1) rfl rfl rfl (LOp.assign rfl rfl) ?_
  refine ROps.l (r := AV.str r2) rfl rfl rfl (LOp.assign rfl rfl) ?_
  refine ROps.l (r := AV.b r3) rfl rfl rfl (LOp.assign rfl rfl) ?_
  refine ROps.nil ?_
  refine RunC.ret ?_
  have hq := Option.some.inj h
  obtain ⟨hq0, hq⟩ := Prod.mk.inj hq
  obtain ⟨hq1, hq⟩ := Prod.mk.inj hq
  subst q0
  subst q1
  subst q2
  exact bodyQ.pure (.inr rfl) rfl (Res.three rfl (RV.tmp rfl) (RV.tmp rfl) (RV.tmp rfl))
noncomputable def i_checkOf_b1 (a1 : ByteArray) (v1 : Int) (v2 : Int) : Option (LR (Int × Int) (Int) (Int)) :=
  bsel (decide (v2 < (a1.size : Int))) (
    olet (IntKind.i64.wrap (863 * v1)) fun (x3 : Int) =>
    obind (sat? a1 v2) fun (e4 : Int) =>
    olet (IntKind.i64.wrap e4) fun (x5 : Int) =>
    olet (IntKind.i64.wrap (x3 + x5)) fun (x6 : Int) =>
    olet (IntKind.i64.wrap (x6 + 157)) fun (x7 : Int) =>
    need (!decide (65003 = 0)) <|
    olet (x7.tmod 65003) fun (x8 : Int) =>
    olet (IntKind.i64.wrap (v2 + 1)) fun (x9 : Int) =>
    some (LR.next (x8, x9))) (
    some (LR.out v1))
noncomputable def i_checkOf_s1 (a1 : ByteArray) : (Int × Int) → Option (LR (Int × Int) (Int) (Int)) := fun s => i_checkOf_b1 a1 s.1 s.2
noncomputable def i_checkOf_k1 (v10 : Int) : Option (Int) :=
  some v10
noncomputable def i_checkOf (a0 : Int) (a1 : ByteArray) : Option (Int) :=
  obind (loopM (i_checkOf_s1 a1) (a0, 0)) fun z => osum z (fun e => i_checkOf_k1 e) (fun r => some r)
theorem i_checkOf_ok (a0 : Int) (a1 : ByteArray) (q0 : Int) (h : i_checkOf a0 a1 = some q0) : Ev Tryd.prog 46 [AV.i64 a0, AV.str a1] [] (AV.i64 q0) [] := by
  refine Ev.start Tryd.func46 rfl rfl 0 (τ := [(0, AV.i64 a0), (1, AV.str a1)]) rfl (Γ' := []) rfl (n := 45) rfl (g := 0) rfl (fun _ => rfl) ?_
  unfold i_checkOf at h
  refine RunC.seq ?_
  refine RunC.regionW ?_
  refine ROps.l (r := AV.i64 0) rfl rfl rfl (LOp.assign rfl rfl) ?_
  refine ROps.nil ?_
  refine RunC.seq ?_
  refine RunC.seq ?_
  refine RunC.regionW ?_
  refine ROps.l (r := AV.str a1) rfl rfl rfl (LOp.move rfl rfl) ?_
  refine ROps.l (r := AV.i64 (a1.size : Int)) rfl rfl rfl (LOp.len_str und9 rfl rfl) ?_
  refine ROps.l (r := AV.i64 0) rfl rfl rfl (LOp.move rfl rfl) ?_
  refine ROps.nil ?_
  obtain ⟨z2, hz_2, h⟩ := obind_some h
  refine RunC.cutN (fun τ Γ => ∃ (v10 : Int), WeakLe τ [(0, AV.i64 v10)] ∧ DeadLe Γ [] ∧ z2 = .inl v10) ?_ ?_
  · refine RunC.block (RunC.loop (RunL.loopM (x := z2) (i_checkOf_s1 a1) (fun (s : Int × Int) τ Γ => WeakLe τ [(0, AV.i64 s.1), (1, AV.str a1), (7, AV.i64 (a1.size : Int)), (8, AV.i64 s.2)] ∧ DeadLe Γ []) ?_ _ _ _ hz_2 ⟨⟨(ALe.refl _), (ALe.refl _), (ALe.refl _), (ALe.refl _), trivial⟩, trivial⟩))
    rintro ⟨v1, v2⟩ τ2 Γ2 y2_ ⟨hw2, hd2⟩ h2_ ho2 hr2
    refine RunC.wl (τ' := [(0, AV.i64 v1), (1, AV.str a1), (7, AV.i64 (a1.size : Int)), (8, AV.i64 v2)]) (Γ' := []) hw2 hd2 ?_
    replace h2_ : i_checkOf_b1 a1 v1 v2 = some y2_ := h2_
    unfold i_checkOf_b1 at h2_
    refine RunC.seq ?_
    rcases bsel_some h2_ with ⟨hc1, h2_⟩ | ⟨hc1, h2_⟩
    · refine RunC.regionW ?_
      refine ROps.l (r := AV.b true) rfl rfl rfl (LOp.eqb (LOp.lss rfl rfl rfl) hc1) ?_
      refine ROps.nil ?_
      refine RunC.seq ?_
      refine RunC.cond_true rfl rfl ?_
      refine RunC.skip ?_
      refine RunC.seq ?_
      refine RunC.block ?_
      refine RunC.seq ?_
      refine RunC.regionW ?_
      refine ROps.l (r := AV.i64 v2) rfl rfl rfl (LOp.move rfl rfl) ?_
      refine ROps.l (r := AV.i64 v2) rfl rfl rfl (LOp.assign rfl rfl) ?_
      refine ROps.nil ?_
      obtain ⟨x3, hx2, h2_⟩ := olet_some h2_
      obtain ⟨e4, he3, h2_⟩ := obind_some h2_
      obtain ⟨x5, hx4, h2_⟩ := olet_some h2_
      obtain ⟨x6, hx5, h2_⟩ := olet_some h2_
      obtain ⟨x7, hx6, h2_⟩ := olet_some h2_
      obtain ⟨hz7, h2_⟩ := need_some h2_
      obtain ⟨x8, hx8, h2_⟩ := olet_some h2_
      refine RunC.regionW ?_
      refine ROps.l (r := AV.i64 v1) rfl rfl rfl (LOp.move rfl rfl) ?_
      refine ROps.l (r := AV.i64 x3) rfl rfl rfl (LOp.eqr (LOp.mul rfl rfl rfl) (congrArg (AV.ik .i64) hx2)) ?_
      refine ROps.l (r := AV.str a1) rfl rfl rfl (LOp.move rfl rfl) ?_
      refine ROps.l (r := AV.i64 v2) rfl rfl rfl (LOp.move rfl rfl) ?_
      refine ROps.l (r := AV.ik .u8 e4) rfl rfl rfl (LOp.index_str und9 rfl rfl rfl he3) ?_
      refine ROps.l (r := AV.i64 x5) rfl rfl rfl (LOp.eqr (LOp.i2i (src := 5) (dst := 2) ⟨_, pun5⟩ pun2 rfl rfl) (congrArg (AV.ik .i64) hx4)) ?_
      refine ROps.l (r := AV.i64 x6) rfl rfl rfl (LOp.eqr (LOp.add rfl rfl rfl) (congrArg (AV.ik .i64) hx5)) ?_
      refine ROps.l (r := AV.i64 x7) rfl rfl rfl (LOp.eqr (LOp.add rfl rfl rfl) (congrArg (AV.ik .i64) hx6)) ?_
      refine ROps.l (r := AV.i64 x8) rfl rfl rfl (LOp.eqr (LOp.rem rfl rfl rfl (nz hz7)) (congrArg (AV.ik .i64) hx8)) ?_
      refine ROps.l (r := AV.i64 x8) rfl rfl rfl (LOp.assign rfl rfl) ?_
      refine ROps.nil ?_
      obtain ⟨x9, hx9, h2_⟩ := olet_some h2_
      refine RunC.regionW ?_
      refine ROps.l (r := AV.i64 x9) rfl rfl rfl (LOp.eqr (LOp.add rfl rfl rfl) (congrArg (AV.ik .i64) hx9)) ?_
      refine ROps.l (r := AV.i64 x9) rfl rfl rfl (LOp.move rfl rfl) ?_
      refine ROps.nil ?_
      cases Option.some.inj h2_
      exact ⟨_, rfl, ⟨(ALe.refl _), (ALe.refl _), (ALe.refl _), (ALe.refl _), trivial⟩, trivial⟩
    · refine RunC.regionW ?_
      refine ROps.l (r := AV.b false) rfl rfl rfl (LOp.eqb (LOp.lss rfl rfl rfl) hc1) ?_
      refine ROps.nil ?_
      refine RunC.seq ?_
      refine RunC.cond_false rfl rfl ?_
      refine RunC.exit ?_
      cases Option.some.inj h2_
      have hx := ho2 _ rfl
      exact ⟨v1, ⟨(ALe.refl _), trivial⟩, trivial, hx⟩
  · rintro τ3 Γ3 ⟨v10, hw3, hd3, rfl⟩
    refine RunC.wl (τ' := [(0, AV.i64 v10)]) (Γ' := []) hw3 hd3 ?_
    replace h : i_checkOf_k1 v10 = some q0 := h
    unfold i_checkOf_k1 at h
    refine RunC.seq ?_
    refine RunC.regionW ?_
    refine ROps.l (r := AV.i64 v10) rfl rfl rfl (LOp.move rfl rfl) ?_
    refine ROps.l (r := AV.i64 v10) rfl rfl rfl (LOp.assign rfl rfl) ?_
    refine ROps.nil ?_
    refine RunC.ret ?_
    have hq := Option.some.inj h
    subst q0
    exact bodyQ.pure (.inr rfl) rfl (Res.one rfl (RV.tmp rfl))
noncomputable def x_strconv_FormatInt (a0 a1 : Int) : Option ByteArray :=
  need (decide (a1 = 10)) <|
  need (decide (-9223372036854775808 ≤ a0)) <|
  need (decide (a0 ≤ 9223372036854775807)) <|
  some ⟨(Go.Lib.itoa a0).toArray⟩
def fmt_ren : Go.Shelf.Ren :=
{
  f := fun x =>
    match x with
    | 173 => 75
    | 246 => 92
    | 283 => 106
    | 284 => 107
    | 285 => 108
    | 286 => 109
    | 129 => 126
    | 317 => 125
    | 318 => 127
    | 319 => 128
    | 320 => 129
    | 337 => 139
    | 338 => 140
    | n => n,
  t := fun x =>
    match x with
    | 2 => 2
    | 3 => 3
    | 9 => 9
    | 4 => 4
    | 171 => 136
    | 0 => 0
    | 53 => 137
    | 37 => 75
    | 5 => 5
    | 173 => 140
    | 212 => 156
    | 51 => 147
    | 20 => 20
    | 213 => 157
    | 46 => 144
    | 232 => 173
    | 233 => 174
    | n => n,
  g := fun x =>
    match x with
    | 17 => 1
    | 18 => 5
    | 19 => 6
    | n => n }theorem fmt_lays : Go.Proofs.LaysM.n173 Tryd.prog fmt_ren :=
  { f129 := (Eq.trans Tryd.func126 (congrArg some (by kernel_rfl))),
    f173 := (Eq.trans Tryd.func75 (congrArg some (by kernel_rfl))),
    f246 := (Eq.trans Tryd.func92 (congrArg some (by kernel_rfl))),
    f283 := (Eq.trans Tryd.func106 (congrArg some (by kernel_rfl))),
    f284 := (Eq.trans Tryd.func107 (congrArg some (by kernel_rfl))),
    f285 := (Eq.trans Tryd.func108 (congrArg some (by kernel_rfl))),
    f286 := (Eq.trans Tryd.func109 (congrArg some (by kernel_rfl))),
    f317 := (Eq.trans Tryd.func125 (congrArg some (by kernel_rfl))),
    f318 := (Eq.trans Tryd.func127 (congrArg some (by kernel_rfl))),
    f319 := (Eq.trans Tryd.func128 (congrArg some (by kernel_rfl))),
    f320 := (Eq.trans Tryd.func129 (congrArg some (by kernel_rfl))),
    f337 := (Eq.trans Tryd.func139 (congrArg some (by kernel_rfl))),
    f338 := (Eq.trans Tryd.func140 (congrArg some (by kernel_rfl))),
    t0 := Tryd.underlying0,
    a0 := Tryd.isAgg0,
    z0 := Tryd.sizeOf0,
    v0 := Tryd.zeroValue0,
    t2 := Tryd.underlying2,
    a2 := Tryd.isAgg2,
    z2 := Tryd.sizeOf2,
    v2 := Tryd.zeroValue2,
    t3 := Tryd.underlying3,
    a3 := Tryd.isAgg3,
    z3 := Tryd.sizeOf3,
    v3 := Tryd.zeroValue3,
    t4 := Tryd.underlying4,
    a4 := Tryd.isAgg4,
    z4 := Tryd.sizeOf4,
    v4 := Tryd.zeroValue4,
    t5 := Tryd.underlying5,
    a5 := Tryd.isAgg5,
    z5 := Tryd.sizeOf5,
    v5 := Tryd.zeroValue5,
    t9 := Tryd.underlying9,
    a9 := Tryd.isAgg9,
    z9 := Tryd.sizeOf9,
    v9 := Tryd.zeroValue9,
    t20 := Tryd.underlying20,
    a20 := Tryd.isAgg20,
    z20 := Tryd.sizeOf20,
    v20 := Tryd.zeroValue20,
    t37 := Tryd.underlying75,
    a37 := Tryd.isAgg75,
    z37 := Tryd.sizeOf75,
    v37 := Tryd.zeroValue75,
    t46 := Tryd.underlying144,
    a46 := Tryd.isAgg144,
    z46 := Tryd.sizeOf144,
    v46 := Tryd.zeroValue144,
    t51 := Tryd.underlying147,
    a51 := Tryd.isAgg147,
    z51 := Tryd.sizeOf147,
    v51 := Tryd.zeroValue147,
    t53 := Tryd.underlying137,
    a53 := Tryd.isAgg137,
    z53 := Tryd.sizeOf137,
    v53 := Tryd.zeroValue137,
    t171 := Tryd.underlying136,
    a171 := Tryd.isAgg136,
    z171 := Tryd.sizeOf136,
    v171 := Tryd.zeroValue136,
    t173 := Tryd.underlying140,
    a173 := Tryd.isAgg140,
    z173 := Tryd.sizeOf140,
    v173 := Tryd.zeroValue140,
    t212 := Tryd.underlying156,
    a212 := Tryd.isAgg156,
    z212 := Tryd.sizeOf156,
    v212 := Tryd.zeroValue156,
    t213 := Tryd.underlying157,
    a213 := Tryd.isAgg157,
    z213 := Tryd.sizeOf157,
    t232 := Tryd.underlying173,
    a232 := Tryd.isAgg173,
    z232 := Tryd.sizeOf173,
    v232 := Tryd.zeroValue173,
    t233 := Tryd.underlying174,
    a233 := Tryd.isAgg174,
    z233 := Tryd.sizeOf174,
    v233 := Tryd.zeroValue174,
    mixed := (by kernel_rfl),
    g17 := (by kernel_rfl),
    g18 := (by kernel_rfl),
    g19 := (by kernel_rfl),
    i0 := (by kernel_rfl),
    i2 := (by kernel_rfl),
    i3 := (by kernel_rfl),
    i4 := (by kernel_rfl),
    i5 := (by kernel_rfl),
    i9 := (by kernel_rfl),
    i20 := (by kernel_rfl),
    i37 := (by kernel_rfl),
    i46 := (by kernel_rfl),
    i51 := (by kernel_rfl),
    i53 := (by kernel_rfl),
    i171 := (by kernel_rfl),
    i173 := (by kernel_rfl),
    i212 := (by kernel_rfl),
    i232 := (by kernel_rfl),
    i233 := (by kernel_rfl),
    m17 := (by kernel_rfl),
    m18 := (by kernel_rfl),
    m19 := (by kernel_rfl) }
theorem x_strconv_FormatInt_tab {S : Snap} {w : World} (h : SnapOK S w) : Go.Lib.TabIs Tryd.prog w "internal/strconv.uint64pow10" .u64 Go.Lib.pow10Tab := by
  obtain ⟨T, m, e⟩ := globs_at h (g := 1) (cs := (Go.Lib.pow10Tab.map fun z => Value.int .u64 z).toArray) (by unfold globs; exact List.mem_cons_self ..)
  unfold Go.Lib.TabIs World.var?
  rw [show Tryd.prog.globalNamed "internal/strconv.uint64pow10" = some 1 by kernel_rfl]
  simp only [Option.bind_some, e]
theorem x_strconv_FormatInt_ok (a0 a1 : Int) (q0 : ByteArray) (h : x_strconv_FormatInt a0 a1 = some q0) : Ev Tryd.prog 75 [AV.i64 a0, AV.i64 a1] [] (AV.str q0) [] := by
  unfold x_strconv_FormatInt at h
  obtain ⟨h1, h⟩ := need_some h
  obtain ⟨h2, h⟩ := need_some h
  obtain ⟨h3, h⟩ := need_some h
  have hq := Option.some.inj h
  subst hq
  have e1 : a1 = 10 := of_decide_eq_true h1
  subst e1
  refine Ev.ofGrow fun S w vs hs ha => ?_
  obtain ⟨vl⟩ := vs
  match vl, ha with
  | [v0, v1], ha =>
    simp only [VL, V] at ha
    obtain ⟨rfl, rfl, _⟩ := ha
    refine (Go.Proofs.Any.strconv_FormatInt_10 fmt_lays a0 (of_decide_eq_true h2) (of_decide_eq_true h3) w (x_strconv_FormatInt_tab hs)).mono ?_
    rintro e w' ⟨rfl, k, os, rfl⟩
    refine ⟨_, rfl, by simp only [V], ?_⟩
    exact ⟨by simp [Go.Sort.grow, World.drewN], fun b hb => by simp [Go.Sort.grow, World.drewN, Array.getElem?_append, hb], rfl, rfl, rfl⟩
  | [], ha => simp only [VL] at ha
  | [_], ha => simp only [VL] at ha; exact ha.2.elim
  | _ :: _ :: _ :: _, ha => simp only [VL] at ha; exact ha.2.2.elim
noncomputable def i_Decimal (a0 : Int) : Option (ByteArray) :=
  obind (x_strconv_FormatInt a0 10) fun (r1 : ByteArray) =>
  some r1
theorem i_Decimal_ok (a0 : Int) (q0 : ByteArray) (h : i_Decimal a0 = some q0) : Ev Tryd.prog 48 [AV.i64 a0] [] (AV.str q0) [] := by
  refine Ev.start Tryd.func48 rfl rfl 0 (τ := [(0, AV.i64 a0)]) rfl (Γ' := []) rfl (n := 11) rfl (g := 0) rfl (fun _ => rfl) ?_
  unfold i_Decimal at h
  refine RunC.seq ?_
  refine RunC.regionW ?_
  refine ROps.l (r := AV.str lit_99ba06bc) rfl rfl rfl (LOp.assign rfl rfl) ?_
  refine ROps.nil ?_
  refine RunC.seq ?_
  obtain ⟨r1, hf1, h⟩ := obind_some h
  refine RunC.regionW ?_
  refine ROps.l (r := AV.i64 a0) rfl rfl rfl (LOp.move rfl rfl) ?_
  refine ROps.d (r := AV.str r1) (fs := []) (Γ' := []) rfl rfl rfl (TOp.callB (CallAs.func ent75 rfl rfl) (Bors.cons (Bor.pure rfl) (Bors.cons (Bor.pure rfl) Bors.nil)) rfl rfl (x_strconv_FormatInt_ok a0 10 r1 hf1)) rfl ?_
  refine ROps.l (r := AV.str r1) rfl rfl rfl (LOp.assign rfl rfl) ?_
  refine ROps.nil ?_
  refine RunC.ret ?_
  have hq := Option.some.inj h
  subst q0
  exact bodyQ.pure (.inr rfl) rfl (Res.one rfl (RV.tmp rfl))
noncomputable def i_RecoverJournal_b1 (a0 : ByteArray) (L3 : List ByteArray) (v4 : Int) (v5 : Int) : Option (LR ((List ByteArray) × Int × Int) (Unit) (Int × Bool × (List ByteArray))) :=
  obind (subs? a0 v4 (a0.size : Int)) fun (t6 : ByteArray) =>
  obind3 (x_strings_Cut t6 lit_e4a5378b) fun (r7 : ByteArray) (r8 : ByteArray) (r9 : Bool) =>
  bsel r9 (
    obind3 (x_strings_Cut r7 lit_592437da) fun (r10 : ByteArray) (r11 : ByteArray) (r12 : Bool) =>
    bsel r12 (
      obind (i_checkOf v5 r11) fun (r13 : Int) =>
      obind (i_Decimal r13) fun (r14 : ByteArray) =>
      obind (cats? r14 lit_592437da) fun (t15 : ByteArray) =>
      obind (cats? t15 r11) fun (t16 : ByteArray) =>
      bsel (!eqs t16 r7) (
        some (LR.ret (v4, true, L3))) (
        need (apok 16 L3.length 1) <|
        olet (IntKind.i64.wrap ((r7.size : Int) + 1)) fun (x17 : Int) =>
        olet (IntKind.i64.wrap (v4 + x17)) fun (x18 : Int) =>
        some (LR.next ((L3 ++ ([r11] : List ByteArray)), x18, r13)))) (
      obind (i_checkOf v5 r11) fun (r19 : Int) =>
      some (LR.ret (v4, true, L3)))) (
    obind3 (x_strings_Cut r7 lit_592437da) fun (r20 : ByteArray) (r21 : ByteArray) (r22 : Bool) =>
    bsel r22 (
      obind (i_checkOf v5 r21) fun (r23 : Int) =>
      some (LR.ret (v4, true, L3))) (
      obind (i_checkOf v5 r21) fun (r24 : Int) =>
      some (LR.ret (v4, true, L3))))
noncomputable def i_RecoverJournal_s1 (a0 : ByteArray) : ((List ByteArray) × Int × Int) → Option (LR ((List ByteArray) × Int × Int) (Unit) (Int × Bool × (List ByteArray))) := fun s => i_RecoverJournal_b1 a0 s.1 s.2.1 s.2.2
noncomputable def i_RecoverJournal (a0 : ByteArray) : Option (Int × Bool × (List ByteArray)) :=
  bsel (decide (16000 < (a0.size : Int))) (
    some (0, false, ([] : List ByteArray))) (
    obind (loopM (i_RecoverJournal_s1 a0) (([] : List ByteArray), 0, 0)) fun z => osum z (fun _ => none) (fun r => some r))
theorem i_RecoverJournal_ok (a0 : ByteArray) (q0 : Int) (q1 : Bool) (q2 : List ByteArray) (h : i_RecoverJournal a0 = some (q0, q1, q2)) : Ev Tryd.prog 22 [AV.str a0] [] (AV.tup [AV.oref 0 0 0 q2.length, AV.i64 q0, AV.b q1]) [⟨0, some (q2.map AV.str)⟩] := by
  refine Ev.start Tryd.func22 rfl rfl 2 (τ := [(0, AV.str a0)]) rfl (Γ' := [⟨0, none⟩, ⟨0, none⟩]) rfl (n := 127) rfl (g := 0) rfl (fun _ => rfl) ?_
  unfold i_RecoverJournal at h
  refine RunC.seq ?_
  refine RunC.regionW ?_
  refine ROps.l (r := AV.nilsl) rfl rfl rfl (LOp.assign rfl rfl) ?_
  refine ROps.l (r := AV.i64 0) rfl rfl rfl (LOp.assign rfl rfl) ?_
  refine ROps.l (r := AV.b false) rfl rfl rfl (LOp.assign rfl rfl) ?_
  refine ROps.nil ?_
  refine RunC.seq ?_
  refine RunC.seq ?_
  rcases bsel_some h with ⟨hc1, h⟩ | ⟨hc1, h⟩
  · refine RunC.regionW ?_
    refine ROps.l (r := AV.str a0) rfl rfl rfl (LOp.move rfl rfl) ?_
    refine ROps.l (r := AV.i64 (a0.size : Int)) rfl rfl rfl (LOp.len_str und9 rfl rfl) ?_
    refine ROps.l (r := AV.b true) rfl rfl rfl (LOp.eqb (LOp.gtr rfl rfl rfl) hc1) ?_
    refine ROps.nil ?_
    refine RunC.cond_true rfl rfl ?_
    refine RunC.seq ?_
    refine RunC.regionW ?_
    refine ROps.l (r := AV.nilsl) rfl rfl rfl (LOp.assign rfl rfl) ?_
    refine ROps.l (r := AV.i64 0) rfl rfl rfl (LOp.assign rfl rfl) ?_
    refine ROps.l (r := AV.b false) rfl rfl rfl (LOp.assign rfl rfl) ?_
    refine ROps.nil ?_
    refine RunC.nil_slot (Γ' := [⟨1, some (([] : List ByteArray).map AV.str)⟩, ⟨0, none⟩]) 2 0 rfl rfl rfl ?_
    refine RunC.ret ?_
    have hq := Option.some.inj h
    obtain ⟨hq0, hq⟩ := Prod.mk.inj hq
    obtain ⟨hq1, hq⟩ := Prod.mk.inj hq
    subst q0
    subst q1
    subst q2
    exact bodyQ.mk (r' := AV.tup [AV.oref 0 1 0 (([] : List ByteArray).length), AV.i64 0, AV.b false]) [(0, 1)] (.inr rfl) rfl (show List.Nodup [0] from by decide) rfl rfl (Res.eq (Res.three rfl (RV.tmp rfl) (RV.tmp rfl) (RV.tmp rfl)) (by rw [(show ([] : List ByteArray).length = 0 from rfl)] <;> rfl)) (SelL.arr0 (f := AV.str) (fun _ => rfl) rfl trivial)
  · refine RunC.regionW ?_
    refine ROps.l (r := AV.str a0) rfl rfl rfl (LOp.move rfl rfl) ?_
    refine ROps.l (r := AV.i64 (a0.size : Int)) rfl rfl rfl (LOp.len_str und9 rfl rfl) ?_
    refine ROps.l (r := AV.b false) rfl rfl rfl (LOp.eqb (LOp.gtr rfl rfl rfl) hc1) ?_
    refine ROps.nil ?_
    refine RunC.cond_false rfl rfl ?_
    refine RunC.skip ?_
    refine RunC.seq ?_
    refine RunC.regionW ?_
    refine ROps.d (r := AV.oref 0 1 0 0) (fs := [(0, (([] : List ByteArray).map AV.str))]) (Γ' := [⟨1, some (([] : List ByteArray).map AV.str)⟩, ⟨0, none⟩]) rfl rfl rfl (TOp.buildSlice_o (g := ⟨0, none⟩) (za := AV.str lit_99ba06bc) (qs := []) 0 rfl und35 siz9 zer9 rfl zel9 rfl rfl trivial rfl) rfl ?_
    refine ROps.l (r := AV.oref 0 1 0 0) rfl rfl rfl (LOp.assign rfl rfl) ?_
    refine ROps.l (r := AV.i64 0) rfl rfl rfl (LOp.assign rfl rfl) ?_
    refine ROps.l (r := AV.i64 0) rfl rfl rfl (LOp.assign rfl rfl) ?_
    refine ROps.nil ?_
    obtain ⟨z2, hz_2, h⟩ := obind_some h
    refine RunC.block (RunC.loop (RunL.loopM (x := z2) (i_RecoverJournal_s1 a0) (fun (s : (List ByteArray) × Int × Int) τ Γ => ∃ (u1 : Nat) (u2 : Nat), WeakLe τ [(0, AV.str a0), (5, AV.oref 0 u1 0 s.1.length), (6, AV.i64 s.2.1), (7, AV.i64 s.2.2)] ∧ DeadLe Γ [⟨u1, some (s.1.map AV.str)⟩, ⟨u2, none⟩]) ?_ _ _ _ hz_2 ⟨1, 0, ⟨(ALe.refl _), (ALe.refl _), (ALe.refl _), (ALe.refl _), trivial⟩, ⟨⟨rfl, .inr rfl⟩, ⟨rfl, .inl rfl⟩, trivial⟩⟩))
    rintro ⟨L3, v4, v5⟩ τ2 Γ2 y2_ ⟨u1, u2, hw2, hd2⟩ h2_ ho2 hr2
    refine RunC.wl (τ' := [(0, AV.str a0), (5, AV.oref 0 u1 0 L3.length), (6, AV.i64 v4), (7, AV.i64 v5)]) (Γ' := [⟨u1, some (L3.map AV.str)⟩, ⟨u2, none⟩]) hw2 hd2 ?_
    replace h2_ : i_RecoverJournal_b1 a0 L3 v4 v5 = some y2_ := h2_
    unfold i_RecoverJournal_b1 at h2_
    refine RunC.block ?_
    refine RunC.seq ?_
    obtain ⟨t6, hs2, h2_⟩ := obind_some h2_
    obtain ⟨r7, r8, r9, hf3, h2_⟩ := obind3_some h2_
    rcases bsel_some h2_ with ⟨hc4, h2_⟩ | ⟨hc4, h2_⟩
    · refine RunC.regionW ?_
      refine ROps.l (r := AV.str a0) rfl rfl rfl (LOp.move rfl rfl) ?_
      refine ROps.l (r := AV.i64 v4) rfl rfl rfl (LOp.move rfl rfl) ?_
      refine ROps.l (r := AV.str t6) rfl rfl rfl (LOp.subs_lo und9 rfl rfl rfl hs2) ?_
      refine ROps.d (r := AV.tup [AV.str r7, AV.str r8, AV.b r9]) (fs := []) (Γ' := [⟨u1, some (L3.map AV.str)⟩, ⟨u2, none⟩]) rfl rfl rfl (TOp.callB (CallAs.func ent53 rfl rfl) (Bors.cons (Bor.pure rfl) (Bors.cons (Bor.pure rfl) Bors.nil)) rfl rfl (x_strings_Cut_ok t6 lit_e4a5378b r7 r8 r9 hf3)) rfl ?_
      refine ROps.l (r := AV.tup [AV.str r7, AV.str r8, AV.b r9]) rfl rfl rfl (LOp.move rfl rfl) ?_
      refine ROps.l (r := AV.str r7) rfl rfl rfl (LOp.extract rfl rfl rfl) ?_
      refine ROps.l (r := AV.str r8) rfl rfl rfl (LOp.extract rfl rfl rfl) ?_
      refine ROps.l (r := AV.b true) rfl rfl rfl (LOp.eqb (LOp.extract rfl rfl rfl) hc4) ?_
      refine ROps.l (r := AV.str r7) rfl rfl rfl (LOp.assign rfl rfl) ?_
      refine ROps.l (r := AV.str r8) rfl rfl rfl (LOp.assign rfl rfl) ?_
      refine ROps.l (r := AV.b true) rfl rfl rfl (LOp.assign rfl rfl) ?_
      refine ROps.nil ?_
      refine RunC.seq ?_
      obtain ⟨r10, r11, r12, hf5, h2_⟩ := obind3_some h2_
      rcases bsel_some h2_ with ⟨hc6, h2_⟩ | ⟨hc6, h2_⟩
      · refine RunC.regionW ?_
        refine ROps.l (r := AV.str r7) rfl rfl rfl (LOp.move rfl rfl) ?_
        refine ROps.d (r := AV.tup [AV.str r10, AV.str r11, AV.b r12]) (fs := []) (Γ' := [⟨u1, some (L3.map AV.str)⟩, ⟨u2, none⟩]) rfl rfl rfl (TOp.callB (CallAs.func ent53 rfl rfl) (Bors.cons (Bor.pure rfl) (Bors.cons (Bor.pure rfl) Bors.nil)) rfl rfl (x_strings_Cut_ok r7 lit_592437da r10 r11 r12 hf5)) rfl ?_
        refine ROps.l (r := AV.tup [AV.str r10, AV.str r11, AV.b r12]) rfl rfl rfl (LOp.move rfl rfl) ?_
        refine ROps.l (r := AV.str r10) rfl rfl rfl (LOp.extract rfl rfl rfl) ?_
        refine ROps.l (r := AV.str r11) rfl rfl rfl (LOp.extract rfl rfl rfl) ?_
        refine ROps.l (r := AV.b true) rfl rfl rfl (LOp.eqb (LOp.extract rfl rfl rfl) hc6) ?_
        refine ROps.l (r := AV.str r10) rfl rfl rfl (LOp.assign rfl rfl) ?_
        refine ROps.l (r := AV.str r11) rfl rfl rfl (LOp.assign rfl rfl) ?_
        refine ROps.l (r := AV.b true) rfl rfl rfl (LOp.assign rfl rfl) ?_
        refine ROps.nil ?_
        refine RunC.seq ?_
        obtain ⟨r13, hf7, h2_⟩ := obind_some h2_
        refine RunC.regionW ?_
        refine ROps.l (r := AV.i64 v5) rfl rfl rfl (LOp.move rfl rfl) ?_
        refine ROps.l (r := AV.str r11) rfl rfl rfl (LOp.move rfl rfl) ?_
        refine ROps.d (r := AV.i64 r13) (fs := []) (Γ' := [⟨u1, some (L3.map AV.str)⟩, ⟨u2, none⟩]) rfl rfl rfl (TOp.callB (CallAs.func ent46 rfl rfl) (Bors.cons (Bor.pure rfl) (Bors.cons (Bor.pure rfl) Bors.nil)) rfl rfl (i_checkOf_ok v5 r11 r13 hf7)) rfl ?_
        refine ROps.l (r := AV.i64 r13) rfl rfl rfl (LOp.assign rfl rfl) ?_
        refine ROps.nil ?_
        refine RunC.seq ?_
        refine RunC.seq ?_
        obtain ⟨r14, hf8, h2_⟩ := obind_some h2_
        obtain ⟨t15, hs9, h2_⟩ := obind_some h2_
        obtain ⟨t16, hs10, h2_⟩ := obind_some h2_
        rcases bsel_some h2_ with ⟨hc11, h2_⟩ | ⟨hc11, h2_⟩
        · refine RunC.regionW ?_
          refine ROps.l (r := AV.b true) rfl rfl rfl (LOp.move rfl rfl) ?_
          refine ROps.l (r := AV.b false) rfl rfl rfl (LOp.eqb (LOp.not rfl rfl) rfl) ?_
          refine ROps.l (r := AV.b false) rfl rfl rfl (LOp.move rfl rfl) ?_
          refine ROps.l (r := AV.b true) rfl rfl rfl (LOp.move rfl rfl) ?_
          refine ROps.l (r := AV.b false) rfl rfl rfl (LOp.eqb (LOp.not rfl rfl) rfl) ?_
          refine ROps.l (r := AV.b false) rfl rfl rfl (LOp.pick_false rfl rfl rfl) ?_
          refine ROps.l (r := AV.b false) rfl rfl rfl (LOp.move rfl rfl) ?_
          refine ROps.l (r := AV.i64 r13) rfl rfl rfl (LOp.move rfl rfl) ?_
          refine ROps.d (r := AV.str r14) (fs := []) (Γ' := [⟨u1, some (L3.map AV.str)⟩, ⟨u2, none⟩]) rfl rfl rfl (TOp.callB (CallAs.func ent48 rfl rfl) (Bors.cons (Bor.pure rfl) Bors.nil) rfl rfl (i_Decimal_ok r13 r14 hf8)) rfl ?_
          refine ROps.l (r := AV.str t15) rfl rfl rfl (LOp.cats rfl rfl rfl hs9) ?_
          refine ROps.l (r := AV.str r11) rfl rfl rfl (LOp.move rfl rfl) ?_
          refine ROps.l (r := AV.str t16) rfl rfl rfl (LOp.cats rfl rfl rfl hs10) ?_
          refine ROps.l (r := AV.str r7) rfl rfl rfl (LOp.move rfl rfl) ?_
          refine ROps.l (r := AV.b true) rfl rfl rfl (LOp.eqb (LOp.neqs rfl rfl rfl) hc11) ?_
          refine ROps.l (r := AV.b true) rfl rfl rfl (LOp.pick_false rfl rfl rfl) ?_
          refine ROps.nil ?_
          refine RunC.wl (τ' := [(0, AV.str a0), (5, AV.oref 0 u1 0 L3.length), (6, AV.i64 v4), (8, AV.str r7), (12, AV.str r11), (14, AV.i64 r13), (39, AV.b true), (40, AV.b false), (43, AV.i64 r13), (44, AV.str r14), (45, AV.str t15), (46, AV.str r11), (47, AV.str t16), (48, AV.str r7), (49, AV.b true), (50, AV.b true)]) (Γ' := [⟨u1, some (L3.map AV.str)⟩, ⟨u2, none⟩]) ⟨(ALe.refl _), (ALe.refl _), (ALe.refl _), (ALe.refl _), (ALe.refl _), (ALe.refl _), (ALe.refl _), (ALe.refl _), (ALe.refl _), (ALe.refl _), (ALe.refl _), (ALe.refl _), (ALe.refl _), (ALe.refl _), (ALe.refl _), (ALe.refl _), trivial⟩ ⟨⟨rfl, .inr rfl⟩, ⟨rfl, .inl rfl⟩, trivial⟩ ?_
          refine RunC.cond_true rfl rfl ?_
          refine RunC.seq ?_
          refine RunC.regionW ?_
          refine ROps.l (r := AV.oref 0 u1 0 L3.length) rfl rfl rfl (LOp.move rfl rfl) ?_
          refine ROps.l (r := AV.i64 v4) rfl rfl rfl (LOp.move rfl rfl) ?_
          refine ROps.l (r := AV.oref 0 u1 0 L3.length) rfl rfl rfl (LOp.assign rfl rfl) ?_
          refine ROps.l (r := AV.i64 v4) rfl rfl rfl (LOp.assign rfl rfl) ?_
          refine ROps.l (r := AV.b true) rfl rfl rfl (LOp.assign rfl rfl) ?_
          refine ROps.nil ?_
          refine RunC.ret ?_
          cases Option.some.inj h2_
          have hx3_ := hr2 _ rfl
          subst hx3_
          have hq := Option.some.inj h
          obtain ⟨hq0, hq⟩ := Prod.mk.inj hq
          obtain ⟨hq1, hq⟩ := Prod.mk.inj hq
          subst q0
          subst q1
          subst q2
          exact bodyQ.mk (r' := AV.tup [AV.oref 0 u1 0 L3.length, AV.i64 v4, AV.b true]) [(0, u1)] (.inr rfl) rfl (show List.Nodup [0] from by decide) (by simp [AV.ren, AV.rens, sigma]) rfl (Res.three rfl (RV.tmp rfl) (RV.tmp rfl) (RV.tmp rfl)) (SelL.arr0 (f := AV.str) (fun _ => rfl) rfl trivial)
        · refine RunC.regionW ?_
          refine ROps.l (r := AV.b true) rfl rfl rfl (LOp.move rfl rfl) ?_
          refine ROps.l (r := AV.b false) rfl rfl rfl (LOp.eqb (LOp.not rfl rfl) rfl) ?_
          refine ROps.l (r := AV.b false) rfl rfl rfl (LOp.move rfl rfl) ?_
          refine ROps.l (r := AV.b true) rfl rfl rfl (LOp.move rfl rfl) ?_
          refine ROps.l (r := AV.b false) rfl rfl rfl (LOp.eqb (LOp.not rfl rfl) rfl) ?_
          refine ROps.l (r := AV.b false) rfl rfl rfl (LOp.pick_false rfl rfl rfl) ?_
          refine ROps.l (r := AV.b false) rfl rfl rfl (LOp.move rfl rfl) ?_
          refine ROps.l (r := AV.i64 r13) rfl rfl rfl (LOp.move rfl rfl) ?_
          refine ROps.d (r := AV.str r14) (fs := []) (Γ' := [⟨u1, some (L3.map AV.str)⟩, ⟨u2, none⟩]) rfl rfl rfl (TOp.callB (CallAs.func ent48 rfl rfl) (Bors.cons (Bor.pure rfl) Bors.nil) rfl rfl (i_Decimal_ok r13 r14 hf8)) rfl ?_
          refine ROps.l (r := AV.str t15) rfl rfl rfl (LOp.cats rfl rfl rfl hs9) ?_
          refine ROps.l (r := AV.str r11) rfl rfl rfl (LOp.move rfl rfl) ?_
          refine ROps.l (r := AV.str t16) rfl rfl rfl (LOp.cats rfl rfl rfl hs10) ?_
          refine ROps.l (r := AV.str r7) rfl rfl rfl (LOp.move rfl rfl) ?_
          refine ROps.l (r := AV.b false) rfl rfl rfl (LOp.eqb (LOp.neqs rfl rfl rfl) hc11) ?_
          refine ROps.l (r := AV.b false) rfl rfl rfl (LOp.pick_false rfl rfl rfl) ?_
          refine ROps.nil ?_
          refine RunC.wl (τ' := [(0, AV.str a0), (5, AV.oref 0 u1 0 L3.length), (6, AV.i64 v4), (8, AV.str r7), (12, AV.str r11), (14, AV.i64 r13), (39, AV.b true), (40, AV.b false), (43, AV.i64 r13), (44, AV.str r14), (45, AV.str t15), (46, AV.str r11), (47, AV.str t16), (48, AV.str r7), (49, AV.b false), (50, AV.b false)]) (Γ' := [⟨u1, some (L3.map AV.str)⟩, ⟨u2, none⟩]) ⟨(ALe.refl _), (ALe.refl _), (ALe.refl _), (ALe.refl _), (ALe.refl _), (ALe.refl _), (ALe.refl _), (ALe.refl _), (ALe.refl _), (ALe.refl _), (ALe.refl _), (ALe.refl _), (ALe.refl _), (ALe.refl _), (ALe.refl _), (ALe.refl _), trivial⟩ ⟨⟨rfl, .inr rfl⟩, ⟨rfl, .inl rfl⟩, trivial⟩ ?_
          refine RunC.cond_false rfl rfl ?_
          refine RunC.skip ?_
          refine RunC.seq ?_
          obtain ⟨hm12, h2_⟩ := need_some h2_
          refine RunC.regionW ?_
          refine ROps.l (r := AV.oref 0 u1 0 L3.length) rfl rfl rfl (LOp.move rfl rfl) ?_
          refine ROps.l (r := AV.str r11) rfl rfl rfl (LOp.move rfl rfl) ?_
          refine ROps.d (r := AV.oref 1 (u2 + 1) 0 1) (fs := [(1, (([r11] : List ByteArray).map AV.str))]) (Γ' := [⟨u1, some (L3.map AV.str)⟩, ⟨(u2 + 1), some (([r11] : List ByteArray).map AV.str)⟩]) rfl rfl rfl (TOp.buildSlice_o (g := ⟨u2, none⟩) (za := AV.str lit_99ba06bc) (qs := [(0, [AV.str r11])]) 1 rfl und35 siz9 zer9 rfl zel9 rfl rfl ⟨rfl, ⟨_, ALe.refl _, rfl⟩, trivial⟩ rfl) rfl ?_
          refine ROps.app (f := AV.str) (xs := L3) (ys := ([r11] : List ByteArray)) (Γ' := [⟨(u1 + 1), some ((L3 ++ ([r11] : List ByteArray)).map AV.str)⟩, ⟨(u2 + 1), some (([r11] : List ByteArray).map AV.str)⟩]) rfl pun35 inf9 rfl rfl rfl rfl rfl rfl rfl rfl rfl (by simp) (ReadAs.own rfl (by simp)) (ones_map (fun _ => rfl)) (ap_by hm12) (ap_mx hm12) rfl ?_
          refine ROps.l (r := AV.i64 r13) rfl rfl rfl (LOp.move rfl rfl) ?_
          refine ROps.l (r := AV.oref 0 (u1 + 1) 0 (L3.length + 1)) rfl rfl rfl (LOp.assign rfl rfl) ?_
          refine ROps.l (r := AV.i64 r13) rfl rfl rfl (LOp.assign rfl rfl) ?_
          refine ROps.nil ?_
          refine RunC.wl (τ' := [(0, AV.str a0), (5, AV.oref 0 (u1 + 1) 0 (L3.length + 1)), (6, AV.i64 v4), (7, AV.i64 r13), (8, AV.str r7), (39, AV.b true), (40, AV.b false), (43, AV.i64 r13), (44, AV.str r14), (45, AV.str t15), (46, AV.str r11), (47, AV.str t16), (48, AV.str r7), (49, AV.b false)]) (Γ' := [⟨(u1 + 1), some ((L3 ++ ([r11] : List ByteArray)).map AV.str)⟩, ⟨(u2 + 1), none⟩]) ⟨(ALe.refl _), (ALe.refl _), (ALe.refl _), (ALe.refl _), (ALe.refl _), (ALe.refl _), (ALe.refl _), (ALe.refl _), (ALe.refl _), (ALe.refl _), (ALe.refl _), (ALe.refl _), (ALe.refl _), (ALe.refl _), trivial⟩ ⟨⟨rfl, .inr rfl⟩, ⟨rfl, .inl rfl⟩, trivial⟩ ?_
          obtain ⟨x17, hx13, h2_⟩ := olet_some h2_
          obtain ⟨x18, hx14, h2_⟩ := olet_some h2_
          refine RunC.regionW ?_
          refine ROps.l (r := AV.i64 v4) rfl rfl rfl (LOp.move rfl rfl) ?_
          refine ROps.l (r := AV.str r7) rfl rfl rfl (LOp.move rfl rfl) ?_
          refine ROps.l (r := AV.i64 (r7.size : Int)) rfl rfl rfl (LOp.len_str und9 rfl rfl) ?_
          refine ROps.l (r := AV.i64 x17) rfl rfl rfl (LOp.eqr (LOp.add rfl rfl rfl) (congrArg (AV.ik .i64) hx13)) ?_
          refine ROps.l (r := AV.i64 x18) rfl rfl rfl (LOp.eqr (LOp.add rfl rfl rfl) (congrArg (AV.ik .i64) hx14)) ?_
          refine ROps.l (r := AV.i64 x18) rfl rfl rfl (LOp.assign rfl rfl) ?_
          refine ROps.nil ?_
          cases Option.some.inj h2_
          exact ⟨_, rfl, (u1 + 1), (u2 + 1), ⟨(ALe.refl _), (ALe.eq (by rw [(app_len rfl rfl)] <;> rfl)), (ALe.refl _), (ALe.refl _), trivial⟩, ⟨⟨rfl, .inr rfl⟩, ⟨rfl, .inl rfl⟩, trivial⟩⟩
      · refine RunC.regionW ?_
        refine ROps.l (r := AV.str r7) rfl rfl rfl (LOp.move rfl rfl) ?_
        refine ROps.d (r := AV.tup [AV.str r10, AV.str r11, AV.b r12]) (fs := []) (Γ' := [⟨u1, some (L3.map AV.str)⟩, ⟨u2, none⟩]) rfl rfl rfl (TOp.callB (CallAs.func ent53 rfl rfl) (Bors.cons (Bor.pure rfl) (Bors.cons (Bor.pure rfl) Bors.nil)) rfl rfl (x_strings_Cut_ok r7 lit_592437da r10 r11 r12 hf5)) rfl ?_
        refine ROps.l (r := AV.tup [AV.str r10, AV.str r11, AV.b r12]) rfl rfl rfl (LOp.move rfl rfl) ?_
        refine ROps.l (r := AV.str r10) rfl rfl rfl (LOp.extract rfl rfl rfl) ?_
        refine ROps.l (r := AV.str r11) rfl rfl rfl (LOp.extract rfl rfl rfl) ?_
        refine ROps.l (r := AV.b false) rfl rfl rfl (LOp.eqb (LOp.extract rfl rfl rfl) hc6) ?_
        refine ROps.l (r := AV.str r10) rfl rfl rfl (LOp.assign rfl rfl) ?_
        refine ROps.l (r := AV.str r11) rfl rfl rfl (LOp.assign rfl rfl) ?_
        refine ROps.l (r := AV.b false) rfl rfl rfl (LOp.assign rfl rfl) ?_
        refine ROps.nil ?_
        refine RunC.seq ?_
        obtain ⟨r19, hf15, h2_⟩ := obind_some h2_
        refine RunC.regionW ?_
        refine ROps.l (r := AV.i64 v5) rfl rfl rfl (LOp.move rfl rfl) ?_
        refine ROps.l (r := AV.str r11) rfl rfl rfl (LOp.move rfl rfl) ?_
        refine ROps.d (r := AV.i64 r19) (fs := []) (Γ' := [⟨u1, some (L3.map AV.str)⟩, ⟨u2, none⟩]) rfl rfl rfl (TOp.callB (CallAs.func ent46 rfl rfl) (Bors.cons (Bor.pure rfl) (Bors.cons (Bor.pure rfl) Bors.nil)) rfl rfl (i_checkOf_ok v5 r11 r19 hf15)) rfl ?_
        refine ROps.l (r := AV.i64 r19) rfl rfl rfl (LOp.assign rfl rfl) ?_
        refine ROps.nil ?_
        refine RunC.seq ?_
        refine RunC.seq ?_
        refine RunC.regionW ?_
        refine ROps.l (r := AV.b true) rfl rfl rfl (LOp.move rfl rfl) ?_
        refine ROps.l (r := AV.b false) rfl rfl rfl (LOp.eqb (LOp.not rfl rfl) rfl) ?_
        refine ROps.l (r := AV.b false) rfl rfl rfl (LOp.move rfl rfl) ?_
        refine ROps.l (r := AV.b false) rfl rfl rfl (LOp.move rfl rfl) ?_
        refine ROps.l (r := AV.b true) rfl rfl rfl (LOp.eqb (LOp.not rfl rfl) rfl) ?_
        refine ROps.l (r := AV.b true) rfl rfl rfl (LOp.pick_false rfl rfl rfl) ?_
        refine ROps.l (r := AV.b true) rfl rfl rfl (LOp.move rfl rfl) ?_
        refine ROps.s rfl rfl rfl ?_
        refine ROps.s rfl rfl rfl ?_
        refine ROps.s rfl rfl rfl ?_
        refine ROps.s rfl rfl rfl ?_
        refine ROps.s rfl rfl rfl ?_
        refine ROps.s rfl rfl rfl ?_
        refine ROps.s rfl rfl rfl ?_
        refine ROps.l (r := AV.b true) rfl rfl rfl (LOp.pick_true rfl rfl rfl) ?_
        refine ROps.nil ?_
        refine RunC.wl (τ' := [(0, AV.str a0), (5, AV.oref 0 u1 0 L3.length), (6, AV.i64 v4), (8, AV.str r7), (12, AV.str r11), (14, AV.i64 r19), (39, AV.b false), (40, AV.b true), (50, AV.b true)]) (Γ' := [⟨u1, some (L3.map AV.str)⟩, ⟨u2, none⟩]) ⟨(ALe.refl _), (ALe.refl _), (ALe.refl _), (ALe.refl _), (ALe.refl _), (ALe.refl _), (ALe.refl _), (ALe.refl _), (ALe.refl _), trivial⟩ ⟨⟨rfl, .inr rfl⟩, ⟨rfl, .inl rfl⟩, trivial⟩ ?_
        refine RunC.cond_true rfl rfl ?_
        refine RunC.seq ?_
        refine RunC.regionW ?_
        refine ROps.l (r := AV.oref 0 u1 0 L3.length) rfl rfl rfl (LOp.move rfl rfl) ?_
        refine ROps.l (r := AV.i64 v4) rfl rfl rfl (LOp.move rfl rfl) ?_
        refine ROps.l (r := AV.oref 0 u1 0 L3.length) rfl rfl rfl (LOp.assign rfl rfl) ?_
        refine ROps.l (r := AV.i64 v4) rfl rfl rfl (LOp.assign rfl rfl) ?_
        refine ROps.l (r := AV.b true) rfl rfl rfl (LOp.assign rfl rfl) ?_
        refine ROps.nil ?_
        refine RunC.ret ?_
        cases Option.some.inj h2_
        have hx4_ := hr2 _ rfl
        subst hx4_
        have hq := Option.some.inj h
        obtain ⟨hq0, hq⟩ := Prod.mk.inj hq
        obtain ⟨hq1, hq⟩ := Prod.mk.inj hq
        subst q0
        subst q1
        subst q2
        exact bodyQ.mk (r' := AV.tup [AV.oref 0 u1 0 L3.length, AV.i64 v4, AV.b true]) [(0, u1)] (.inr rfl) rfl (show List.Nodup [0] from by decide) (by simp [AV.ren, AV.rens, sigma]) rfl (Res.three rfl (RV.tmp rfl) (RV.tmp rfl) (RV.tmp rfl)) (SelL.arr0 (f := AV.str) (fun _ => rfl) rfl trivial)
    · refine RunC.regionW ?_
      refine ROps.l (r := AV.str a0) rfl rfl rfl (LOp.move rfl rfl) ?_
      refine ROps.l (r := AV.i64 v4) rfl rfl rfl (LOp.move rfl rfl) ?_
      refine ROps.l (r := AV.str t6) rfl rfl rfl (LOp.subs_lo und9 rfl rfl rfl hs2) ?_
      refine ROps.d (r := AV.tup [AV.str r7, AV.str r8, AV.b r9]) (fs := []) (Γ' := [⟨u1, some (L3.map AV.str)⟩, ⟨u2, none⟩]) rfl rfl rfl (TOp.callB (CallAs.func ent53 rfl rfl) (Bors.cons (Bor.pure rfl) (Bors.cons (Bor.pure rfl) Bors.nil)) rfl rfl (x_strings_Cut_ok t6 lit_e4a5378b r7 r8 r9 hf3)) rfl ?_
      refine ROps.l (r := AV.tup [AV.str r7, AV.str r8, AV.b r9]) rfl rfl rfl (LOp.move rfl rfl) ?_
      refine ROps.l (r := AV.str r7) rfl rfl rfl (LOp.extract rfl rfl rfl) ?_
      refine ROps.l (r := AV.str r8) rfl rfl rfl (LOp.extract rfl rfl rfl) ?_
      refine ROps.l (r := AV.b false) rfl rfl rfl (LOp.eqb (LOp.extract rfl rfl rfl) hc4) ?_
      refine ROps.l (r := AV.str r7) rfl rfl rfl (LOp.assign rfl rfl) ?_
      refine ROps.l (r := AV.str r8) rfl rfl rfl (LOp.assign rfl rfl) ?_
      refine ROps.l (r := AV.b false) rfl rfl rfl (LOp.assign rfl rfl) ?_
      refine ROps.nil ?_
      refine RunC.seq ?_
      obtain ⟨r20, r21, r22, hf16, h2_⟩ := obind3_some h2_
      rcases bsel_some h2_ with ⟨hc17, h2_⟩ | ⟨hc17, h2_⟩
      · refine RunC.regionW ?_
        refine ROps.l (r := AV.str r7) rfl rfl rfl (LOp.move rfl rfl) ?_
        refine ROps.d (r := AV.tup [AV.str r20, AV.str r21, AV.b r22]) (fs := []) (Γ' := [⟨u1, some (L3.map AV.str)⟩, ⟨u2, none⟩]) rfl rfl rfl (TOp.callB (CallAs.func ent53 rfl rfl) (Bors.cons (Bor.pure rfl) (Bors.cons (Bor.pure rfl) Bors.nil)) rfl rfl (x_strings_Cut_ok r7 lit_592437da r20 r21 r22 hf16)) rfl ?_
        refine ROps.l (r := AV.tup [AV.str r20, AV.str r21, AV.b r22]) rfl rfl rfl (LOp.move rfl rfl) ?_
        refine ROps.l (r := AV.str r20) rfl rfl rfl (LOp.extract rfl rfl rfl) ?_
        refine ROps.l (r := AV.str r21) rfl rfl rfl (LOp.extract rfl rfl rfl) ?_
        refine ROps.l (r := AV.b true) rfl rfl rfl (LOp.eqb (LOp.extract rfl rfl rfl) hc17) ?_
        refine ROps.l (r := AV.str r20) rfl rfl rfl (LOp.assign rfl rfl) ?_
        refine ROps.l (r := AV.str r21) rfl rfl rfl (LOp.assign rfl rfl) ?_
        refine ROps.l (r := AV.b true) rfl rfl rfl (LOp.assign rfl rfl) ?_
        refine ROps.nil ?_
        refine RunC.seq ?_
        obtain ⟨r23, hf18, h2_⟩ := obind_some h2_
        refine RunC.regionW ?_
        refine ROps.l (r := AV.i64 v5) rfl rfl rfl (LOp.move rfl rfl) ?_
        refine ROps.l (r := AV.str r21) rfl rfl rfl (LOp.move rfl rfl) ?_
        refine ROps.d (r := AV.i64 r23) (fs := []) (Γ' := [⟨u1, some (L3.map AV.str)⟩, ⟨u2, none⟩]) rfl rfl rfl (TOp.callB (CallAs.func ent46 rfl rfl) (Bors.cons (Bor.pure rfl) (Bors.cons (Bor.pure rfl) Bors.nil)) rfl rfl (i_checkOf_ok v5 r21 r23 hf18)) rfl ?_
        refine ROps.l (r := AV.i64 r23) rfl rfl rfl (LOp.assign rfl rfl) ?_
        refine ROps.nil ?_
        refine RunC.seq ?_
        refine RunC.seq ?_
        refine RunC.regionW ?_
        refine ROps.l (r := AV.b false) rfl rfl rfl (LOp.move rfl rfl) ?_
        refine ROps.l (r := AV.b true) rfl rfl rfl (LOp.eqb (LOp.not rfl rfl) rfl) ?_
        refine ROps.l (r := AV.b true) rfl rfl rfl (LOp.move rfl rfl) ?_
        refine ROps.s rfl rfl rfl ?_
        refine ROps.s rfl rfl rfl ?_
        refine ROps.l (r := AV.b true) rfl rfl rfl (LOp.pick_true rfl rfl rfl) ?_
        refine ROps.l (r := AV.b true) rfl rfl rfl (LOp.move rfl rfl) ?_
        refine ROps.s rfl rfl rfl ?_
        refine ROps.s rfl rfl rfl ?_
        refine ROps.s rfl rfl rfl ?_
        refine ROps.s rfl rfl rfl ?_
        refine ROps.s rfl rfl rfl ?_
        refine ROps.s rfl rfl rfl ?_
        refine ROps.s rfl rfl rfl ?_
        refine ROps.l (r := AV.b true) rfl rfl rfl (LOp.pick_true rfl rfl rfl) ?_
        refine ROps.nil ?_
        refine RunC.wl (τ' := [(0, AV.str a0), (5, AV.oref 0 u1 0 L3.length), (6, AV.i64 v4), (8, AV.str r7), (12, AV.str r21), (14, AV.i64 r23), (50, AV.b true)]) (Γ' := [⟨u1, some (L3.map AV.str)⟩, ⟨u2, none⟩]) ⟨(ALe.refl _), (ALe.refl _), (ALe.refl _), (ALe.refl _), (ALe.refl _), (ALe.refl _), (ALe.refl _), trivial⟩ ⟨⟨rfl, .inr rfl⟩, ⟨rfl, .inl rfl⟩, trivial⟩ ?_
        refine RunC.cond_true rfl rfl ?_
        refine RunC.seq ?_
        refine RunC.regionW ?_
        refine ROps.l (r := AV.oref 0 u1 0 L3.length) rfl rfl rfl (LOp.move rfl rfl) ?_
        refine ROps.l (r := AV.i64 v4) rfl rfl rfl (LOp.move rfl rfl) ?_
        refine ROps.l (r := AV.oref 0 u1 0 L3.length) rfl rfl rfl (LOp.assign rfl rfl) ?_
        refine ROps.l (r := AV.i64 v4) rfl rfl rfl (LOp.assign rfl rfl) ?_
        refine ROps.l (r := AV.b true) rfl rfl rfl (LOp.assign rfl rfl) ?_
        refine ROps.nil ?_
        refine RunC.ret ?_
        cases Option.some.inj h2_
        have hx5_ := hr2 _ rfl
        subst hx5_
        have hq := Option.some.inj h
        obtain ⟨hq0, hq⟩ := Prod.mk.inj hq
        obtain ⟨hq1, hq⟩ := Prod.mk.inj hq
        subst q0
        subst q1
        subst q2
        exact bodyQ.mk (r' := AV.tup [AV.oref 0 u1 0 L3.length, AV.i64 v4, AV.b true]) [(0, u1)] (.inr rfl) rfl (show List.Nodup [0] from by decide) (by simp [AV.ren, AV.rens, sigma]) rfl (Res.three rfl (RV.tmp rfl) (RV.tmp rfl) (RV.tmp rfl)) (SelL.arr0 (f := AV.str) (fun _ => rfl) rfl trivial)
      · refine RunC.regionW ?_
        refine ROps.l (r := AV.str r7) rfl rfl rfl (LOp.move rfl rfl) ?_
        refine ROps.d (r := AV.tup [AV.str r20, AV.str r21, AV.b r22]) (fs := []) (Γ' := [⟨u1, some (L3.map AV.str)⟩, ⟨u2, none⟩]) rfl rfl rfl (TOp.callB (CallAs.func ent53 rfl rfl) (Bors.cons (Bor.pure rfl) (Bors.cons (Bor.pure rfl) Bors.nil)) rfl rfl (x_strings_Cut_ok r7 lit_592437da r20 r21 r22 hf16)) rfl ?_
        refine ROps.l (r := AV.tup [AV.str r20, AV.str r21, AV.b r22]) rfl rfl rfl (LOp.move rfl rfl) ?_
        refine ROps.l (r := AV.str r20) rfl rfl rfl (LOp.extract rfl rfl rfl) ?_
        refine ROps.l (r := AV.str r21) rfl rfl rfl (LOp.extract rfl rfl rfl) ?_
        refine ROps.l (r := AV.b false) rfl rfl rfl (LOp.eqb (LOp.extract rfl rfl rfl) hc17) ?_
        refine ROps.l (r := AV.str r20) rfl rfl rfl (LOp.assign rfl rfl) ?_
        refine ROps.l (r := AV.str r21) rfl rfl rfl (LOp.assign rfl rfl) ?_
        refine ROps.l (r := AV.b false) rfl rfl rfl (LOp.assign rfl rfl) ?_
        refine ROps.nil ?_
        refine RunC.seq ?_
        obtain ⟨r24, hf19, h2_⟩ := obind_some h2_
        refine RunC.regionW ?_
        refine ROps.l (r := AV.i64 v5) rfl rfl rfl (LOp.move rfl rfl) ?_
        refine ROps.l (r := AV.str r21) rfl rfl rfl (LOp.move rfl rfl) ?_
        refine ROps.d (r := AV.i64 r24) (fs := []) (Γ' := [⟨u1, some (L3.map AV.str)⟩, ⟨u2, none⟩]) rfl rfl rfl (TOp.callB (CallAs.func ent46 rfl rfl) (Bors.cons (Bor.pure rfl) (Bors.cons (Bor.pure rfl) Bors.nil)) rfl rfl (i_checkOf_ok v5 r21 r24 hf19)) rfl ?_
        refine ROps.l (r := AV.i64 r24) rfl rfl rfl (LOp.assign rfl rfl) ?_
        refine ROps.nil ?_
        refine RunC.seq ?_
        refine RunC.seq ?_
        refine RunC.regionW ?_
        refine ROps.l (r := AV.b false) rfl rfl rfl (LOp.move rfl rfl) ?_
        refine ROps.l (r := AV.b true) rfl rfl rfl (LOp.eqb (LOp.not rfl rfl) rfl) ?_
        refine ROps.l (r := AV.b true) rfl rfl rfl (LOp.move rfl rfl) ?_
        refine ROps.s rfl rfl rfl ?_
        refine ROps.s rfl rfl rfl ?_
        refine ROps.l (r := AV.b true) rfl rfl rfl (LOp.pick_true rfl rfl rfl) ?_
        refine ROps.l (r := AV.b true) rfl rfl rfl (LOp.move rfl rfl) ?_
        refine ROps.s rfl rfl rfl ?_
        refine ROps.s rfl rfl rfl ?_
        refine ROps.s rfl rfl rfl ?_
        refine ROps.s rfl rfl rfl ?_
        refine ROps.s rfl rfl rfl ?_
        refine ROps.s rfl rfl rfl ?_
        refine ROps.s rfl rfl rfl ?_
        refine ROps.l (r := AV.b true) rfl rfl rfl (LOp.pick_true rfl rfl rfl) ?_
        refine ROps.nil ?_
        refine RunC.wl (τ' := [(0, AV.str a0), (5, AV.oref 0 u1 0 L3.length), (6, AV.i64 v4), (8, AV.str r7), (12, AV.str r21), (14, AV.i64 r24), (50, AV.b true)]) (Γ' := [⟨u1, some (L3.map AV.str)⟩, ⟨u2, none⟩]) ⟨(ALe.refl _), (ALe.refl _), (ALe.refl _), (ALe.refl _), (ALe.refl _), (ALe.refl _), (ALe.refl _), trivial⟩ ⟨⟨rfl, .inr rfl⟩, ⟨rfl, .inl rfl⟩, trivial⟩ ?_
        refine RunC.cond_true rfl rfl ?_
        refine RunC.seq ?_
        refine RunC.regionW ?_
        refine ROps.l (r := AV.oref 0 u1 0 L3.length) rfl rfl rfl (LOp.move rfl rfl) ?_
        refine ROps.l (r := AV.i64 v4) rfl rfl rfl (LOp.move rfl rfl) ?_
        refine ROps.l (r := AV.oref 0 u1 0 L3.length) rfl rfl rfl (LOp.assign rfl rfl) ?_
        refine ROps.l (r := AV.i64 v4) rfl rfl rfl (LOp.assign rfl rfl) ?_
        refine ROps.l (r := AV.b true) rfl rfl rfl (LOp.assign rfl rfl) ?_
        refine ROps.nil ?_
        refine RunC.ret ?_
        cases Option.some.inj h2_
        have hx6_ := hr2 _ rfl
        subst hx6_
        have hq := Option.some.inj h
        obtain ⟨hq0, hq⟩ := Prod.mk.inj hq
        obtain ⟨hq1, hq⟩ := Prod.mk.inj hq
        subst q0
        subst q1
        subst q2
        exact bodyQ.mk (r' := AV.tup [AV.oref 0 u1 0 L3.length, AV.i64 v4, AV.b true]) [(0, u1)] (.inr rfl) rfl (show List.Nodup [0] from by decide) (by simp [AV.ren, AV.rens, sigma]) rfl (Res.three rfl (RV.tmp rfl) (RV.tmp rfl) (RV.tmp rfl)) (SelL.arr0 (f := AV.str) (fun _ => rfl) rfl trivial)
noncomputable def w_eqStringS_b1 (a0 : List ByteArray) (a1 : List ByteArray) (v1 : Int) : Option (LR (Int) (Unit) (Bool)) :=
  bsel (decide (v1 < (a0.length : Int))) (
    obind (at? a0 v1) fun (e2 : ByteArray) =>
    obind (at? a1 v1) fun (e3 : ByteArray) =>
    bsel (!eqs e2 e3) (
      some (LR.ret false)) (
      olet (IntKind.i64.wrap (v1 + 1)) fun (x4 : Int) =>
      some (LR.next x4))) (
    some (LR.out ()))
noncomputable def w_eqStringS_s1 (a0 : List ByteArray) (a1 : List ByteArray) : (Int) → Option (LR (Int) (Unit) (Bool)) := fun s => w_eqStringS_b1 a0 a1 s
noncomputable def w_eqStringS_k1  : Option (Bool) :=
  some true
noncomputable def w_eqStringS (a0 : List ByteArray) (a1 : List ByteArray) : Option (Bool) :=
  bsel (!decide ((a0.length : Int) = (a1.length : Int))) (
    some false) (
    obind (loopM (w_eqStringS_s1 a0 a1) 0) fun z => osum z (fun _ => w_eqStringS_k1) (fun r => some r))
theorem w_eqStringS_ok (a0 : List ByteArray) (a1 : List ByteArray) (q0 : Bool) (h : w_eqStringS a0 a1 = some q0) : Ev Tryd.prog 20 [AV.sl a0.length (a0.map AV.str), AV.sl a1.length (a1.map AV.str)] [] (AV.b q0) [] := by
  refine Ev.start Tryd.func20 rfl rfl 0 (τ := [(0, AV.sl a0.length (a0.map AV.str)), (1, AV.sl a1.length (a1.map AV.str))]) rfl (Γ' := []) rfl (n := 53) rfl (g := 0) rfl (fun _ => rfl) ?_
  unfold w_eqStringS at h
  refine RunC.seq ?_
  refine RunC.regionW ?_
  refine ROps.l (r := AV.b false) rfl rfl rfl (LOp.assign rfl rfl) ?_
  refine ROps.nil ?_
  refine RunC.seq ?_
  refine RunC.seq ?_
  rcases bsel_some h with ⟨hc1, h⟩ | ⟨hc1, h⟩
  · refine RunC.regionW ?_
    refine ROps.l (r := AV.sl a0.length (a0.map AV.str)) rfl rfl rfl (LOp.move rfl rfl) ?_
    refine ROps.l (r := AV.i64 (a0.length : Int)) rfl rfl rfl (LOp.len_sl und35 rfl rfl) ?_
    refine ROps.l (r := AV.sl a1.length (a1.map AV.str)) rfl rfl rfl (LOp.move rfl rfl) ?_
    refine ROps.l (r := AV.i64 (a1.length : Int)) rfl rfl rfl (LOp.len_sl und35 rfl rfl) ?_
    refine ROps.l (r := AV.b true) rfl rfl rfl (LOp.eqb (LOp.neq rfl rfl rfl) hc1) ?_
    refine ROps.nil ?_
    refine RunC.cond_true rfl rfl ?_
    refine RunC.seq ?_
    refine RunC.regionW ?_
    refine ROps.l (r := AV.b false) rfl rfl rfl (LOp.assign rfl rfl) ?_
    refine ROps.nil ?_
    refine RunC.ret ?_
    have hq := Option.some.inj h
    subst q0
    exact bodyQ.pure (.inr rfl) rfl (Res.one rfl (RV.tmp rfl))
  · refine RunC.regionW ?_
    refine ROps.l (r := AV.sl a0.length (a0.map AV.str)) rfl rfl rfl (LOp.move rfl rfl) ?_
    refine ROps.l (r := AV.i64 (a0.length : Int)) rfl rfl rfl (LOp.len_sl und35 rfl rfl) ?_
    refine ROps.l (r := AV.sl a1.length (a1.map AV.str)) rfl rfl rfl (LOp.move rfl rfl) ?_
    refine ROps.l (r := AV.i64 (a1.length : Int)) rfl rfl rfl (LOp.len_sl und35 rfl rfl) ?_
    refine ROps.l (r := AV.b false) rfl rfl rfl (LOp.eqb (LOp.neq rfl rfl rfl) hc1) ?_
    refine ROps.nil ?_
    refine RunC.cond_false rfl rfl ?_
    refine RunC.skip ?_
    refine RunC.seq ?_
    refine RunC.seq ?_
    refine RunC.regionW ?_
    refine ROps.l (r := AV.i64 0) rfl rfl rfl (LOp.assign rfl rfl) ?_
    refine ROps.nil ?_
    obtain ⟨z2, hz_2, h⟩ := obind_some h
    refine RunC.cutN (fun τ Γ => WeakLe τ [] ∧ DeadLe Γ [] ∧ z2 = .inl ()) ?_ ?_
    · refine RunC.block (RunC.loop (RunL.loopM (x := z2) (w_eqStringS_s1 a0 a1) (fun (s : Int) τ Γ => WeakLe τ [(0, AV.sl a0.length (a0.map AV.str)), (1, AV.sl a1.length (a1.map AV.str)), (5, AV.i64 s)] ∧ DeadLe Γ []) ?_ _ _ _ hz_2 ⟨⟨(ALe.refl _), (ALe.refl _), (ALe.refl _), trivial⟩, trivial⟩))
      rintro v1 τ2 Γ2 y2_ ⟨hw2, hd2⟩ h2_ ho2 hr2
      refine RunC.wl (τ' := [(0, AV.sl a0.length (a0.map AV.str)), (1, AV.sl a1.length (a1.map AV.str)), (5, AV.i64 v1)]) (Γ' := []) hw2 hd2 ?_
      replace h2_ : w_eqStringS_b1 a0 a1 v1 = some y2_ := h2_
      unfold w_eqStringS_b1 at h2_
      refine RunC.seq ?_
      refine RunC.seq ?_
      rcases bsel_some h2_ with ⟨hc2, h2_⟩ | ⟨hc2, h2_⟩
      · refine RunC.regionW ?_
        refine ROps.l (r := AV.i64 v1) rfl rfl rfl (LOp.move rfl rfl) ?_
        refine ROps.l (r := AV.sl a0.length (a0.map AV.str)) rfl rfl rfl (LOp.move rfl rfl) ?_
        refine ROps.l (r := AV.i64 (a0.length : Int)) rfl rfl rfl (LOp.len_sl und35 rfl rfl) ?_
        refine ROps.l (r := AV.b true) rfl rfl rfl (LOp.eqb (LOp.lss rfl rfl rfl) hc2) ?_
        refine ROps.nil ?_
        refine RunC.cond_true rfl rfl ?_
        refine RunC.skip ?_
        refine RunC.seq ?_
        refine RunC.block ?_
        refine RunC.seq ?_
        obtain ⟨e2, he3, h2_⟩ := obind_some h2_
        obtain ⟨e3, he4, h2_⟩ := obind_some h2_
        rcases bsel_some h2_ with ⟨hc5, h2_⟩ | ⟨hc5, h2_⟩
        · refine RunC.region_draw (Γ' := []) 9 mixed 
            (TR.l (r := AV.sl a0.length (a0.map AV.str)) rfl rfl (LOp.move rfl rfl) <|
            (TR.l (r := AV.i64 v1) rfl rfl (LOp.move rfl rfl) <|
            (TR.l (r := AV.ptr [AV.str e2]) rfl rfl (LOp.le (LOp.ix (f := AV.str) und35 siz9 rfl rfl rfl rfl he3) ALe.ptr) <|
            (TR.l (r := AV.str e2) rfl rfl (LOp.load1 agg9 rfl rfl) <|
            (TR.l (r := AV.sl a1.length (a1.map AV.str)) rfl rfl (LOp.move rfl rfl) <|
            (TR.l (r := AV.i64 v1) rfl rfl (LOp.move rfl rfl) <|
            (TR.l (r := AV.ptr [AV.str e3]) rfl rfl (LOp.le (LOp.ix (f := AV.str) und35 siz9 rfl rfl rfl rfl he4) ALe.ptr) <|
            (TR.l (r := AV.str e3) rfl rfl (LOp.load1 agg9 rfl rfl) <|
            (TR.l (r := AV.b true) rfl rfl (LOp.eqb (LOp.neqs rfl rfl rfl) hc5) <|
            TR.nil))))))))) rfl (by kernel_rfl) rfl fills_nil rfl ?_
          iterate 9 refine ROps.dropS ?_
          refine ROps.drop0 ?_
          refine ROps.nil ?_
          refine RunC.cond_true rfl rfl ?_
          refine RunC.seq ?_
          refine RunC.regionW ?_
          refine ROps.l (r := AV.b false) rfl rfl rfl (LOp.assign rfl rfl) ?_
          refine ROps.nil ?_
          refine RunC.ret ?_
          cases Option.some.inj h2_
          have hx3_ := hr2 _ rfl
          subst hx3_
          have hq := Option.some.inj h
          subst q0
          exact bodyQ.pure (.inr rfl) rfl (Res.one rfl (RV.tmp rfl))
        · refine RunC.region_draw (Γ' := []) 9 mixed 
            (TR.l (r := AV.sl a0.length (a0.map AV.str)) rfl rfl (LOp.move rfl rfl) <|
            (TR.l (r := AV.i64 v1) rfl rfl (LOp.move rfl rfl) <|
            (TR.l (r := AV.ptr [AV.str e2]) rfl rfl (LOp.le (LOp.ix (f := AV.str) und35 siz9 rfl rfl rfl rfl he3) ALe.ptr) <|
            (TR.l (r := AV.str e2) rfl rfl (LOp.load1 agg9 rfl rfl) <|
            (TR.l (r := AV.sl a1.length (a1.map AV.str)) rfl rfl (LOp.move rfl rfl) <|
            (TR.l (r := AV.i64 v1) rfl rfl (LOp.move rfl rfl) <|
            (TR.l (r := AV.ptr [AV.str e3]) rfl rfl (LOp.le (LOp.ix (f := AV.str) und35 siz9 rfl rfl rfl rfl he4) ALe.ptr) <|
            (TR.l (r := AV.str e3) rfl rfl (LOp.load1 agg9 rfl rfl) <|
            (TR.l (r := AV.b false) rfl rfl (LOp.eqb (LOp.neqs rfl rfl rfl) hc5) <|
            TR.nil))))))))) rfl (by kernel_rfl) rfl fills_nil rfl ?_
          iterate 9 refine ROps.dropS ?_
          refine ROps.drop0 ?_
          refine ROps.nil ?_
          refine RunC.cond_false rfl rfl ?_
          refine RunC.skip ?_
          refine RunC.wl (τ' := [(0, AV.sl a0.length (a0.map AV.str)), (1, AV.sl a1.length (a1.map AV.str)), (5, AV.i64 v1)]) (Γ' := []) ⟨(ALe.refl _), (ALe.refl _), (ALe.refl _), trivial⟩ trivial ?_
          obtain ⟨x4, hx6, h2_⟩ := olet_some h2_
          refine RunC.regionW ?_
          refine ROps.l (r := AV.i64 v1) rfl rfl rfl (LOp.move rfl rfl) ?_
          refine ROps.l (r := AV.i64 x4) rfl rfl rfl (LOp.eqr (LOp.add rfl rfl rfl) (congrArg (AV.ik .i64) hx6)) ?_
          refine ROps.l (r := AV.i64 x4) rfl rfl rfl (LOp.assign rfl rfl) ?_
          refine ROps.nil ?_
          cases Option.some.inj h2_
          exact ⟨_, rfl, ⟨(ALe.refl _), (ALe.refl _), (ALe.refl _), trivial⟩, trivial⟩
      · refine RunC.regionW ?_
        refine ROps.l (r := AV.i64 v1) rfl rfl rfl (LOp.move rfl rfl) ?_
        refine ROps.l (r := AV.sl a0.length (a0.map AV.str)) rfl rfl rfl (LOp.move rfl rfl) ?_
        refine ROps.l (r := AV.i64 (a0.length : Int)) rfl rfl rfl (LOp.len_sl und35 rfl rfl) ?_
        refine ROps.l (r := AV.b false) rfl rfl rfl (LOp.eqb (LOp.lss rfl rfl rfl) hc2) ?_
        refine ROps.nil ?_
        refine RunC.cond_false rfl rfl ?_
        refine RunC.exit ?_
        cases Option.some.inj h2_
        have hx := ho2 _ rfl
        exact ⟨trivial, trivial, hx⟩
    · rintro τ4 Γ4 ⟨hw4, hd4, rfl⟩
      refine RunC.wl (τ' := []) (Γ' := []) hw4 hd4 ?_
      replace h : w_eqStringS_k1 = some q0 := h
      unfold w_eqStringS_k1 at h
      refine RunC.seq ?_
      refine RunC.regionW ?_
      refine ROps.l (r := AV.b true) rfl rfl rfl (LOp.assign rfl rfl) ?_
      refine ROps.nil ?_
      refine RunC.ret ?_
      have hq := Option.some.inj h
      subst q0
      exact bodyQ.pure (.inr rfl) rfl (Res.one rfl (RV.tmp rfl))
noncomputable def w_markText_b1 (v2 : Int) (s3 : ByteArray) : Option (LR (Int × ByteArray) (ByteArray) (ByteArray)) :=
  bsel (decide (0 < v2)) (
    need (!decide (10 = 0)) <|
    olet (v2.tmod 10) fun (x4 : Int) =>
    olet (IntKind.i64.wrap (48 + x4)) fun (x5 : Int) =>
    olet (IntKind.u8.wrap x5) fun (x6 : Int) =>
    obind (cats? (strOfNums ([x6] : List Int)) s3) fun (t7 : ByteArray) =>
    need (!decide (10 = 0)) <|
    olet (IntKind.i64.wrap (v2.tdiv 10)) fun (x8 : Int) =>
    some (LR.next (x8, t7))) (
    some (LR.out s3))
noncomputable def w_markText_s1  : (Int × ByteArray) → Option (LR (Int × ByteArray) (ByteArray) (ByteArray)) := fun s => w_markText_b1 s.1 s.2
noncomputable def w_markText_k1 (s10 : ByteArray) : Option (ByteArray) :=
  obind (cats? lit_23c9ab83 s10) fun (t11 : ByteArray) =>
  some t11
noncomputable def w_markText (a0 : Int) : Option (ByteArray) :=
  bsel (decide (a0 ≤ 0)) (
    some lit_7f3dfdf2) (
    obind (loopM (w_markText_s1) (a0, lit_99ba06bc)) fun z => osum z (fun e => w_markText_k1 e) (fun r => some r))
theorem w_markText_ok (a0 : Int) (q0 : ByteArray) (h : w_markText a0 = some q0) : Ev Tryd.prog 54 [AV.i64 a0] [] (AV.str q0) [] := by
  refine Ev.start Tryd.func54 rfl rfl 1 (τ := [(0, AV.i64 a0)]) rfl (Γ' := [⟨0, none⟩]) rfl (n := 41) rfl (g := 0) rfl (fun _ => rfl) ?_
  unfold w_markText at h
  refine RunC.seq ?_
  refine RunC.regionW ?_
  refine ROps.l (r := AV.str lit_99ba06bc) rfl rfl rfl (LOp.assign rfl rfl) ?_
  refine ROps.nil ?_
  refine RunC.seq ?_
  refine RunC.seq ?_
  rcases bsel_some h with ⟨hc1, h⟩ | ⟨hc1, h⟩
  · refine RunC.regionW ?_
    refine ROps.l (r := AV.i64 a0) rfl rfl rfl (LOp.move rfl rfl) ?_
    refine ROps.l (r := AV.b true) rfl rfl rfl (LOp.eqb (LOp.leq rfl rfl rfl) hc1) ?_
    refine ROps.nil ?_
    refine RunC.cond_true rfl rfl ?_
    refine RunC.seq ?_
    refine RunC.regionW ?_
    refine ROps.l (r := AV.str lit_7f3dfdf2) rfl rfl rfl (LOp.assign rfl rfl) ?_
    refine ROps.nil ?_
    refine RunC.ret ?_
    have hq := Option.some.inj h
    subst q0
    exact bodyQ.pure (.inr rfl) rfl (Res.one rfl (RV.tmp rfl))
  · refine RunC.regionW ?_
    refine ROps.l (r := AV.i64 a0) rfl rfl rfl (LOp.move rfl rfl) ?_
    refine ROps.l (r := AV.b false) rfl rfl rfl (LOp.eqb (LOp.leq rfl rfl rfl) hc1) ?_
    refine ROps.nil ?_
    refine RunC.cond_false rfl rfl ?_
    refine RunC.skip ?_
    refine RunC.seq ?_
    refine RunC.regionW ?_
    refine ROps.l (r := AV.str lit_99ba06bc) rfl rfl rfl (LOp.assign rfl rfl) ?_
    refine ROps.nil ?_
    refine RunC.seq ?_
    obtain ⟨z2, hz_2, h⟩ := obind_some h
    refine RunC.cutN (fun τ Γ => ∃ (s10 : ByteArray) (u9 : Nat), WeakLe τ [(3, AV.str s10)] ∧ DeadLe Γ [⟨u9, none⟩] ∧ z2 = .inl s10) ?_ ?_
    · refine RunC.block (RunC.loop (RunL.loopM (x := z2) (w_markText_s1) (fun (s : Int × ByteArray) τ Γ => ∃ (u1 : Nat), WeakLe τ [(0, AV.i64 s.1), (3, AV.str s.2)] ∧ DeadLe Γ [⟨u1, none⟩]) ?_ _ _ _ hz_2 ⟨0, ⟨(ALe.refl _), (ALe.refl _), trivial⟩, ⟨⟨rfl, .inl rfl⟩, trivial⟩⟩))
      rintro ⟨v2, s3⟩ τ2 Γ2 y2_ ⟨u1, hw2, hd2⟩ h2_ ho2 hr2
      refine RunC.wl (τ' := [(0, AV.i64 v2), (3, AV.str s3)]) (Γ' := [⟨u1, none⟩]) hw2 hd2 ?_
      replace h2_ : w_markText_b1 v2 s3 = some y2_ := h2_
      unfold w_markText_b1 at h2_
      refine RunC.seq ?_
      refine RunC.seq ?_
      rcases bsel_some h2_ with ⟨hc2, h2_⟩ | ⟨hc2, h2_⟩
      · refine RunC.regionW ?_
        refine ROps.l (r := AV.i64 v2) rfl rfl rfl (LOp.move rfl rfl) ?_
        refine ROps.l (r := AV.b true) rfl rfl rfl (LOp.eqb (LOp.gtr rfl rfl rfl) hc2) ?_
        refine ROps.nil ?_
        refine RunC.cond_true rfl rfl ?_
        refine RunC.skip ?_
        refine RunC.block ?_
        refine RunC.seq ?_
        obtain ⟨hz3, h2_⟩ := need_some h2_
        obtain ⟨x4, hx4, h2_⟩ := olet_some h2_
        obtain ⟨x5, hx5, h2_⟩ := olet_some h2_
        obtain ⟨x6, hx6, h2_⟩ := olet_some h2_
        obtain ⟨t7, hs7, h2_⟩ := obind_some h2_
        refine RunC.regionW ?_
        refine ROps.l (r := AV.i64 v2) rfl rfl rfl (LOp.move rfl rfl) ?_
        refine ROps.l (r := AV.i64 x4) rfl rfl rfl (LOp.eqr (LOp.rem rfl rfl rfl (nz hz3)) (congrArg (AV.ik .i64) hx4)) ?_
        refine ROps.l (r := AV.i64 x5) rfl rfl rfl (LOp.eqr (LOp.add rfl rfl rfl) (congrArg (AV.ik .i64) hx5)) ?_
        refine ROps.l (r := AV.ik .u8 x6) rfl rfl rfl (LOp.eqr (LOp.i2i (src := 3) (dst := 5) ⟨_, pun3⟩ pun5 rfl rfl) (congrArg (AV.ik .u8) hx6)) ?_
        refine ROps.d (r := AV.oref 0 (u1 + 1) 0 1) (fs := [(0, (([x6] : List Int).map (AV.ik .u8)))]) (Γ' := [⟨(u1 + 1), some (([x6] : List Int).map (AV.ik .u8))⟩]) rfl rfl rfl (TOp.buildSlice_o (g := ⟨u1, none⟩) (za := AV.ik .u8 0) (qs := [(0, [AV.ik .u8 x6])]) 0 rfl und75 siz5 zer5 rfl zel5 rfl rfl ⟨rfl, ⟨_, ALe.refl _, rfl⟩, trivial⟩ rfl) rfl ?_
        refine ROps.d (r := AV.str (strOfNums ([x6] : List Int))) (fs := []) (Γ' := [⟨(u1 + 1), some (([x6] : List Int).map (AV.ik .u8))⟩]) rfl rfl rfl (TOp.b2s (xs := ([x6] : List Int)) pun75 pun5 pun9 rfl (fun _ hL => ReadAs.own (hL.2 _ _ _ rfl) (by simp))) rfl ?_
        refine ROps.l (r := AV.str s3) rfl rfl rfl (LOp.move rfl rfl) ?_
        refine ROps.l (r := AV.str t7) rfl rfl rfl (LOp.cats rfl rfl rfl hs7) ?_
        refine ROps.l (r := AV.str t7) rfl rfl rfl (LOp.assign rfl rfl) ?_
        refine ROps.nil ?_
        refine RunC.wl (τ' := [(0, AV.i64 v2), (3, AV.str t7)]) (Γ' := [⟨(u1 + 1), none⟩]) ⟨(ALe.refl _), (ALe.refl _), trivial⟩ ⟨⟨rfl, .inl rfl⟩, trivial⟩ ?_
        obtain ⟨hz8, h2_⟩ := need_some h2_
        obtain ⟨x8, hx9, h2_⟩ := olet_some h2_
        refine RunC.regionW ?_
        refine ROps.l (r := AV.i64 v2) rfl rfl rfl (LOp.move rfl rfl) ?_
        refine ROps.l (r := AV.i64 x8) rfl rfl rfl (LOp.eqr (LOp.quo rfl rfl rfl (nz hz8)) (congrArg (AV.ik .i64) hx9)) ?_
        refine ROps.l (r := AV.i64 x8) rfl rfl rfl (LOp.assign rfl rfl) ?_
        refine ROps.nil ?_
        cases Option.some.inj h2_
        exact ⟨_, rfl, (u1 + 1), ⟨(ALe.refl _), (ALe.refl _), trivial⟩, ⟨⟨rfl, .inl rfl⟩, trivial⟩⟩
      · refine RunC.regionW ?_
        refine ROps.l (r := AV.i64 v2) rfl rfl rfl (LOp.move rfl rfl) ?_
        refine ROps.l (r := AV.b false) rfl rfl rfl (LOp.eqb (LOp.gtr rfl rfl rfl) hc2) ?_
        refine ROps.nil ?_
        refine RunC.cond_false rfl rfl ?_
        refine RunC.exit ?_
        cases Option.some.inj h2_
        have hx := ho2 _ rfl
        exact ⟨s3, u1, ⟨(ALe.refl _), trivial⟩, ⟨⟨rfl, .inl rfl⟩, trivial⟩, hx⟩
    · rintro τ3 Γ3 ⟨s10, u9, hw3, hd3, rfl⟩
      refine RunC.wl (τ' := [(3, AV.str s10)]) (Γ' := [⟨u9, none⟩]) hw3 hd3 ?_
      replace h : w_markText_k1 s10 = some q0 := h
      unfold w_markText_k1 at h
      refine RunC.seq ?_
      obtain ⟨t11, hs10, h⟩ := obind_some h
      refine RunC.regionW ?_
      refine ROps.l (r := AV.str s10) rfl rfl rfl (LOp.move rfl rfl) ?_
      refine ROps.l (r := AV.str t11) rfl rfl rfl (LOp.cats rfl rfl rfl hs10) ?_
      refine ROps.l (r := AV.str t11) rfl rfl rfl (LOp.assign rfl rfl) ?_
      refine ROps.nil ?_
      refine RunC.ret ?_
      have hq := Option.some.inj h
      subst q0
      exact bodyQ.pure (.inr rfl) rfl (Res.one rfl (RV.tmp rfl))
noncomputable def w_markStringS_0o_b1 (a1 : List ByteArray) (L1 : List ByteArray) (v3 : Int) (v4 : Int) : Option (LR ((List ByteArray) × Int × Int) ((List ByteArray) × Int) (Int × (List ByteArray))) :=
  bsel (decide (v4 < ((a1.length : Nat) : Int))) (
    obind (w_markText v3) fun (r5 : ByteArray) =>
    obind (setAt? L1 v4 r5) fun (L6 : List ByteArray) =>
    olet (IntKind.i64.wrap (v3 + 1)) fun (x7 : Int) =>
    olet (IntKind.i64.wrap (v4 + 1)) fun (x8 : Int) =>
    some (LR.next (L6, x7, x8))) (
    some (LR.out (L1, v3)))
noncomputable def w_markStringS_0o_s1 (a1 : List ByteArray) : ((List ByteArray) × Int × Int) → Option (LR ((List ByteArray) × Int × Int) ((List ByteArray) × Int) (Int × (List ByteArray))) := fun s => w_markStringS_0o_b1 a1 s.1 s.2.1 s.2.2
noncomputable def w_markStringS_0o_k1 (L9 : List ByteArray) (v11 : Int) : Option (Int × (List ByteArray)) :=
  some (v11, L9)
noncomputable def w_markStringS_0o (a0 : Int) (a1 : List ByteArray) : Option (Int × (List ByteArray)) :=
  obind (loopM (w_markStringS_0o_s1 a1) (a1, a0, 0)) fun z => osum z (fun e => w_markStringS_0o_k1 e.1 e.2) (fun r => some r)
theorem w_markStringS_0o_ok (a0 : Int) (a1 : List ByteArray) (q0 : Int) (q1 : List ByteArray) (h : w_markStringS_0o a0 a1 = some (q0, q1)) : Ev Tryd.prog 23 [AV.oref 0 0 0 a1.length, AV.i64 a0] [⟨0, some (a1.map AV.str)⟩] (AV.i64 q0) [⟨0, some (q1.map AV.str)⟩] := by
  refine Ev.start Tryd.func23 rfl rfl 0 (τ := [(0, AV.oref 0 0 0 a1.length), (1, AV.i64 a0)]) rfl (Γ' := [⟨0, some (a1.map AV.str)⟩]) rfl (n := 40) rfl (g := 1) rfl (by decide) ?_
  unfold w_markStringS_0o at h
  refine RunC.seq ?_
  refine RunC.regionW ?_
  refine ROps.l (r := AV.i64 0) rfl rfl rfl (LOp.assign rfl rfl) ?_
  refine ROps.nil ?_
  refine RunC.seq ?_
  refine RunC.seq ?_
  refine RunC.regionW ?_
  refine ROps.l (r := AV.i64 0) rfl rfl rfl (LOp.assign rfl rfl) ?_
  refine ROps.nil ?_
  obtain ⟨z2, hz_2, h⟩ := obind_some h
  refine RunC.cutN (fun τ Γ => ∃ (L9 : List ByteArray) (v11 : Int), L9.length = a1.length ∧ WeakLe τ [(1, AV.i64 v11)] ∧ DeadLe Γ [⟨0, some (L9.map AV.str)⟩] ∧ z2 = .inl (L9, v11)) ?_ ?_
  · refine RunC.block (RunC.loop (RunL.loopM (x := z2) (w_markStringS_0o_s1 a1) (fun (s : (List ByteArray) × Int × Int) τ Γ => s.1.length = a1.length ∧ WeakLe τ [(0, AV.oref 0 0 0 a1.length), (1, AV.i64 s.2.1), (5, AV.i64 s.2.2)] ∧ DeadLe Γ [⟨0, some (s.1.map AV.str)⟩]) ?_ _ _ _ hz_2 ⟨rfl, ⟨(ALe.refl _), (ALe.refl _), (ALe.refl _), trivial⟩, ⟨⟨rfl, .inr rfl⟩, trivial⟩⟩))
    rintro ⟨L1, v3, v4⟩ τ2 Γ2 y2_ ⟨hl2, hw2, hd2⟩ h2_ ho2 hr2
    refine RunC.wl (τ' := [(0, AV.oref 0 0 0 a1.length), (1, AV.i64 v3), (5, AV.i64 v4)]) (Γ' := [⟨0, some (L1.map AV.str)⟩]) hw2 hd2 ?_
    replace hl2 : L1.length = a1.length := hl2
    replace h2_ : w_markStringS_0o_b1 a1 L1 v3 v4 = some y2_ := h2_
    unfold w_markStringS_0o_b1 at h2_
    refine RunC.seq ?_
    refine RunC.seq ?_
    rcases bsel_some h2_ with ⟨hc1, h2_⟩ | ⟨hc1, h2_⟩
    · refine RunC.regionW ?_
      refine ROps.l (r := AV.i64 v4) rfl rfl rfl (LOp.move rfl rfl) ?_
      refine ROps.l (r := AV.oref 0 0 0 a1.length) rfl rfl rfl (LOp.move rfl rfl) ?_
      refine ROps.l (r := AV.i64 ((a1.length : Nat) : Int)) rfl rfl rfl (LOp.len_oref und35 rfl rfl) ?_
      refine ROps.l (r := AV.b true) rfl rfl rfl (LOp.eqb (LOp.lss rfl rfl rfl) hc1) ?_
      refine ROps.nil ?_
      refine RunC.cond_true rfl rfl ?_
      refine RunC.skip ?_
      refine RunC.seq ?_
      refine RunC.block ?_
      refine RunC.seq ?_
      obtain ⟨r5, hf2, h2_⟩ := obind_some h2_
      obtain ⟨L6, he3, h2_⟩ := obind_some h2_
      refine RunC.regionW ?_
      refine ROps.l (r := AV.oref 0 0 0 a1.length) rfl rfl rfl (LOp.move rfl rfl) ?_
      refine ROps.l (r := AV.i64 v4) rfl rfl rfl (LOp.move rfl rfl) ?_
      refine ROps.l (r := AV.i64 v3) rfl rfl rfl (LOp.move rfl rfl) ?_
      refine ROps.d (r := AV.str r5) (fs := []) (Γ' := [⟨0, some (L1.map AV.str)⟩]) rfl rfl rfl (TOp.callB (CallAs.func ent54 rfl rfl) (Bors.cons (Bor.pure rfl) Bors.nil) rfl rfl (w_markText_ok v3 r5 hf2)) rfl ?_
      refine ROps.d (r := AV.optr 0 0 v4.toNat) (fs := []) (Γ' := [⟨0, some (L1.map AV.str)⟩]) rfl rfl rfl (TOp.ixo und35 siz9 rfl rfl rfl (set_in he3 hl2) rfl) rfl ?_
      refine ROps.st (f := AV.str) (i := v4) (Γ' := [⟨0, some (L6.map AV.str)⟩]) rfl siz9 rfl rfl rfl (ALe.refl _) rfl rfl rfl he3 rfl ?_
      refine ROps.nil ?_
      obtain ⟨x7, hx4, h2_⟩ := olet_some h2_
      refine RunC.regionW ?_
      refine ROps.l (r := AV.i64 v3) rfl rfl rfl (LOp.move rfl rfl) ?_
      refine ROps.l (r := AV.i64 x7) rfl rfl rfl (LOp.eqr (LOp.add rfl rfl rfl) (congrArg (AV.ik .i64) hx4)) ?_
      refine ROps.l (r := AV.i64 x7) rfl rfl rfl (LOp.assign rfl rfl) ?_
      refine ROps.nil ?_
      obtain ⟨x8, hx5, h2_⟩ := olet_some h2_
      refine RunC.regionW ?_
      refine ROps.l (r := AV.i64 v4) rfl rfl rfl (LOp.move rfl rfl) ?_
      refine ROps.l (r := AV.i64 x8) rfl rfl rfl (LOp.eqr (LOp.add rfl rfl rfl) (congrArg (AV.ik .i64) hx5)) ?_
      refine ROps.l (r := AV.i64 x8) rfl rfl rfl (LOp.assign rfl rfl) ?_
      refine ROps.nil ?_
      cases Option.some.inj h2_
      exact ⟨_, rfl, ((setAt?_len he3).trans hl2), ⟨(ALe.refl _), (ALe.refl _), (ALe.refl _), trivial⟩, ⟨⟨rfl, .inr rfl⟩, trivial⟩⟩
    · refine RunC.regionW ?_
      refine ROps.l (r := AV.i64 v4) rfl rfl rfl (LOp.move rfl rfl) ?_
      refine ROps.l (r := AV.oref 0 0 0 a1.length) rfl rfl rfl (LOp.move rfl rfl) ?_
      refine ROps.l (r := AV.i64 ((a1.length : Nat) : Int)) rfl rfl rfl (LOp.len_oref und35 rfl rfl) ?_
      refine ROps.l (r := AV.b false) rfl rfl rfl (LOp.eqb (LOp.lss rfl rfl rfl) hc1) ?_
      refine ROps.nil ?_
      refine RunC.cond_false rfl rfl ?_
      refine RunC.exit ?_
      cases Option.some.inj h2_
      have hx := ho2 _ rfl
      exact ⟨L1, v3, hl2, ⟨(ALe.refl _), trivial⟩, ⟨⟨rfl, .inr rfl⟩, trivial⟩, hx⟩
  · rintro τ3 Γ3 ⟨L9, v11, hl10, hw3, hd3, rfl⟩
    refine RunC.wl (τ' := [(1, AV.i64 v11)]) (Γ' := [⟨0, some (L9.map AV.str)⟩]) hw3 hd3 ?_
    replace h : w_markStringS_0o_k1 L9 v11 = some (q0, q1) := h
    unfold w_markStringS_0o_k1 at h
    refine RunC.seq ?_
    refine RunC.regionW ?_
    refine ROps.l (r := AV.i64 v11) rfl rfl rfl (LOp.move rfl rfl) ?_
    refine ROps.l (r := AV.i64 v11) rfl rfl rfl (LOp.assign rfl rfl) ?_
    refine ROps.nil ?_
    refine RunC.ret ?_
    have hq := Option.some.inj h
    obtain ⟨hq0, hq⟩ := Prod.mk.inj hq
    subst q0
    subst q1
    exact bodyQ.mk (r' := AV.i64 v11) [(0, 0)] (.inr rfl) rfl (show List.Nodup [0] from by decide) rfl rfl (Res.one rfl (RV.tmp rfl)) (SelL.arr (f := AV.str) (fun _ => rfl) rfl trivial)
noncomputable def w_heldStringS_b1 (a0 : List ByteArray) (v1 : Int) (v2 : Int) : Option (LR (Int × Int) (Int) (Int)) :=
  bsel (decide (v2 < (a0.length : Int))) (
    obind (at? a0 v2) fun (e3 : ByteArray) =>
    obind (w_markText v1) fun (r4 : ByteArray) =>
    bsel (!eqs e3 r4) (
      some (LR.ret (-1))) (
      olet (IntKind.i64.wrap (v1 + 1)) fun (x5 : Int) =>
      olet (IntKind.i64.wrap (v2 + 1)) fun (x6 : Int) =>
      some (LR.next (x5, x6)))) (
    some (LR.out v1))
noncomputable def w_heldStringS_s1 (a0 : List ByteArray) : (Int × Int) → Option (LR (Int × Int) (Int) (Int)) := fun s => w_heldStringS_b1 a0 s.1 s.2
noncomputable def w_heldStringS_k1 (v7 : Int) : Option (Int) :=
  some v7
noncomputable def w_heldStringS (a0 : List ByteArray) (a1 : Int) : Option (Int) :=
  obind (loopM (w_heldStringS_s1 a0) (a1, 0)) fun z => osum z (fun e => w_heldStringS_k1 e) (fun r => some r)
theorem w_heldStringS_ok (a0 : List ByteArray) (a1 : Int) (q0 : Int) (h : w_heldStringS a0 a1 = some q0) : Ev Tryd.prog 24 [AV.sl a0.length (a0.map AV.str), AV.i64 a1] [] (AV.i64 q0) [] := by
  refine Ev.start Tryd.func24 rfl rfl 0 (τ := [(0, AV.sl a0.length (a0.map AV.str)), (1, AV.i64 a1)]) rfl (Γ' := []) rfl (n := 45) rfl (g := 0) rfl (fun _ => rfl) ?_
  unfold w_heldStringS at h
  refine RunC.seq ?_
  refine RunC.regionW ?_
  refine ROps.l (r := AV.i64 0) rfl rfl rfl (LOp.assign rfl rfl) ?_
  refine ROps.nil ?_
  refine RunC.seq ?_
  refine RunC.seq ?_
  refine RunC.regionW ?_
  refine ROps.l (r := AV.i64 0) rfl rfl rfl (LOp.assign rfl rfl) ?_
  refine ROps.nil ?_
  obtain ⟨z2, hz_2, h⟩ := obind_some h
  refine RunC.cutN (fun τ Γ => ∃ (v7 : Int), WeakLe τ [(1, AV.i64 v7)] ∧ DeadLe Γ [] ∧ z2 = .inl v7) ?_ ?_
  · refine RunC.block (RunC.loop (RunL.loopM (x := z2) (w_heldStringS_s1 a0) (fun (s : Int × Int) τ Γ => WeakLe τ [(0, AV.sl a0.length (a0.map AV.str)), (1, AV.i64 s.1), (5, AV.i64 s.2)] ∧ DeadLe Γ []) ?_ _ _ _ hz_2 ⟨⟨(ALe.refl _), (ALe.refl _), (ALe.refl _), trivial⟩, trivial⟩))
    rintro ⟨v1, v2⟩ τ2 Γ2 y2_ ⟨hw2, hd2⟩ h2_ ho2 hr2
    refine RunC.wl (τ' := [(0, AV.sl a0.length (a0.map AV.str)), (1, AV.i64 v1), (5, AV.i64 v2)]) (Γ' := []) hw2 hd2 ?_
    replace h2_ : w_heldStringS_b1 a0 v1 v2 = some y2_ := h2_
    unfold w_heldStringS_b1 at h2_
    refine RunC.seq ?_
    refine RunC.seq ?_
    rcases bsel_some h2_ with ⟨hc1, h2_⟩ | ⟨hc1, h2_⟩
    · refine RunC.regionW ?_
      refine ROps.l (r := AV.i64 v2) rfl rfl rfl (LOp.move rfl rfl) ?_
      refine ROps.l (r := AV.sl a0.length (a0.map AV.str)) rfl rfl rfl (LOp.move rfl rfl) ?_
      refine ROps.l (r := AV.i64 (a0.length : Int)) rfl rfl rfl (LOp.len_sl und35 rfl rfl) ?_
      refine ROps.l (r := AV.b true) rfl rfl rfl (LOp.eqb (LOp.lss rfl rfl rfl) hc1) ?_
      refine ROps.nil ?_
      refine RunC.cond_true rfl rfl ?_
      refine RunC.skip ?_
      refine RunC.seq ?_
      refine RunC.block ?_
      refine RunC.seq ?_
      refine RunC.seq ?_
      obtain ⟨e3, he2, h2_⟩ := obind_some h2_
      obtain ⟨r4, hf3, h2_⟩ := obind_some h2_
      rcases bsel_some h2_ with ⟨hc4, h2_⟩ | ⟨hc4, h2_⟩
      · refine RunC.region_draw (Γ' := []) 7 mixed 
          (TR.l (r := AV.sl a0.length (a0.map AV.str)) rfl rfl (LOp.move rfl rfl) <|
          (TR.l (r := AV.i64 v2) rfl rfl (LOp.move rfl rfl) <|
          (TR.l (r := AV.ptr [AV.str e3]) rfl rfl (LOp.le (LOp.ix (f := AV.str) und35 siz9 rfl rfl rfl rfl he2) ALe.ptr) <|
          (TR.l (r := AV.str e3) rfl rfl (LOp.load1 agg9 rfl rfl) <|
          (TR.l (r := AV.i64 v1) rfl rfl (LOp.move rfl rfl) <|
          (TR.d (r := AV.str r4) (fs := []) rfl rfl (TOp.callB (CallAs.func ent54 rfl rfl) (Bors.cons (Bor.pure rfl) Bors.nil) rfl rfl (w_markText_ok v1 r4 hf3)) <|
          (TR.l (r := AV.b true) rfl rfl (LOp.eqb (LOp.neqs rfl rfl rfl) hc4) <|
          TR.nil))))))) rfl (by kernel_rfl) rfl fills_nil rfl ?_
        iterate 7 refine ROps.dropS ?_
        refine ROps.drop0 ?_
        refine ROps.nil ?_
        refine RunC.cond_true rfl rfl ?_
        refine RunC.seq ?_
        refine RunC.regionW ?_
        refine ROps.l (r := AV.i64 (-1)) rfl rfl rfl (LOp.assign rfl rfl) ?_
        refine ROps.nil ?_
        refine RunC.ret ?_
        cases Option.some.inj h2_
        have hx3_ := hr2 _ rfl
        subst hx3_
        have hq := Option.some.inj h
        subst q0
        exact bodyQ.pure (.inr rfl) rfl (Res.one rfl (RV.tmp rfl))
      · refine RunC.region_draw (Γ' := []) 7 mixed 
          (TR.l (r := AV.sl a0.length (a0.map AV.str)) rfl rfl (LOp.move rfl rfl) <|
          (TR.l (r := AV.i64 v2) rfl rfl (LOp.move rfl rfl) <|
          (TR.l (r := AV.ptr [AV.str e3]) rfl rfl (LOp.le (LOp.ix (f := AV.str) und35 siz9 rfl rfl rfl rfl he2) ALe.ptr) <|
          (TR.l (r := AV.str e3) rfl rfl (LOp.load1 agg9 rfl rfl) <|
          (TR.l (r := AV.i64 v1) rfl rfl (LOp.move rfl rfl) <|
          (TR.d (r := AV.str r4) (fs := []) rfl rfl (TOp.callB (CallAs.func ent54 rfl rfl) (Bors.cons (Bor.pure rfl) Bors.nil) rfl rfl (w_markText_ok v1 r4 hf3)) <|
          (TR.l (r := AV.b false) rfl rfl (LOp.eqb (LOp.neqs rfl rfl rfl) hc4) <|
          TR.nil))))))) rfl (by kernel_rfl) rfl fills_nil rfl ?_
        iterate 7 refine ROps.dropS ?_
        refine ROps.drop0 ?_
        refine ROps.nil ?_
        refine RunC.cond_false rfl rfl ?_
        refine RunC.skip ?_
        obtain ⟨x5, hx5, h2_⟩ := olet_some h2_
        refine RunC.regionW ?_
        refine ROps.l (r := AV.i64 v1) rfl rfl rfl (LOp.move rfl rfl) ?_
        refine ROps.l (r := AV.i64 x5) rfl rfl rfl (LOp.eqr (LOp.add rfl rfl rfl) (congrArg (AV.ik .i64) hx5)) ?_
        refine ROps.l (r := AV.i64 x5) rfl rfl rfl (LOp.assign rfl rfl) ?_
        refine ROps.nil ?_
        refine RunC.wl (τ' := [(0, AV.sl a0.length (a0.map AV.str)), (1, AV.i64 x5), (5, AV.i64 v2)]) (Γ' := []) ⟨(ALe.refl _), (ALe.refl _), (ALe.refl _), trivial⟩ trivial ?_
        obtain ⟨x6, hx6, h2_⟩ := olet_some h2_
        refine RunC.regionW ?_
        refine ROps.l (r := AV.i64 v2) rfl rfl rfl (LOp.move rfl rfl) ?_
        refine ROps.l (r := AV.i64 x6) rfl rfl rfl (LOp.eqr (LOp.add rfl rfl rfl) (congrArg (AV.ik .i64) hx6)) ?_
        refine ROps.l (r := AV.i64 x6) rfl rfl rfl (LOp.assign rfl rfl) ?_
        refine ROps.nil ?_
        cases Option.some.inj h2_
        exact ⟨_, rfl, ⟨(ALe.refl _), (ALe.refl _), (ALe.refl _), trivial⟩, trivial⟩
    · refine RunC.regionW ?_
      refine ROps.l (r := AV.i64 v2) rfl rfl rfl (LOp.move rfl rfl) ?_
      refine ROps.l (r := AV.sl a0.length (a0.map AV.str)) rfl rfl rfl (LOp.move rfl rfl) ?_
      refine ROps.l (r := AV.i64 (a0.length : Int)) rfl rfl rfl (LOp.len_sl und35 rfl rfl) ?_
      refine ROps.l (r := AV.b false) rfl rfl rfl (LOp.eqb (LOp.lss rfl rfl rfl) hc1) ?_
      refine ROps.nil ?_
      refine RunC.cond_false rfl rfl ?_
      refine RunC.exit ?_
      cases Option.some.inj h2_
      have hx := ho2 _ rfl
      exact ⟨v1, ⟨(ALe.refl _), trivial⟩, trivial, hx⟩
  · rintro τ4 Γ4 ⟨v7, hw4, hd4, rfl⟩
    refine RunC.wl (τ' := [(1, AV.i64 v7)]) (Γ' := []) hw4 hd4 ?_
    replace h : w_heldStringS_k1 v7 = some q0 := h
    unfold w_heldStringS_k1 at h
    refine RunC.seq ?_
    refine RunC.regionW ?_
    refine ROps.l (r := AV.i64 v7) rfl rfl rfl (LOp.move rfl rfl) ?_
    refine ROps.l (r := AV.i64 v7) rfl rfl rfl (LOp.assign rfl rfl) ?_
    refine ROps.nil ?_
    refine RunC.ret ?_
    have hq := Option.some.inj h
    subst q0
    exact bodyQ.pure (.inr rfl) rfl (Res.one rfl (RV.tmp rfl))
noncomputable def w_FnExactRecoverJournal (a0 : ByteArray) : Option (Bool) :=
  bsel (decide (1048576 < (a0.size : Int))) (
    some true) (
    obind3 (s_RecoverJournal a0) fun (r1 : Int) (r2 : Bool) (r3 : List ByteArray) =>
    obind3 (i_RecoverJournal a0) fun (r4 : Int) (r5 : Bool) (r6 : List ByteArray) =>
    obind (w_eqStringS r6 r3) fun (r7 : Bool) =>
    bsel r7 (
      bsel (!decide (r4 = r1)) (
        some false) (
        bsel (!(r5 == r2)) (
          some false) (
          obind2 (w_markStringS_0o 1 r6) fun (r8 : Int) (r9 : List ByteArray) =>
          need (decide (r9.length = r6.length)) <|
          obind (w_heldStringS r9 1) fun (r10 : Int) =>
          bsel (decide (r10 < 0)) (
            some false) (
            bsel (!decide (r10 = r8)) (
              some false) (
              obind3 (i_RecoverJournal a0) fun (r11 : Int) (r12 : Bool) (r13 : List ByteArray) =>
              obind (w_eqStringS r13 r3) fun (r14 : Bool) =>
              bsel r14 (
                bsel (!decide (r11 = r1)) (
                  some false) (
                  bsel (!(r12 == r2)) (
                    some false) (
                    obind (w_heldStringS r9 1) fun (r15 : Int) =>
                    bsel (decide (r15 < 0)) (
                      some false) (
                      bsel (!decide (r15 = r8)) (
                        some false) (
                        some true))))) (
                some false)))))) (
      some false))
theorem w_FnExactRecoverJournal_ok (a0 : ByteArray) (q0 : Bool) (h : w_FnExactRecoverJournal a0 = some q0) : Ev Tryd.prog 6 [AV.str a0] [] (AV.b q0) [] := by
  refine Ev.start Tryd.func6 rfl rfl 3 (τ := [(0, AV.str a0)]) rfl (Γ' := [⟨0, none⟩, ⟨0, none⟩, ⟨0, none⟩]) rfl (n := 165) rfl (g := 0) rfl (fun _ => rfl) ?_
  unfold w_FnExactRecoverJournal at h
  refine RunC.seq ?_
  refine RunC.regionW ?_
  refine ROps.l (r := AV.b false) rfl rfl rfl (LOp.assign rfl rfl) ?_
  refine ROps.nil ?_
  refine RunC.seq ?_
  refine RunC.seq ?_
  rcases bsel_some h with ⟨hc1, h⟩ | ⟨hc1, h⟩
  · refine RunC.regionW ?_
    refine ROps.l (r := AV.str a0) rfl rfl rfl (LOp.move rfl rfl) ?_
    refine ROps.l (r := AV.i64 (a0.size : Int)) rfl rfl rfl (LOp.len_str und9 rfl rfl) ?_
    refine ROps.l (r := AV.b true) rfl rfl rfl (LOp.eqb (LOp.gtr rfl rfl rfl) hc1) ?_
    refine ROps.nil ?_
    refine RunC.cond_true rfl rfl ?_
    refine RunC.seq ?_
    refine RunC.regionW ?_
    refine ROps.l (r := AV.b true) rfl rfl rfl (LOp.assign rfl rfl) ?_
    refine ROps.nil ?_
    refine RunC.ret ?_
    have hq := Option.some.inj h
    subst q0
    exact bodyQ.pure (.inr rfl) rfl (Res.one rfl (RV.tmp rfl))
  · refine RunC.regionW ?_
    refine ROps.l (r := AV.str a0) rfl rfl rfl (LOp.move rfl rfl) ?_
    refine ROps.l (r := AV.i64 (a0.size : Int)) rfl rfl rfl (LOp.len_str und9 rfl rfl) ?_
    refine ROps.l (r := AV.b false) rfl rfl rfl (LOp.eqb (LOp.gtr rfl rfl rfl) hc1) ?_
    refine ROps.nil ?_
    refine RunC.cond_false rfl rfl ?_
    refine RunC.skip ?_
    refine RunC.seq ?_
    obtain ⟨r1, r2, r3, hf2, h⟩ := obind3_some h
    refine RunC.regionW ?_
    refine ROps.l (r := AV.str a0) rfl rfl rfl (LOp.move rfl rfl) ?_
    refine ROps.d (r := AV.tup [AV.oref 0 1 0 r3.length, AV.i64 r1, AV.b r2]) (fs := [(0, (r3.map AV.str))]) (Γ' := [⟨1, some (r3.map AV.str)⟩, ⟨0, none⟩, ⟨0, none⟩]) rfl rfl rfl (TOp.callBN (ls := [(r3.map AV.str)]) [0] (CallAs.func ent21 rfl rfl) (Bors.cons (Bor.pure rfl) Bors.nil) rfl (s_RecoverJournal_ok a0 r1 r2 r3 hf2) (and_all (lts0_map (f := AV.str) (fun _ => rfl) _) rfl) (and_all (noss_map (f := AV.str) (fun _ => rfl) _) rfl) rfl (by decide) (ns_of ⟨⟨_, rfl⟩, trivial⟩)) rfl ?_
    refine ROps.l (r := AV.tup [AV.oref 0 1 0 r3.length, AV.i64 r1, AV.b r2]) rfl rfl rfl (LOp.move rfl rfl) ?_
    refine ROps.l (r := AV.oref 0 1 0 r3.length) rfl rfl rfl (LOp.extract rfl rfl rfl) ?_
    refine ROps.l (r := AV.i64 r1) rfl rfl rfl (LOp.extract rfl rfl rfl) ?_
    refine ROps.l (r := AV.b r2) rfl rfl rfl (LOp.extract rfl rfl rfl) ?_
    refine ROps.l (r := AV.oref 0 1 0 r3.length) rfl rfl rfl (LOp.assign rfl rfl) ?_
    refine ROps.l (r := AV.i64 r1) rfl rfl rfl (LOp.assign rfl rfl) ?_
    refine ROps.l (r := AV.b r2) rfl rfl rfl (LOp.assign rfl rfl) ?_
    refine ROps.nil ?_
    refine RunC.seq ?_
    obtain ⟨r4, r5, r6, hf3, h⟩ := obind3_some h
    refine RunC.regionW ?_
    refine ROps.l (r := AV.str a0) rfl rfl rfl (LOp.move rfl rfl) ?_
    refine ROps.d (r := AV.tup [AV.oref 1 1 0 r6.length, AV.i64 r4, AV.b r5]) (fs := [(1, (r6.map AV.str))]) (Γ' := [⟨1, some (r3.map AV.str)⟩, ⟨1, some (r6.map AV.str)⟩, ⟨0, none⟩]) rfl rfl rfl (TOp.callBN (ls := [(r6.map AV.str)]) [1] (CallAs.func ent22 rfl rfl) (Bors.cons (Bor.pure rfl) Bors.nil) rfl (i_RecoverJournal_ok a0 r4 r5 r6 hf3) (and_all (lts0_map (f := AV.str) (fun _ => rfl) _) rfl) (and_all (noss_map (f := AV.str) (fun _ => rfl) _) rfl) rfl (by decide) (ns_of ⟨⟨_, rfl⟩, trivial⟩)) rfl ?_
    refine ROps.l (r := AV.tup [AV.oref 1 1 0 r6.length, AV.i64 r4, AV.b r5]) rfl rfl rfl (LOp.move rfl rfl) ?_
    refine ROps.l (r := AV.oref 1 1 0 r6.length) rfl rfl rfl (LOp.extract rfl rfl rfl) ?_
    refine ROps.l (r := AV.i64 r4) rfl rfl rfl (LOp.extract rfl rfl rfl) ?_
    refine ROps.l (r := AV.b r5) rfl rfl rfl (LOp.extract rfl rfl rfl) ?_
    refine ROps.l (r := AV.oref 1 1 0 r6.length) rfl rfl rfl (LOp.assign rfl rfl) ?_
    refine ROps.l (r := AV.i64 r4) rfl rfl rfl (LOp.assign rfl rfl) ?_
    refine ROps.l (r := AV.b r5) rfl rfl rfl (LOp.assign rfl rfl) ?_
    refine ROps.nil ?_
    refine RunC.seq ?_
    refine RunC.seq ?_
    obtain ⟨r7, hf4, h⟩ := obind_some h
    rcases bsel_some h with ⟨hc5, h⟩ | ⟨hc5, h⟩
    · rcases bsel_some h with ⟨hc6, h⟩ | ⟨hc6, h⟩
      · refine RunC.regionW ?_
        refine ROps.l (r := AV.oref 1 1 0 r6.length) rfl rfl rfl (LOp.move rfl rfl) ?_
        refine ROps.l (r := AV.oref 0 1 0 r3.length) rfl rfl rfl (LOp.move rfl rfl) ?_
        refine ROps.d (r := AV.b true) (fs := []) (Γ' := [⟨1, some (r3.map AV.str)⟩, ⟨1, some (r6.map AV.str)⟩, ⟨0, none⟩]) rfl rfl rfl (TOp.eqb (TOp.callB (CallAs.func ent20 rfl rfl) (Bors.cons (Bor.own (f := AV.str) (fun _ => rfl) rfl rfl) (Bors.cons (Bor.own (f := AV.str) (fun _ => rfl) rfl rfl) Bors.nil)) rfl rfl (w_eqStringS_ok r6 r3 r7 hf4)) hc5) rfl ?_
        refine ROps.l (r := AV.b false) rfl rfl rfl (LOp.eqb (LOp.not rfl rfl) rfl) ?_
        refine ROps.l (r := AV.b false) rfl rfl rfl (LOp.move rfl rfl) ?_
        refine ROps.l (r := AV.i64 r4) rfl rfl rfl (LOp.move rfl rfl) ?_
        refine ROps.l (r := AV.i64 r1) rfl rfl rfl (LOp.move rfl rfl) ?_
        refine ROps.l (r := AV.b true) rfl rfl rfl (LOp.eqb (LOp.neq rfl rfl rfl) hc6) ?_
        refine ROps.l (r := AV.b true) rfl rfl rfl (LOp.pick_false rfl rfl rfl) ?_
        refine ROps.l (r := AV.b true) rfl rfl rfl (LOp.move rfl rfl) ?_
        refine ROps.s rfl rfl rfl ?_
        refine ROps.s rfl rfl rfl ?_
        refine ROps.s rfl rfl rfl ?_
        refine ROps.l (r := AV.b true) rfl rfl rfl (LOp.pick_true rfl rfl rfl) ?_
        refine ROps.nil ?_
        refine RunC.wl (τ' := [(0, AV.str a0), (3, AV.oref 0 1 0 r3.length), (4, AV.i64 r1), (5, AV.b r2), (6, AV.oref 1 1 0 r6.length), (42, AV.b true)]) (Γ' := [⟨1, some (r3.map AV.str)⟩, ⟨1, some (r6.map AV.str)⟩, ⟨0, none⟩]) ⟨(ALe.refl _), (ALe.refl _), (ALe.refl _), (ALe.refl _), (ALe.refl _), (ALe.refl _), trivial⟩ ⟨⟨rfl, .inr rfl⟩, ⟨rfl, .inr rfl⟩, ⟨rfl, .inr rfl⟩, trivial⟩ ?_
        refine RunC.cond_true rfl rfl ?_
        refine RunC.seq ?_
        refine RunC.regionW ?_
        refine ROps.l (r := AV.b false) rfl rfl rfl (LOp.assign rfl rfl) ?_
        refine ROps.nil ?_
        refine RunC.ret ?_
        have hq := Option.some.inj h
        subst q0
        exact bodyQ.pure (.inr rfl) rfl (Res.one rfl (RV.tmp rfl))
      · rcases bsel_some h with ⟨hc7, h⟩ | ⟨hc7, h⟩
        · refine RunC.regionW ?_
          refine ROps.l (r := AV.oref 1 1 0 r6.length) rfl rfl rfl (LOp.move rfl rfl) ?_
          refine ROps.l (r := AV.oref 0 1 0 r3.length) rfl rfl rfl (LOp.move rfl rfl) ?_
          refine ROps.d (r := AV.b true) (fs := []) (Γ' := [⟨1, some (r3.map AV.str)⟩, ⟨1, some (r6.map AV.str)⟩, ⟨0, none⟩]) rfl rfl rfl (TOp.eqb (TOp.callB (CallAs.func ent20 rfl rfl) (Bors.cons (Bor.own (f := AV.str) (fun _ => rfl) rfl rfl) (Bors.cons (Bor.own (f := AV.str) (fun _ => rfl) rfl rfl) Bors.nil)) rfl rfl (w_eqStringS_ok r6 r3 r7 hf4)) hc5) rfl ?_
          refine ROps.l (r := AV.b false) rfl rfl rfl (LOp.eqb (LOp.not rfl rfl) rfl) ?_
          refine ROps.l (r := AV.b false) rfl rfl rfl (LOp.move rfl rfl) ?_
          refine ROps.l (r := AV.i64 r4) rfl rfl rfl (LOp.move rfl rfl) ?_
          refine ROps.l (r := AV.i64 r1) rfl rfl rfl (LOp.move rfl rfl) ?_
          refine ROps.l (r := AV.b false) rfl rfl rfl (LOp.eqb (LOp.neq rfl rfl rfl) hc6) ?_
          refine ROps.l (r := AV.b false) rfl rfl rfl (LOp.pick_false rfl rfl rfl) ?_
          refine ROps.l (r := AV.b false) rfl rfl rfl (LOp.move rfl rfl) ?_
          refine ROps.l (r := AV.b r5) rfl rfl rfl (LOp.move rfl rfl) ?_
          refine ROps.l (r := AV.b r2) rfl rfl rfl (LOp.move rfl rfl) ?_
          refine ROps.l (r := AV.b true) rfl rfl rfl (LOp.eqb (LOp.neqb pun4 rfl rfl rfl) hc7) ?_
          refine ROps.l (r := AV.b true) rfl rfl rfl (LOp.pick_false rfl rfl rfl) ?_
          refine ROps.nil ?_
          refine RunC.wl (τ' := [(0, AV.str a0), (3, AV.oref 0 1 0 r3.length), (4, AV.i64 r1), (5, AV.b r2), (6, AV.oref 1 1 0 r6.length), (42, AV.b true)]) (Γ' := [⟨1, some (r3.map AV.str)⟩, ⟨1, some (r6.map AV.str)⟩, ⟨0, none⟩]) ⟨(ALe.refl _), (ALe.refl _), (ALe.refl _), (ALe.refl _), (ALe.refl _), (ALe.refl _), trivial⟩ ⟨⟨rfl, .inr rfl⟩, ⟨rfl, .inr rfl⟩, ⟨rfl, .inr rfl⟩, trivial⟩ ?_
          refine RunC.cond_true rfl rfl ?_
          refine RunC.seq ?_
          refine RunC.regionW ?_
          refine ROps.l (r := AV.b false) rfl rfl rfl (LOp.assign rfl rfl) ?_
          refine ROps.nil ?_
          refine RunC.ret ?_
          have hq := Option.some.inj h
          subst q0
          exact bodyQ.pure (.inr rfl) rfl (Res.one rfl (RV.tmp rfl))
        · refine RunC.regionW ?_
          refine ROps.l (r := AV.oref 1 1 0 r6.length) rfl rfl rfl (LOp.move rfl rfl) ?_
          refine ROps.l (r := AV.oref 0 1 0 r3.length) rfl rfl rfl (LOp.move rfl rfl) ?_
          refine ROps.d (r := AV.b true) (fs := []) (Γ' := [⟨1, some (r3.map AV.str)⟩, ⟨1, some (r6.map AV.str)⟩, ⟨0, none⟩]) rfl rfl rfl (TOp.eqb (TOp.callB (CallAs.func ent20 rfl rfl) (Bors.cons (Bor.own (f := AV.str) (fun _ => rfl) rfl rfl) (Bors.cons (Bor.own (f := AV.str) (fun _ => rfl) rfl rfl) Bors.nil)) rfl rfl (w_eqStringS_ok r6 r3 r7 hf4)) hc5) rfl ?_
          refine ROps.l (r := AV.b false) rfl rfl rfl (LOp.eqb (LOp.not rfl rfl) rfl) ?_
          refine ROps.l (r := AV.b false) rfl rfl rfl (LOp.move rfl rfl) ?_
          refine ROps.l (r := AV.i64 r4) rfl rfl rfl (LOp.move rfl rfl) ?_
          refine ROps.l (r := AV.i64 r1) rfl rfl rfl (LOp.move rfl rfl) ?_
          refine ROps.l (r := AV.b false) rfl rfl rfl (LOp.eqb (LOp.neq rfl rfl rfl) hc6) ?_
          refine ROps.l (r := AV.b false) rfl rfl rfl (LOp.pick_false rfl rfl rfl) ?_
          refine ROps.l (r := AV.b false) rfl rfl rfl (LOp.move rfl rfl) ?_
          refine ROps.l (r := AV.b r5) rfl rfl rfl (LOp.move rfl rfl) ?_
          refine ROps.l (r := AV.b r2) rfl rfl rfl (LOp.move rfl rfl) ?_
          refine ROps.l (r := AV.b false) rfl rfl rfl (LOp.eqb (LOp.neqb pun4 rfl rfl rfl) hc7) ?_
          refine ROps.l (r := AV.b false) rfl rfl rfl (LOp.pick_false rfl rfl rfl) ?_
          refine ROps.nil ?_
          refine RunC.wl (τ' := [(0, AV.str a0), (3, AV.oref 0 1 0 r3.length), (4, AV.i64 r1), (5, AV.b r2), (6, AV.oref 1 1 0 r6.length), (42, AV.b false)]) (Γ' := [⟨1, some (r3.map AV.str)⟩, ⟨1, some (r6.map AV.str)⟩, ⟨0, none⟩]) ⟨(ALe.refl _), (ALe.refl _), (ALe.refl _), (ALe.refl _), (ALe.refl _), (ALe.refl _), trivial⟩ ⟨⟨rfl, .inr rfl⟩, ⟨rfl, .inr rfl⟩, ⟨rfl, .inr rfl⟩, trivial⟩ ?_
          refine RunC.cond_false rfl rfl ?_
          refine RunC.skip ?_
          refine RunC.seq ?_
          refine RunC.regionW ?_
          refine ROps.l (r := AV.i64 1) rfl rfl rfl (LOp.assign rfl rfl) ?_
          refine ROps.nil ?_
          refine RunC.seq ?_
          obtain ⟨r8, r9, hf8, h⟩ := obind2_some h
          obtain ⟨hn9, h⟩ := need_some h
          refine RunC.regionW ?_
          refine ROps.l (r := AV.oref 1 1 0 r6.length) rfl rfl rfl (LOp.move rfl rfl) ?_
          refine ROps.l (r := AV.i64 1) rfl rfl rfl (LOp.move rfl rfl) ?_
          refine ROps.callO (A := [AV.oref 1 1 0 r6.length, AV.i64 1]) (args := [AV.oref 0 0 0 r6.length, AV.i64 1]) (Γc := [⟨0, some (r6.map AV.str)⟩]) (Γc' := [⟨0, some (r9.map AV.str)⟩]) (r' := AV.i64 r8) (Γ' := [⟨1, some (r3.map AV.str)⟩, ⟨1, some (r9.map AV.str)⟩, ⟨0, none⟩]) [(1, 1)] [] rfl (CallAs.func ent23 rfl rfl) rfl rfl (SelOk.of (show List.Nodup [1] from by decide) (SelL.arr0 (f := AV.str) (fun _ => rfl) rfl trivial)) (live_of ⟨⟨_, _, rfl⟩, trivial⟩) (by simp [AV.ren, AV.rens, sigma, rens_f32, rens_f64, rens_i64, rens_ik, rens_str, rens_cp]) rfl (w_markStringS_0o_ok 1 r6 r8 r9 hf8) rfl (news_of trivial) (show List.Nodup [1] from by decide) (by simp [AV.ren, AV.rens, sigma, of_decide_eq_true hn9]) (by simp [backOb, sigma, AV.ren, AV.rens, rens_f32, rens_f64, rens_i64, rens_ik, rens_str, rens_cp]) ?_
          refine ROps.l (r := AV.i64 r8) rfl rfl rfl (LOp.assign rfl rfl) ?_
          refine ROps.nil ?_
          refine RunC.seq ?_
          refine RunC.regionW ?_
          refine ROps.l (r := AV.i64 1) rfl rfl rfl (LOp.assign rfl rfl) ?_
          refine ROps.nil ?_
          refine RunC.seq ?_
          obtain ⟨r10, hf10, h⟩ := obind_some h
          refine RunC.regionW ?_
          refine ROps.l (r := AV.oref 1 1 0 r6.length) rfl rfl rfl (LOp.move rfl rfl) ?_
          refine ROps.l (r := AV.i64 1) rfl rfl rfl (LOp.move rfl rfl) ?_
          refine ROps.d (r := AV.i64 r10) (fs := []) (Γ' := [⟨1, some (r3.map AV.str)⟩, ⟨1, some (r9.map AV.str)⟩, ⟨0, none⟩]) rfl rfl rfl (TOp.callB (CallAs.func ent24 rfl rfl) (Bors.cons (Bor.own (f := AV.str) (fun _ => rfl) rfl (of_decide_eq_true hn9)) (Bors.cons (Bor.pure rfl) Bors.nil)) rfl rfl (w_heldStringS_ok r9 1 r10 hf10)) rfl ?_
          refine ROps.l (r := AV.i64 r10) rfl rfl rfl (LOp.assign rfl rfl) ?_
          refine ROps.nil ?_
          refine RunC.seq ?_
          refine RunC.seq ?_
          rcases bsel_some h with ⟨hc11, h⟩ | ⟨hc11, h⟩
          · refine RunC.regionW ?_
            refine ROps.l (r := AV.i64 r10) rfl rfl rfl (LOp.move rfl rfl) ?_
            refine ROps.l (r := AV.b true) rfl rfl rfl (LOp.eqb (LOp.lss rfl rfl rfl) hc11) ?_
            refine ROps.nil ?_
            refine RunC.cond_true rfl rfl ?_
            refine RunC.seq ?_
            refine RunC.regionW ?_
            refine ROps.l (r := AV.b false) rfl rfl rfl (LOp.assign rfl rfl) ?_
            refine ROps.nil ?_
            refine RunC.ret ?_
            have hq := Option.some.inj h
            subst q0
            exact bodyQ.pure (.inr rfl) rfl (Res.one rfl (RV.tmp rfl))
          · refine RunC.regionW ?_
            refine ROps.l (r := AV.i64 r10) rfl rfl rfl (LOp.move rfl rfl) ?_
            refine ROps.l (r := AV.b false) rfl rfl rfl (LOp.eqb (LOp.lss rfl rfl rfl) hc11) ?_
            refine ROps.nil ?_
            refine RunC.cond_false rfl rfl ?_
            refine RunC.skip ?_
            refine RunC.seq ?_
            refine RunC.seq ?_
            rcases bsel_some h with ⟨hc12, h⟩ | ⟨hc12, h⟩
            · refine RunC.regionW ?_
              refine ROps.l (r := AV.i64 r10) rfl rfl rfl (LOp.move rfl rfl) ?_
              refine ROps.l (r := AV.i64 r8) rfl rfl rfl (LOp.move rfl rfl) ?_
              refine ROps.l (r := AV.b true) rfl rfl rfl (LOp.eqb (LOp.neq rfl rfl rfl) hc12) ?_
              refine ROps.nil ?_
              refine RunC.cond_true rfl rfl ?_
              refine RunC.seq ?_
              refine RunC.regionW ?_
              refine ROps.l (r := AV.b false) rfl rfl rfl (LOp.assign rfl rfl) ?_
              refine ROps.nil ?_
              refine RunC.ret ?_
              have hq := Option.some.inj h
              subst q0
              exact bodyQ.pure (.inr rfl) rfl (Res.one rfl (RV.tmp rfl))
            · refine RunC.regionW ?_
              refine ROps.l (r := AV.i64 r10) rfl rfl rfl (LOp.move rfl rfl) ?_
              refine ROps.l (r := AV.i64 r8) rfl rfl rfl (LOp.move rfl rfl) ?_
              refine ROps.l (r := AV.b false) rfl rfl rfl (LOp.eqb (LOp.neq rfl rfl rfl) hc12) ?_
              refine ROps.nil ?_
              refine RunC.cond_false rfl rfl ?_
              refine RunC.skip ?_
              refine RunC.seq ?_
              obtain ⟨r11, r12, r13, hf13, h⟩ := obind3_some h
              refine RunC.regionW ?_
              refine ROps.l (r := AV.str a0) rfl rfl rfl (LOp.move rfl rfl) ?_
              refine ROps.d (r := AV.tup [AV.oref 2 1 0 r13.length, AV.i64 r11, AV.b r12]) (fs := [(2, (r13.map AV.str))]) (Γ' := [⟨1, some (r3.map AV.str)⟩, ⟨1, some (r9.map AV.str)⟩, ⟨1, some (r13.map AV.str)⟩]) rfl rfl rfl (TOp.callBN (ls := [(r13.map AV.str)]) [2] (CallAs.func ent22 rfl rfl) (Bors.cons (Bor.pure rfl) Bors.nil) rfl (i_RecoverJournal_ok a0 r11 r12 r13 hf13) (and_all (lts0_map (f := AV.str) (fun _ => rfl) _) rfl) (and_all (noss_map (f := AV.str) (fun _ => rfl) _) rfl) rfl (by decide) (ns_of ⟨⟨_, rfl⟩, trivial⟩)) rfl ?_
              refine ROps.l (r := AV.tup [AV.oref 2 1 0 r13.length, AV.i64 r11, AV.b r12]) rfl rfl rfl (LOp.move rfl rfl) ?_
              refine ROps.l (r := AV.oref 2 1 0 r13.length) rfl rfl rfl (LOp.extract rfl rfl rfl) ?_
              refine ROps.l (r := AV.i64 r11) rfl rfl rfl (LOp.extract rfl rfl rfl) ?_
              refine ROps.l (r := AV.b r12) rfl rfl rfl (LOp.extract rfl rfl rfl) ?_
              refine ROps.l (r := AV.oref 2 1 0 r13.length) rfl rfl rfl (LOp.assign rfl rfl) ?_
              refine ROps.l (r := AV.i64 r11) rfl rfl rfl (LOp.assign rfl rfl) ?_
              refine ROps.l (r := AV.b r12) rfl rfl rfl (LOp.assign rfl rfl) ?_
              refine ROps.nil ?_
              refine RunC.wl (τ' := [(3, AV.oref 0 1 0 r3.length), (4, AV.i64 r1), (5, AV.b r2), (6, AV.oref 1 1 0 r6.length), (9, AV.i64 r8), (11, AV.oref 2 1 0 r13.length), (12, AV.i64 r11), (13, AV.b r12)]) (Γ' := [⟨1, some (r3.map AV.str)⟩, ⟨1, some (r9.map AV.str)⟩, ⟨1, some (r13.map AV.str)⟩]) ⟨(ALe.refl _), (ALe.refl _), (ALe.refl _), (ALe.refl _), (ALe.refl _), (ALe.refl _), (ALe.refl _), (ALe.refl _), trivial⟩ ⟨⟨rfl, .inr rfl⟩, ⟨rfl, .inr rfl⟩, ⟨rfl, .inr rfl⟩, trivial⟩ ?_
              refine RunC.seq ?_
              refine RunC.seq ?_
              obtain ⟨r14, hf14, h⟩ := obind_some h
              rcases bsel_some h with ⟨hc15, h⟩ | ⟨hc15, h⟩
              · rcases bsel_some h with ⟨hc16, h⟩ | ⟨hc16, h⟩
                · refine RunC.regionW ?_
                  refine ROps.l (r := AV.oref 2 1 0 r13.length) rfl rfl rfl (LOp.move rfl rfl) ?_
                  refine ROps.l (r := AV.oref 0 1 0 r3.length) rfl rfl rfl (LOp.move rfl rfl) ?_
                  refine ROps.d (r := AV.b true) (fs := []) (Γ' := [⟨1, some (r3.map AV.str)⟩, ⟨1, some (r9.map AV.str)⟩, ⟨1, some (r13.map AV.str)⟩]) rfl rfl rfl (TOp.eqb (TOp.callB (CallAs.func ent20 rfl rfl) (Bors.cons (Bor.own (f := AV.str) (fun _ => rfl) rfl rfl) (Bors.cons (Bor.own (f := AV.str) (fun _ => rfl) rfl rfl) Bors.nil)) rfl rfl (w_eqStringS_ok r13 r3 r14 hf14)) hc15) rfl ?_
                  refine ROps.l (r := AV.b false) rfl rfl rfl (LOp.eqb (LOp.not rfl rfl) rfl) ?_
                  refine ROps.l (r := AV.b false) rfl rfl rfl (LOp.move rfl rfl) ?_
                  refine ROps.l (r := AV.i64 r11) rfl rfl rfl (LOp.move rfl rfl) ?_
                  refine ROps.l (r := AV.i64 r1) rfl rfl rfl (LOp.move rfl rfl) ?_
                  refine ROps.l (r := AV.b true) rfl rfl rfl (LOp.eqb (LOp.neq rfl rfl rfl) hc16) ?_
                  refine ROps.l (r := AV.b true) rfl rfl rfl (LOp.pick_false rfl rfl rfl) ?_
                  refine ROps.l (r := AV.b true) rfl rfl rfl (LOp.move rfl rfl) ?_
                  refine ROps.s rfl rfl rfl ?_
                  refine ROps.s rfl rfl rfl ?_
                  refine ROps.s rfl rfl rfl ?_
                  refine ROps.l (r := AV.b true) rfl rfl rfl (LOp.pick_true rfl rfl rfl) ?_
                  refine ROps.nil ?_
                  refine RunC.wl (τ' := [(6, AV.oref 1 1 0 r6.length), (9, AV.i64 r8), (73, AV.b true)]) (Γ' := [⟨1, none⟩, ⟨1, some (r9.map AV.str)⟩, ⟨1, none⟩]) ⟨(ALe.refl _), (ALe.refl _), (ALe.refl _), trivial⟩ ⟨⟨rfl, .inl rfl⟩, ⟨rfl, .inr rfl⟩, ⟨rfl, .inl rfl⟩, trivial⟩ ?_
                  refine RunC.cond_true rfl rfl ?_
                  refine RunC.seq ?_
                  refine RunC.regionW ?_
                  refine ROps.l (r := AV.b false) rfl rfl rfl (LOp.assign rfl rfl) ?_
                  refine ROps.nil ?_
                  refine RunC.ret ?_
                  have hq := Option.some.inj h
                  subst q0
                  exact bodyQ.pure (.inr rfl) rfl (Res.one rfl (RV.tmp rfl))
                · rcases bsel_some h with ⟨hc17, h⟩ | ⟨hc17, h⟩
                  · refine RunC.regionW ?_
                    refine ROps.l (r := AV.oref 2 1 0 r13.length) rfl rfl rfl (LOp.move rfl rfl) ?_
                    refine ROps.l (r := AV.oref 0 1 0 r3.length) rfl rfl rfl (LOp.move rfl rfl) ?_
                    refine ROps.d (r := AV.b true) (fs := []) (Γ' := [⟨1, some (r3.map AV.str)⟩, ⟨1, some (r9.map AV.str)⟩, ⟨1, some (r13.map AV.str)⟩]) rfl rfl rfl (TOp.eqb (TOp.callB (CallAs.func ent20 rfl rfl) (Bors.cons (Bor.own (f := AV.str) (fun _ => rfl) rfl rfl) (Bors.cons (Bor.own (f := AV.str) (fun _ => rfl) rfl rfl) Bors.nil)) rfl rfl (w_eqStringS_ok r13 r3 r14 hf14)) hc15) rfl ?_
                    refine ROps.l (r := AV.b false) rfl rfl rfl (LOp.eqb (LOp.not rfl rfl) rfl) ?_
                    refine ROps.l (r := AV.b false) rfl rfl rfl (LOp.move rfl rfl) ?_
                    refine ROps.l (r := AV.i64 r11) rfl rfl rfl (LOp.move rfl rfl) ?_
                    refine ROps.l (r := AV.i64 r1) rfl rfl rfl (LOp.move rfl rfl) ?_
                    refine ROps.l (r := AV.b false) rfl rfl rfl (LOp.eqb (LOp.neq rfl rfl rfl) hc16) ?_
                    refine ROps.l (r := AV.b false) rfl rfl rfl (LOp.pick_false rfl rfl rfl) ?_
                    refine ROps.l (r := AV.b false) rfl rfl rfl (LOp.move rfl rfl) ?_
                    refine ROps.l (r := AV.b r12) rfl rfl rfl (LOp.move rfl rfl) ?_
                    refine ROps.l (r := AV.b r2) rfl rfl rfl (LOp.move rfl rfl) ?_
                    refine ROps.l (r := AV.b true) rfl rfl rfl (LOp.eqb (LOp.neqb pun4 rfl rfl rfl) hc17) ?_
                    refine ROps.l (r := AV.b true) rfl rfl rfl (LOp.pick_false rfl rfl rfl) ?_
                    refine ROps.nil ?_
                    refine RunC.wl (τ' := [(6, AV.oref 1 1 0 r6.length), (9, AV.i64 r8), (73, AV.b true)]) (Γ' := [⟨1, none⟩, ⟨1, some (r9.map AV.str)⟩, ⟨1, none⟩]) ⟨(ALe.refl _), (ALe.refl _), (ALe.refl _), trivial⟩ ⟨⟨rfl, .inl rfl⟩, ⟨rfl, .inr rfl⟩, ⟨rfl, .inl rfl⟩, trivial⟩ ?_
                    refine RunC.cond_true rfl rfl ?_
                    refine RunC.seq ?_
                    refine RunC.regionW ?_
                    refine ROps.l (r := AV.b false) rfl rfl rfl (LOp.assign rfl rfl) ?_
                    refine ROps.nil ?_
                    refine RunC.ret ?_
                    have hq := Option.some.inj h
                    subst q0
                    exact bodyQ.pure (.inr rfl) rfl (Res.one rfl (RV.tmp rfl))
                  · refine RunC.regionW ?_
                    refine ROps.l (r := AV.oref 2 1 0 r13.length) rfl rfl rfl (LOp.move rfl rfl) ?_
                    refine ROps.l (r := AV.oref 0 1 0 r3.length) rfl rfl rfl (LOp.move rfl rfl) ?_
                    refine ROps.d (r := AV.b true) (fs := []) (Γ' := [⟨1, some (r3.map AV.str)⟩, ⟨1, some (r9.map AV.str)⟩, ⟨1, some (r13.map AV.str)⟩]) rfl rfl rfl (TOp.eqb (TOp.callB (CallAs.func ent20 rfl rfl) (Bors.cons (Bor.own (f := AV.str) (fun _ => rfl) rfl rfl) (Bors.cons (Bor.own (f := AV.str) (fun _ => rfl) rfl rfl) Bors.nil)) rfl rfl (w_eqStringS_ok r13 r3 r14 hf14)) hc15) rfl ?_
                    refine ROps.l (r := AV.b false) rfl rfl rfl (LOp.eqb (LOp.not rfl rfl) rfl) ?_
                    refine ROps.l (r := AV.b false) rfl rfl rfl (LOp.move rfl rfl) ?_
                    refine ROps.l (r := AV.i64 r11) rfl rfl rfl (LOp.move rfl rfl) ?_
                    refine ROps.l (r := AV.i64 r1) rfl rfl rfl (LOp.move rfl rfl) ?_
                    refine ROps.l (r := AV.b false) rfl rfl rfl (LOp.eqb (LOp.neq rfl rfl rfl) hc16) ?_
                    refine ROps.l (r := AV.b false) rfl rfl rfl (LOp.pick_false rfl rfl rfl) ?_
                    refine ROps.l (r := AV.b false) rfl rfl rfl (LOp.move rfl rfl) ?_
                    refine ROps.l (r := AV.b r12) rfl rfl rfl (LOp.move rfl rfl) ?_
                    refine ROps.l (r := AV.b r2) rfl rfl rfl (LOp.move rfl rfl) ?_
                    refine ROps.l (r := AV.b false) rfl rfl rfl (LOp.eqb (LOp.neqb pun4 rfl rfl rfl) hc17) ?_
                    refine ROps.l (r := AV.b false) rfl rfl rfl (LOp.pick_false rfl rfl rfl) ?_
                    refine ROps.nil ?_
                    refine RunC.wl (τ' := [(6, AV.oref 1 1 0 r6.length), (9, AV.i64 r8), (73, AV.b false)]) (Γ' := [⟨1, none⟩, ⟨1, some (r9.map AV.str)⟩, ⟨1, none⟩]) ⟨(ALe.refl _), (ALe.refl _), (ALe.refl _), trivial⟩ ⟨⟨rfl, .inl rfl⟩, ⟨rfl, .inr rfl⟩, ⟨rfl, .inl rfl⟩, trivial⟩ ?_
                    refine RunC.cond_false rfl rfl ?_
                    refine RunC.skip ?_
                    refine RunC.seq ?_
                    refine RunC.regionW ?_
                    refine ROps.l (r := AV.i64 1) rfl rfl rfl (LOp.assign rfl rfl) ?_
                    refine ROps.nil ?_
                    refine RunC.seq ?_
                    obtain ⟨r15, hf18, h⟩ := obind_some h
                    refine RunC.regionW ?_
                    refine ROps.l (r := AV.oref 1 1 0 r6.length) rfl rfl rfl (LOp.move rfl rfl) ?_
                    refine ROps.l (r := AV.i64 1) rfl rfl rfl (LOp.move rfl rfl) ?_
                    refine ROps.d (r := AV.i64 r15) (fs := []) (Γ' := [⟨1, none⟩, ⟨1, some (r9.map AV.str)⟩, ⟨1, none⟩]) rfl rfl rfl (TOp.callB (CallAs.func ent24 rfl rfl) (Bors.cons (Bor.own (f := AV.str) (fun _ => rfl) rfl (of_decide_eq_true hn9)) (Bors.cons (Bor.pure rfl) Bors.nil)) rfl rfl (w_heldStringS_ok r9 1 r15 hf18)) rfl ?_
                    refine ROps.l (r := AV.i64 r15) rfl rfl rfl (LOp.assign rfl rfl) ?_
                    refine ROps.nil ?_
                    refine RunC.wl (τ' := [(9, AV.i64 r8), (10, AV.i64 r15)]) (Γ' := [⟨1, none⟩, ⟨1, none⟩, ⟨1, none⟩]) ⟨(ALe.refl _), (ALe.refl _), trivial⟩ ⟨⟨rfl, .inl rfl⟩, ⟨rfl, .inl rfl⟩, ⟨rfl, .inl rfl⟩, trivial⟩ ?_
                    refine RunC.seq ?_
                    refine RunC.seq ?_
                    rcases bsel_some h with ⟨hc19, h⟩ | ⟨hc19, h⟩
                    · refine RunC.regionW ?_
                      refine ROps.l (r := AV.i64 r15) rfl rfl rfl (LOp.move rfl rfl) ?_
                      refine ROps.l (r := AV.b true) rfl rfl rfl (LOp.eqb (LOp.lss rfl rfl rfl) hc19) ?_
                      refine ROps.nil ?_
                      refine RunC.cond_true rfl rfl ?_
                      refine RunC.seq ?_
                      refine RunC.regionW ?_
                      refine ROps.l (r := AV.b false) rfl rfl rfl (LOp.assign rfl rfl) ?_
                      refine ROps.nil ?_
                      refine RunC.ret ?_
                      have hq := Option.some.inj h
                      subst q0
                      exact bodyQ.pure (.inr rfl) rfl (Res.one rfl (RV.tmp rfl))
                    · refine RunC.regionW ?_
                      refine ROps.l (r := AV.i64 r15) rfl rfl rfl (LOp.move rfl rfl) ?_
                      refine ROps.l (r := AV.b false) rfl rfl rfl (LOp.eqb (LOp.lss rfl rfl rfl) hc19) ?_
                      refine ROps.nil ?_
                      refine RunC.cond_false rfl rfl ?_
                      refine RunC.skip ?_
                      refine RunC.seq ?_
                      refine RunC.seq ?_
                      rcases bsel_some h with ⟨hc20, h⟩ | ⟨hc20, h⟩
                      · refine RunC.regionW ?_
                        refine ROps.l (r := AV.i64 r15) rfl rfl rfl (LOp.move rfl rfl) ?_
                        refine ROps.l (r := AV.i64 r8) rfl rfl rfl (LOp.move rfl rfl) ?_
                        refine ROps.l (r := AV.b true) rfl rfl rfl (LOp.eqb (LOp.neq rfl rfl rfl) hc20) ?_
                        refine ROps.nil ?_
                        refine RunC.cond_true rfl rfl ?_
                        refine RunC.seq ?_
                        refine RunC.regionW ?_
                        refine ROps.l (r := AV.b false) rfl rfl rfl (LOp.assign rfl rfl) ?_
                        refine ROps.nil ?_
                        refine RunC.ret ?_
                        have hq := Option.some.inj h
                        subst q0
                        exact bodyQ.pure (.inr rfl) rfl (Res.one rfl (RV.tmp rfl))
                      · refine RunC.regionW ?_
                        refine ROps.l (r := AV.i64 r15) rfl rfl rfl (LOp.move rfl rfl) ?_
                        refine ROps.l (r := AV.i64 r8) rfl rfl rfl (LOp.move rfl rfl) ?_
                        refine ROps.l (r := AV.b false) rfl rfl rfl (LOp.eqb (LOp.neq rfl rfl rfl) hc20) ?_
                        refine ROps.nil ?_
                        refine RunC.cond_false rfl rfl ?_
                        refine RunC.skip ?_
                        refine RunC.seq ?_
                        refine RunC.regionW ?_
                        refine ROps.l (r := AV.b true) rfl rfl rfl (LOp.assign rfl rfl) ?_
                        refine ROps.nil ?_
                        refine RunC.ret ?_
                        have hq := Option.some.inj h
                        subst q0
                        exact bodyQ.pure (.inr rfl) rfl (Res.one rfl (RV.tmp rfl))
              · refine RunC.regionW ?_
                refine ROps.l (r := AV.oref 2 1 0 r13.length) rfl rfl rfl (LOp.move rfl rfl) ?_
                refine ROps.l (r := AV.oref 0 1 0 r3.length) rfl rfl rfl (LOp.move rfl rfl) ?_
                refine ROps.d (r := AV.b false) (fs := []) (Γ' := [⟨1, some (r3.map AV.str)⟩, ⟨1, some (r9.map AV.str)⟩, ⟨1, some (r13.map AV.str)⟩]) rfl rfl rfl (TOp.eqb (TOp.callB (CallAs.func ent20 rfl rfl) (Bors.cons (Bor.own (f := AV.str) (fun _ => rfl) rfl rfl) (Bors.cons (Bor.own (f := AV.str) (fun _ => rfl) rfl rfl) Bors.nil)) rfl rfl (w_eqStringS_ok r13 r3 r14 hf14)) hc15) rfl ?_
                refine ROps.l (r := AV.b true) rfl rfl rfl (LOp.eqb (LOp.not rfl rfl) rfl) ?_
                refine ROps.l (r := AV.b true) rfl rfl rfl (LOp.move rfl rfl) ?_
                refine ROps.s rfl rfl rfl ?_
                refine ROps.s rfl rfl rfl ?_
                refine ROps.s rfl rfl rfl ?_
                refine ROps.l (r := AV.b true) rfl rfl rfl (LOp.pick_true rfl rfl rfl) ?_
                refine ROps.l (r := AV.b true) rfl rfl rfl (LOp.move rfl rfl) ?_
                refine ROps.s rfl rfl rfl ?_
                refine ROps.s rfl rfl rfl ?_
                refine ROps.s rfl rfl rfl ?_
                refine ROps.l (r := AV.b true) rfl rfl rfl (LOp.pick_true rfl rfl rfl) ?_
                refine ROps.nil ?_
                refine RunC.wl (τ' := [(6, AV.oref 1 1 0 r6.length), (9, AV.i64 r8), (73, AV.b true)]) (Γ' := [⟨1, none⟩, ⟨1, some (r9.map AV.str)⟩, ⟨1, none⟩]) ⟨(ALe.refl _), (ALe.refl _), (ALe.refl _), trivial⟩ ⟨⟨rfl, .inl rfl⟩, ⟨rfl, .inr rfl⟩, ⟨rfl, .inl rfl⟩, trivial⟩ ?_
                refine RunC.cond_true rfl rfl ?_
                refine RunC.seq ?_
                refine RunC.regionW ?_
                refine ROps.l (r := AV.b false) rfl rfl rfl (LOp.assign rfl rfl) ?_
                refine ROps.nil ?_
                refine RunC.ret ?_
                have hq := Option.some.inj h
                subst q0
                exact bodyQ.pure (.inr rfl) rfl (Res.one rfl (RV.tmp rfl))
    · refine RunC.regionW ?_
      refine ROps.l (r := AV.oref 1 1 0 r6.length) rfl rfl rfl (LOp.move rfl rfl) ?_
      refine ROps.l (r := AV.oref 0 1 0 r3.length) rfl rfl rfl (LOp.move rfl rfl) ?_
      refine ROps.d (r := AV.b false) (fs := []) (Γ' := [⟨1, some (r3.map AV.str)⟩, ⟨1, some (r6.map AV.str)⟩, ⟨0, none⟩]) rfl rfl rfl (TOp.eqb (TOp.callB (CallAs.func ent20 rfl rfl) (Bors.cons (Bor.own (f := AV.str) (fun _ => rfl) rfl rfl) (Bors.cons (Bor.own (f := AV.str) (fun _ => rfl) rfl rfl) Bors.nil)) rfl rfl (w_eqStringS_ok r6 r3 r7 hf4)) hc5) rfl ?_
      refine ROps.l (r := AV.b true) rfl rfl rfl (LOp.eqb (LOp.not rfl rfl) rfl) ?_
      refine ROps.l (r := AV.b true) rfl rfl rfl (LOp.move rfl rfl) ?_
      refine ROps.s rfl rfl rfl ?_
      refine ROps.s rfl rfl rfl ?_
      refine ROps.s rfl rfl rfl ?_
      refine ROps.l (r := AV.b true) rfl rfl rfl (LOp.pick_true rfl rfl rfl) ?_
      refine ROps.l (r := AV.b true) rfl rfl rfl (LOp.move rfl rfl) ?_
      refine ROps.s rfl rfl rfl ?_
      refine ROps.s rfl rfl rfl ?_
      refine ROps.s rfl rfl rfl ?_
      refine ROps.l (r := AV.b true) rfl rfl rfl (LOp.pick_true rfl rfl rfl) ?_
      refine ROps.nil ?_
      refine RunC.wl (τ' := [(0, AV.str a0), (3, AV.oref 0 1 0 r3.length), (4, AV.i64 r1), (5, AV.b r2), (6, AV.oref 1 1 0 r6.length), (42, AV.b true)]) (Γ' := [⟨1, some (r3.map AV.str)⟩, ⟨1, some (r6.map AV.str)⟩, ⟨0, none⟩]) ⟨(ALe.refl _), (ALe.refl _), (ALe.refl _), (ALe.refl _), (ALe.refl _), (ALe.refl _), trivial⟩ ⟨⟨rfl, .inr rfl⟩, ⟨rfl, .inr rfl⟩, ⟨rfl, .inr rfl⟩, trivial⟩ ?_
      refine RunC.cond_true rfl rfl ?_
      refine RunC.seq ?_
      refine RunC.regionW ?_
      refine ROps.l (r := AV.b false) rfl rfl rfl (LOp.assign rfl rfl) ?_
      refine ROps.nil ?_
      refine RunC.ret ?_
      have hq := Option.some.inj h
      subst q0
      exact bodyQ.pure (.inr rfl) rfl (Res.one rfl (RV.tmp rfl))
end Go.Proofs.YtddegdokdpeboaaDoor
