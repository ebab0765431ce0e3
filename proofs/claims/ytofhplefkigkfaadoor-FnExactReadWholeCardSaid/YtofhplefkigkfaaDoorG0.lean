/- Generated. -/
import Derived.Test.YtofhplefkigkfaaDoorTys
namespace Go.Proofs.YtofhplefkigkfaaDoor
open Go Go.AM
set_option maxRecDepth 20000
set_option maxHeartbeats 4000000
set_option linter.unusedVariables false
set_option linter.unusedSimpArgs false
noncomputable def s_l01Cut_k2 (v5 : Int) (L13 : List ByteArray) (v14 : Int) : Option (LR ((List ByteArray) × Int × Int) ((List ByteArray)) ((List ByteArray))) :=
  olet (IntKind.i64.wrap (v5 + 1)) fun (x15 : Int) =>
  some (LR.next (L13, v14, x15))
noncomputable def s_l01Cut_b3 (a0 : ByteArray) (a1 : Int) (L3 : List ByteArray) (v4 : Int) (v5 : Int) : Option (LR ((List ByteArray) × Int × Int) ((List ByteArray)) ((List ByteArray))) :=
  bsel (decide (v5 ≤ (a0.size : Int))) (
    bsel (decide (v5 = (a0.size : Int))) (
      obind (subs? a0 v4 v5) fun (t7 : ByteArray) =>
      need (apok 16 L3.length 1) <|
      olet (IntKind.i64.wrap (v5 + 1)) fun (x8 : Int) =>
      s_l01Cut_k2 v5 (L3 ++ ([t7] : List ByteArray)) x8) (
      obind (sat? a0 v5) fun (e6 : Int) =>
      bsel (decide (e6 = a1)) (
        obind (subs? a0 v4 v5) fun (t9 : ByteArray) =>
        need (apok 16 L3.length 1) <|
        olet (IntKind.i64.wrap (v5 + 1)) fun (x10 : Int) =>
        s_l01Cut_k2 v5 (L3 ++ ([t9] : List ByteArray)) x10) (
        s_l01Cut_k2 v5 L3 v4))) (
    some (LR.out L3))
noncomputable def s_l01Cut_s3 (a0 : ByteArray) (a1 : Int) : ((List ByteArray) × Int × Int) → Option (LR ((List ByteArray) × Int × Int) ((List ByteArray)) ((List ByteArray))) := fun s => s_l01Cut_b3 a0 a1 s.1 s.2.1 s.2.2
noncomputable def s_l01Cut_k3 (L18 : List ByteArray) : Option ((List ByteArray)) :=
  some L18
noncomputable def s_l01Cut (a0 : ByteArray) (a1 : Int) : Option ((List ByteArray)) :=
  obind (loopM (s_l01Cut_s3 a0 a1) (([] : List ByteArray), 0, 0)) fun z => osum z (fun e => s_l01Cut_k3 e) (fun r => some r)
theorem s_l01Cut_ok (a0 : ByteArray) (a1 : Int) (q0 : List ByteArray) (h : s_l01Cut a0 a1 = some q0) : Ev Tryd.prog 23 [AV.str a0, AV.ik .u8 a1] [] (AV.oref 0 0 0 q0.length) [⟨0, some (q0.map AV.str)⟩] := by
  refine Ev.start Tryd.func23 rfl rfl 2 (τ := [(0, AV.str a0), (1, AV.ik .u8 a1)]) rfl (Γ' := [⟨0, none⟩, ⟨0, none⟩]) rfl (n := 73) rfl (g := 0) rfl (fun _ => rfl) ?_
  unfold s_l01Cut at h
  refine RunC.seq ?_
  refine RunC.regionW ?_
  refine ROps.l (r := AV.nilsl) rfl rfl rfl (LOp.assign rfl rfl) ?_
  refine ROps.nil ?_
  refine RunC.seq ?_
  refine RunC.regionW ?_
  refine ROps.d (r := AV.oref 0 1 0 0) (fs := [(0, (([] : List ByteArray).map AV.str))]) (Γ' := [⟨1, some (([] : List ByteArray).map AV.str)⟩, ⟨0, none⟩]) rfl rfl rfl (TOp.buildSlice_o (g := ⟨0, none⟩) (za := AV.str lit_99ba06bc) (qs := []) 0 rfl und40 siz9 zer9 rfl zel9 rfl rfl trivial rfl) rfl ?_
  refine ROps.l (r := AV.oref 0 1 0 0) rfl rfl rfl (LOp.assign rfl rfl) ?_
  refine ROps.nil ?_
  refine RunC.seq ?_
  refine RunC.regionW ?_
  refine ROps.l (r := AV.i64 0) rfl rfl rfl (LOp.assign rfl rfl) ?_
  refine ROps.nil ?_
  refine RunC.seq ?_
  refine RunC.seq ?_
  refine RunC.regionW ?_
  refine ROps.l (r := AV.i64 0) rfl rfl rfl (LOp.assign rfl rfl) ?_
  refine ROps.nil ?_
  obtain ⟨z4, hz_4, h⟩ := obind_some h
  refine RunC.cutN (fun τ Γ => ∃ (L18 : List ByteArray) (u16 : Nat) (u17 : Nat), WeakLe τ [(5, AV.oref 0 u16 0 L18.length)] ∧ DeadLe Γ [⟨u16, some (L18.map AV.str)⟩, ⟨u17, none⟩] ∧ z4 = .inl L18) ?_ ?_
  · refine RunC.block (RunC.loop (RunL.loopM (x := z4) (s_l01Cut_s3 a0 a1) (fun (s : (List ByteArray) × Int × Int) τ Γ => ∃ (u1 : Nat) (u2 : Nat), WeakLe τ [(0, AV.str a0), (1, AV.ik .u8 a1), (5, AV.oref 0 u1 0 s.1.length), (6, AV.i64 s.2.1), (7, AV.i64 s.2.2)] ∧ DeadLe Γ [⟨u1, some (s.1.map AV.str)⟩, ⟨u2, none⟩]) ?_ _ _ _ hz_4 ⟨1, 0, ⟨(ALe.refl _), (ALe.refl _), (ALe.refl _), (ALe.refl _), (ALe.refl _), trivial⟩, ⟨⟨rfl, .inr rfl⟩, ⟨rfl, .inl rfl⟩, trivial⟩⟩))
    rintro ⟨L3, v4, v5⟩ τ4 Γ4 y4_ ⟨u1, u2, hw4, hd4⟩ h4_ ho4 hr4
    refine RunC.wl (τ' := [(0, AV.str a0), (1, AV.ik .u8 a1), (5, AV.oref 0 u1 0 L3.length), (6, AV.i64 v4), (7, AV.i64 v5)]) (Γ' := [⟨u1, some (L3.map AV.str)⟩, ⟨u2, none⟩]) hw4 hd4 ?_
    replace h4_ : s_l01Cut_b3 a0 a1 L3 v4 v5 = some y4_ := h4_
    unfold s_l01Cut_b3 at h4_
    refine RunC.seq ?_
    refine RunC.seq ?_
    rcases bsel_some h4_ with ⟨hc1, h4_⟩ | ⟨hc1, h4_⟩
    · refine RunC.regionW ?_
      refine ROps.l (r := AV.i64 v5) rfl rfl rfl (LOp.move rfl rfl) ?_
      refine ROps.l (r := AV.str a0) rfl rfl rfl (LOp.move rfl rfl) ?_
      refine ROps.l (r := AV.i64 (a0.size : Int)) rfl rfl rfl (LOp.len_str und9 rfl rfl) ?_
      refine ROps.l (r := AV.b true) rfl rfl rfl (LOp.eqb (LOp.leq rfl rfl rfl) hc1) ?_
      refine ROps.nil ?_
      refine RunC.cond_true rfl rfl ?_
      refine RunC.skip ?_
      refine RunC.seq ?_
      refine RunC.cutN (fun τ Γ => ∃ (L13 : List ByteArray) (v14 : Int) (u11 : Nat) (u12 : Nat), WeakLe τ [(0, AV.str a0), (1, AV.ik .u8 a1), (5, AV.oref 0 u11 0 L13.length), (6, AV.i64 v14), (7, AV.i64 v5)] ∧ DeadLe Γ [⟨u11, some (L13.map AV.str)⟩, ⟨u12, none⟩] ∧ s_l01Cut_k2 v5 L13 v14 = some y4_) ?_ ?_
      · refine RunC.block ?_
        refine RunC.seq ?_
        rcases bsel_some h4_ with ⟨hc2, h4_⟩ | ⟨hc2, h4_⟩
        · refine RunC.regionW ?_
          refine ROps.l (r := AV.i64 v5) rfl rfl rfl (LOp.move rfl rfl) ?_
          refine ROps.l (r := AV.str a0) rfl rfl rfl (LOp.move rfl rfl) ?_
          refine ROps.l (r := AV.i64 (a0.size : Int)) rfl rfl rfl (LOp.len_str und9 rfl rfl) ?_
          refine ROps.l (r := AV.b true) rfl rfl rfl (LOp.eqb (LOp.eql rfl rfl rfl) hc2) ?_
          refine ROps.l (r := AV.b true) rfl rfl rfl (LOp.move rfl rfl) ?_
          refine ROps.s rfl rfl rfl ?_
          refine ROps.s rfl rfl rfl ?_
          refine ROps.s rfl rfl rfl ?_
          refine ROps.s rfl rfl rfl ?_
          refine ROps.s rfl rfl rfl ?_
          refine ROps.l (r := AV.b true) rfl rfl rfl (LOp.pick_true rfl rfl rfl) ?_
          refine ROps.nil ?_
          refine RunC.cond_true rfl rfl ?_
          refine RunC.seq ?_
          obtain ⟨t7, hs5, h4_⟩ := obind_some h4_
          obtain ⟨hm6, h4_⟩ := need_some h4_
          refine RunC.regionW ?_
          refine ROps.l (r := AV.oref 0 u1 0 L3.length) rfl rfl rfl (LOp.move rfl rfl) ?_
          refine ROps.l (r := AV.str a0) rfl rfl rfl (LOp.move rfl rfl) ?_
          refine ROps.l (r := AV.i64 v4) rfl rfl rfl (LOp.move rfl rfl) ?_
          refine ROps.l (r := AV.i64 v5) rfl rfl rfl (LOp.move rfl rfl) ?_
          refine ROps.l (r := AV.str t7) rfl rfl rfl (LOp.subs und9 rfl rfl rfl rfl hs5) ?_
          refine ROps.d (r := AV.oref 1 (u2 + 1) 0 1) (fs := [(1, (([t7] : List ByteArray).map AV.str))]) (Γ' := [⟨u1, some (L3.map AV.str)⟩, ⟨(u2 + 1), some (([t7] : List ByteArray).map AV.str)⟩]) rfl rfl rfl (TOp.buildSlice_o (g := ⟨u2, none⟩) (za := AV.str lit_99ba06bc) (qs := [(0, [AV.str t7])]) 1 rfl und40 siz9 zer9 rfl zel9 rfl rfl ⟨rfl, ⟨_, ALe.refl _, rfl⟩, trivial⟩ rfl) rfl ?_
          refine ROps.app (f := AV.str) (xs := L3) (ys := ([t7] : List ByteArray)) (Γ' := [⟨(u1 + 1), some ((L3 ++ ([t7] : List ByteArray)).map AV.str)⟩, ⟨(u2 + 1), some (([t7] : List ByteArray).map AV.str)⟩]) rfl pun40 inf9 rfl rfl rfl rfl rfl rfl rfl rfl rfl (by simp) (ReadAs.own rfl (by simp)) (ones_map (fun _ => rfl)) (ap_by hm6) (ap_mx hm6) rfl ?_
          refine ROps.l (r := AV.oref 0 (u1 + 1) 0 (L3.length + 1)) rfl rfl rfl (LOp.assign rfl rfl) ?_
          refine ROps.nil ?_
          refine RunC.wl (τ' := [(0, AV.str a0), (1, AV.ik .u8 a1), (5, AV.oref 0 (u1 + 1) 0 (L3.length + 1)), (7, AV.i64 v5)]) (Γ' := [⟨(u1 + 1), some ((L3 ++ ([t7] : List ByteArray)).map AV.str)⟩, ⟨(u2 + 1), none⟩]) ⟨(ALe.refl _), (ALe.refl _), (ALe.refl _), (ALe.refl _), trivial⟩ ⟨⟨rfl, .inr rfl⟩, ⟨rfl, .inl rfl⟩, trivial⟩ ?_
          obtain ⟨x8, hx7, h4_⟩ := olet_some h4_
          refine RunC.regionW ?_
          refine ROps.l (r := AV.i64 v5) rfl rfl rfl (LOp.move rfl rfl) ?_
          refine ROps.l (r := AV.i64 x8) rfl rfl rfl (LOp.eqr (LOp.add rfl rfl rfl) (congrArg (AV.ik .i64) hx7)) ?_
          refine ROps.l (r := AV.i64 x8) rfl rfl rfl (LOp.assign rfl rfl) ?_
          refine ROps.nil ?_
          exact ⟨(L3 ++ ([t7] : List ByteArray)), x8, (u1 + 1), (u2 + 1), ⟨(ALe.refl _), (ALe.refl _), (ALe.eq (by rw [(app_len rfl rfl)] <;> rfl)), (ALe.refl _), (ALe.refl _), trivial⟩, ⟨⟨rfl, .inr rfl⟩, ⟨rfl, .inl rfl⟩, trivial⟩, h4_⟩
        · obtain ⟨e6, he3, h4_⟩ := obind_some h4_
          rcases bsel_some h4_ with ⟨hc4, h4_⟩ | ⟨hc4, h4_⟩
          · refine RunC.regionW ?_
            refine ROps.l (r := AV.i64 v5) rfl rfl rfl (LOp.move rfl rfl) ?_
            refine ROps.l (r := AV.str a0) rfl rfl rfl (LOp.move rfl rfl) ?_
            refine ROps.l (r := AV.i64 (a0.size : Int)) rfl rfl rfl (LOp.len_str und9 rfl rfl) ?_
            refine ROps.l (r := AV.b false) rfl rfl rfl (LOp.eqb (LOp.eql rfl rfl rfl) hc2) ?_
            refine ROps.l (r := AV.b false) rfl rfl rfl (LOp.move rfl rfl) ?_
            refine ROps.l (r := AV.str a0) rfl rfl rfl (LOp.move rfl rfl) ?_
            refine ROps.l (r := AV.i64 v5) rfl rfl rfl (LOp.move rfl rfl) ?_
            refine ROps.l (r := AV.ik .u8 e6) rfl rfl rfl (LOp.index_str und9 rfl rfl rfl he3) ?_
            refine ROps.l (r := AV.ik .u8 a1) rfl rfl rfl (LOp.move rfl rfl) ?_
            refine ROps.l (r := AV.b true) rfl rfl rfl (LOp.eqb (LOp.eql rfl rfl rfl) hc4) ?_
            refine ROps.l (r := AV.b true) rfl rfl rfl (LOp.pick_false rfl rfl rfl) ?_
            refine ROps.nil ?_
            refine RunC.cond_true rfl rfl ?_
            refine RunC.seq ?_
            obtain ⟨t9, hs8, h4_⟩ := obind_some h4_
            obtain ⟨hm9, h4_⟩ := need_some h4_
            refine RunC.regionW ?_
            refine ROps.l (r := AV.oref 0 u1 0 L3.length) rfl rfl rfl (LOp.move rfl rfl) ?_
            refine ROps.l (r := AV.str a0) rfl rfl rfl (LOp.move rfl rfl) ?_
            refine ROps.l (r := AV.i64 v4) rfl rfl rfl (LOp.move rfl rfl) ?_
            refine ROps.l (r := AV.i64 v5) rfl rfl rfl (LOp.move rfl rfl) ?_
            refine ROps.l (r := AV.str t9) rfl rfl rfl (LOp.subs und9 rfl rfl rfl rfl hs8) ?_
            refine ROps.d (r := AV.oref 1 (u2 + 1) 0 1) (fs := [(1, (([t9] : List ByteArray).map AV.str))]) (Γ' := [⟨u1, some (L3.map AV.str)⟩, ⟨(u2 + 1), some (([t9] : List ByteArray).map AV.str)⟩]) rfl rfl rfl (TOp.buildSlice_o (g := ⟨u2, none⟩) (za := AV.str lit_99ba06bc) (qs := [(0, [AV.str t9])]) 1 rfl und40 siz9 zer9 rfl zel9 rfl rfl ⟨rfl, ⟨_, ALe.refl _, rfl⟩, trivial⟩ rfl) rfl ?_
            refine ROps.app (f := AV.str) (xs := L3) (ys := ([t9] : List ByteArray)) (Γ' := [⟨(u1 + 1), some ((L3 ++ ([t9] : List ByteArray)).map AV.str)⟩, ⟨(u2 + 1), some (([t9] : List ByteArray).map AV.str)⟩]) rfl pun40 inf9 rfl rfl rfl rfl rfl rfl rfl rfl rfl (by simp) (ReadAs.own rfl (by simp)) (ones_map (fun _ => rfl)) (ap_by hm9) (ap_mx hm9) rfl ?_
            refine ROps.l (r := AV.oref 0 (u1 + 1) 0 (L3.length + 1)) rfl rfl rfl (LOp.assign rfl rfl) ?_
            refine ROps.nil ?_
            refine RunC.wl (τ' := [(0, AV.str a0), (1, AV.ik .u8 a1), (5, AV.oref 0 (u1 + 1) 0 (L3.length + 1)), (7, AV.i64 v5), (20, AV.str a0), (21, AV.i64 v5), (22, AV.ik .u8 e6), (23, AV.ik .u8 a1), (24, AV.b true)]) (Γ' := [⟨(u1 + 1), some ((L3 ++ ([t9] : List ByteArray)).map AV.str)⟩, ⟨(u2 + 1), none⟩]) ⟨(ALe.refl _), (ALe.refl _), (ALe.refl _), (ALe.refl _), (ALe.refl _), (ALe.refl _), (ALe.refl _), (ALe.refl _), (ALe.refl _), trivial⟩ ⟨⟨rfl, .inr rfl⟩, ⟨rfl, .inl rfl⟩, trivial⟩ ?_
            obtain ⟨x10, hx10, h4_⟩ := olet_some h4_
            refine RunC.regionW ?_
            refine ROps.l (r := AV.i64 v5) rfl rfl rfl (LOp.move rfl rfl) ?_
            refine ROps.l (r := AV.i64 x10) rfl rfl rfl (LOp.eqr (LOp.add rfl rfl rfl) (congrArg (AV.ik .i64) hx10)) ?_
            refine ROps.l (r := AV.i64 x10) rfl rfl rfl (LOp.assign rfl rfl) ?_
            refine ROps.nil ?_
            exact ⟨(L3 ++ ([t9] : List ByteArray)), x10, (u1 + 1), (u2 + 1), ⟨(ALe.refl _), (ALe.refl _), (ALe.eq (by rw [(app_len rfl rfl)] <;> rfl)), (ALe.refl _), (ALe.refl _), trivial⟩, ⟨⟨rfl, .inr rfl⟩, ⟨rfl, .inl rfl⟩, trivial⟩, h4_⟩
          · refine RunC.regionW ?_
            refine ROps.l (r := AV.i64 v5) rfl rfl rfl (LOp.move rfl rfl) ?_
            refine ROps.l (r := AV.str a0) rfl rfl rfl (LOp.move rfl rfl) ?_
            refine ROps.l (r := AV.i64 (a0.size : Int)) rfl rfl rfl (LOp.len_str und9 rfl rfl) ?_
            refine ROps.l (r := AV.b false) rfl rfl rfl (LOp.eqb (LOp.eql rfl rfl rfl) hc2) ?_
            refine ROps.l (r := AV.b false) rfl rfl rfl (LOp.move rfl rfl) ?_
            refine ROps.l (r := AV.str a0) rfl rfl rfl (LOp.move rfl rfl) ?_
            refine ROps.l (r := AV.i64 v5) rfl rfl rfl (LOp.move rfl rfl) ?_
            refine ROps.l (r := AV.ik .u8 e6) rfl rfl rfl (LOp.index_str und9 rfl rfl rfl he3) ?_
            refine ROps.l (r := AV.ik .u8 a1) rfl rfl rfl (LOp.move rfl rfl) ?_
            refine ROps.l (r := AV.b false) rfl rfl rfl (LOp.eqb (LOp.eql rfl rfl rfl) hc4) ?_
            refine ROps.l (r := AV.b false) rfl rfl rfl (LOp.pick_false rfl rfl rfl) ?_
            refine ROps.nil ?_
            refine RunC.cond_false rfl rfl ?_
            refine RunC.skip ?_
            exact ⟨L3, v4, u1, u2, ⟨(ALe.refl _), (ALe.refl _), (ALe.refl _), (ALe.refl _), (ALe.refl _), trivial⟩, ⟨⟨rfl, .inr rfl⟩, ⟨rfl, .inl rfl⟩, trivial⟩, h4_⟩
      · rintro τ5 Γ5 ⟨L13, v14, u11, u12, hw5, hd5, h4_⟩
        refine RunC.wl (τ' := [(0, AV.str a0), (1, AV.ik .u8 a1), (5, AV.oref 0 u11 0 L13.length), (6, AV.i64 v14), (7, AV.i64 v5)]) (Γ' := [⟨u11, some (L13.map AV.str)⟩, ⟨u12, none⟩]) hw5 hd5 ?_
        unfold s_l01Cut_k2 at h4_
        obtain ⟨x15, hx11, h4_⟩ := olet_some h4_
        refine RunC.regionW ?_
        refine ROps.l (r := AV.i64 v5) rfl rfl rfl (LOp.move rfl rfl) ?_
        refine ROps.l (r := AV.i64 x15) rfl rfl rfl (LOp.eqr (LOp.add rfl rfl rfl) (congrArg (AV.ik .i64) hx11)) ?_
        refine ROps.l (r := AV.i64 x15) rfl rfl rfl (LOp.assign rfl rfl) ?_
        refine ROps.nil ?_
        cases Option.some.inj h4_
        exact ⟨_, rfl, u11, u12, ⟨(ALe.refl _), (ALe.refl _), (ALe.refl _), (ALe.refl _), (ALe.refl _), trivial⟩, ⟨⟨rfl, .inr rfl⟩, ⟨rfl, .inl rfl⟩, trivial⟩⟩
    · refine RunC.regionW ?_
      refine ROps.l (r := AV.i64 v5) rfl rfl rfl (LOp.move rfl rfl) ?_
      refine ROps.l (r := AV.str a0) rfl rfl rfl (LOp.move rfl rfl) ?_
      refine ROps.l (r := AV.i64 (a0.size : Int)) rfl rfl rfl (LOp.len_str und9 rfl rfl) ?_
      refine ROps.l (r := AV.b false) rfl rfl rfl (LOp.eqb (LOp.leq rfl rfl rfl) hc1) ?_
      refine ROps.nil ?_
      refine RunC.cond_false rfl rfl ?_
      refine RunC.exit ?_
      cases Option.some.inj h4_
      have hx := ho4 _ rfl
      exact ⟨L3, u1, u2, ⟨(ALe.refl _), trivial⟩, ⟨⟨rfl, .inr rfl⟩, ⟨rfl, .inl rfl⟩, trivial⟩, hx⟩
  · rintro τ6 Γ6 ⟨L18, u16, u17, hw6, hd6, rfl⟩
    refine RunC.wl (τ' := [(5, AV.oref 0 u16 0 L18.length)]) (Γ' := [⟨u16, some (L18.map AV.str)⟩, ⟨u17, none⟩]) hw6 hd6 ?_
    replace h : s_l01Cut_k3 L18 = some q0 := h
    unfold s_l01Cut_k3 at h
    refine RunC.seq ?_
    refine RunC.regionW ?_
    refine ROps.l (r := AV.oref 0 u16 0 L18.length) rfl rfl rfl (LOp.move rfl rfl) ?_
    refine ROps.l (r := AV.oref 0 u16 0 L18.length) rfl rfl rfl (LOp.assign rfl rfl) ?_
    refine ROps.nil ?_
    refine RunC.ret ?_
    have hq := Option.some.inj h
    subst q0
    exact bodyQ.mk (r' := AV.oref 0 u16 0 L18.length) [(0, u16)] (.inr rfl) rfl (show List.Nodup [0] from by decide) (by simp [AV.ren, AV.rens, sigma]) rfl (Res.one rfl (RV.tmp rfl)) (SelL.arr0 (f := AV.str) (fun _ => rfl) rfl trivial)
noncomputable def s_l00In (a0 : Int) (a1 : Int) (a2 : Int) : Option (Bool) :=
  bsel (decide (a1 ≤ a0)) (
    some (decide (a0 ≤ a2))) (
    some false)
theorem s_l00In_ok (a0 : Int) (a1 : Int) (a2 : Int) (q0 : Bool) (h : s_l00In a0 a1 a2 = some q0) : Ev Tryd.prog 32 [AV.i64 a0, AV.i64 a1, AV.i64 a2] [] (AV.b q0) [] := by
  refine Ev.start Tryd.func32 rfl rfl 0 (τ := [(0, AV.i64 a0), (1, AV.i64 a1), (2, AV.i64 a2)]) rfl (Γ' := []) rfl (n := 31) rfl (g := 0) rfl (fun _ => rfl) ?_
  unfold s_l00In at h
  refine RunC.seq ?_
  refine RunC.regionW ?_
  refine ROps.l (r := AV.b false) rfl rfl rfl (LOp.assign rfl rfl) ?_
  refine ROps.nil ?_
  refine RunC.seq ?_
  rcases bsel_some h with ⟨hc1, h⟩ | ⟨hc1, h⟩
  · refine RunC.regionW ?_
    refine ROps.l (r := AV.i64 a0) rfl rfl rfl (LOp.move rfl rfl) ?_
    refine ROps.l (r := AV.i64 a1) rfl rfl rfl (LOp.move rfl rfl) ?_
    refine ROps.l (r := AV.b true) rfl rfl rfl (LOp.eqb (LOp.geq rfl rfl rfl) hc1) ?_
    refine ROps.l (r := AV.b true) rfl rfl rfl (LOp.move rfl rfl) ?_
    refine ROps.l (r := AV.i64 a0) rfl rfl rfl (LOp.move rfl rfl) ?_
    refine ROps.l (r := AV.i64 a2) rfl rfl rfl (LOp.move rfl rfl) ?_
    refine ROps.l (r := AV.b (decide (a0 ≤ a2))) rfl rfl rfl (LOp.leq rfl rfl rfl) ?_
    refine ROps.l (r := AV.b (decide (a0 ≤ a2))) rfl rfl rfl (LOp.pick_true rfl rfl rfl) ?_
    refine ROps.l (r := AV.b (decide (a0 ≤ a2))) rfl rfl rfl (LOp.assign rfl rfl) ?_
    refine ROps.nil ?_
    refine RunC.ret ?_
    have hq := Option.some.inj h
    subst q0
    exact bodyQ.pure (.inr rfl) rfl (Res.one rfl (RV.tmp rfl))
  · refine RunC.regionW ?_
    refine ROps.l (r := AV.i64 a0) rfl rfl rfl (LOp.move rfl rfl) ?_
    refine ROps.l (r := AV.i64 a1) rfl rfl rfl (LOp.move rfl rfl) ?_
    refine ROps.l (r := AV.b false) rfl rfl rfl (LOp.eqb (LOp.geq rfl rfl rfl) hc1) ?_
    refine ROps.l (r := AV.b false) rfl rfl rfl (LOp.move rfl rfl) ?_
    refine ROps.s rfl rfl rfl ?_
    refine ROps.s rfl rfl rfl ?_
    refine ROps.s rfl rfl rfl ?_
    refine ROps.l (r := AV.b false) rfl rfl rfl (LOp.pick_false rfl rfl rfl) ?_
    refine ROps.l (r := AV.b false) rfl rfl rfl (LOp.assign rfl rfl) ?_
    refine ROps.nil ?_
    refine RunC.ret ?_
    have hq := Option.some.inj h
    subst q0
    exact bodyQ.pure (.inr rfl) rfl (Res.one rfl (RV.tmp rfl))
noncomputable def s_l01Dec_k6 (l3 : List Int) (v4 : Int) (v7 : Int) : Option (LR ((List Int) × Int) ((List Int)) (ByteArray)) :=
  olet (IntKind.i64.wrap (48 + v7)) fun (x8 : Int) =>
  olet (IntKind.u8.wrap x8) fun (x9 : Int) =>
  need (apok 1 1 l3.length) <|
  need (!decide (10 = 0)) <|
  olet (IntKind.i64.wrap (v4.tdiv 10)) fun (x10 : Int) =>
  some (LR.next ((([x9] : List Int) ++ l3), x10))
noncomputable def s_l01Dec_k5 (l3 : List Int) (v4 : Int) : Option (LR ((List Int) × Int) ((List Int)) (ByteArray)) :=
  need (!decide (10 = 0)) <|
  olet (v4.tmod 10) fun (x5 : Int) =>
  bsel (decide (x5 < 0)) (
    olet (IntKind.i64.wrap (0 - x5)) fun (x6 : Int) =>
    s_l01Dec_k6 l3 v4 x6) (
    s_l01Dec_k6 l3 v4 x5)
noncomputable def s_l01Dec_b7 (l3 : List Int) (v4 : Int) : Option (LR ((List Int) × Int) ((List Int)) (ByteArray)) :=
  bsel (decide ((l3.length : Int) = 0)) (
    s_l01Dec_k5 l3 v4) (
    bsel (!decide (v4 = 0)) (
      s_l01Dec_k5 l3 v4) (
      some (LR.out l3)))
noncomputable def s_l01Dec_s7  : ((List Int) × Int) → Option (LR ((List Int) × Int) ((List Int)) (ByteArray)) := fun s => s_l01Dec_b7 s.1 s.2
noncomputable def s_l01Dec_k8 (l15 : List Int) : Option (ByteArray) :=
  some (strOfNums l15)
noncomputable def s_l01Dec_k7 (a0 : Int) (l13 : List Int) : Option (ByteArray) :=
  bsel (decide (a0 < 0)) (
    need (apok 1 1 l13.length) <|
    s_l01Dec_k8 (([45] : List Int) ++ l13)) (
    s_l01Dec_k8 l13)
noncomputable def s_l01Dec (a0 : Int) : Option (ByteArray) :=
  obind (loopM (s_l01Dec_s7) (([] : List Int), a0)) fun z => osum z (fun e => s_l01Dec_k7 a0 e) (fun r => some r)
theorem s_l01Dec_ok (a0 : Int) (q0 : ByteArray) (h : s_l01Dec a0 = some q0) : Ev Tryd.prog 33 [AV.i64 a0] [] (AV.str q0) [] := by
  refine Ev.start Tryd.func33 rfl rfl 2 (τ := [(0, AV.i64 a0)]) rfl (Γ' := [⟨0, none⟩, ⟨0, none⟩]) rfl (n := 73) rfl (g := 0) rfl (fun _ => rfl) ?_
  unfold s_l01Dec at h
  refine RunC.seq ?_
  refine RunC.regionW ?_
  refine ROps.l (r := AV.str lit_99ba06bc) rfl rfl rfl (LOp.assign rfl rfl) ?_
  refine ROps.nil ?_
  refine RunC.seq ?_
  refine RunC.regionW ?_
  refine ROps.d (r := AV.oref 0 1 0 0) (fs := [(0, (([] : List Int).map (AV.ik .u8)))]) (Γ' := [⟨1, some (([] : List Int).map (AV.ik .u8))⟩, ⟨0, none⟩]) rfl rfl rfl (TOp.buildSlice_o (g := ⟨0, none⟩) (za := AV.ik .u8 0) (qs := []) 0 rfl und63 siz5 zer5 rfl zel5 rfl rfl trivial rfl) rfl ?_
  refine ROps.l (r := AV.oref 0 1 0 0) rfl rfl rfl (LOp.assign rfl rfl) ?_
  refine ROps.nil ?_
  refine RunC.seq ?_
  refine RunC.regionW ?_
  refine ROps.l (r := AV.i64 a0) rfl rfl rfl (LOp.move rfl rfl) ?_
  refine ROps.l (r := AV.i64 a0) rfl rfl rfl (LOp.assign rfl rfl) ?_
  refine ROps.nil ?_
  refine RunC.seq ?_
  obtain ⟨z9, hz_9, h⟩ := obind_some h
  refine RunC.cutN (fun τ Γ => ∃ (l13 : List Int) (u11 : Nat) (u12 : Nat), Le 73 τ Γ [(0, AV.i64 a0), (3, AV.sl l13.length (l13.map (AV.ik .u8)))] [⟨u11, none⟩, ⟨u12, none⟩] ∧ z9 = .inl l13) ?_ ?_
  · refine RunC.block (RunC.loop (RunL.loopM (x := z9) (s_l01Dec_s7) (fun (s : (List Int) × Int) τ Γ => ∃ (u1 : Nat) (u2 : Nat), Le 73 τ Γ [(0, AV.i64 a0), (3, AV.sl s.1.length (s.1.map (AV.ik .u8))), (4, AV.i64 s.2)] [⟨u1, none⟩, ⟨u2, none⟩]) ?_ _ _ _ hz_9 ⟨1, 0, (Le.trans (Le.settle 0 [(0, AV.i64 a0), (3, AV.sl ([] : List Int).length (([] : List Int).map (AV.ik .u8))), (4, AV.i64 a0)] rfl rfl rfl ⟨.inl rfl, .inr (Bor.own (f := (AV.ik .u8)) (fun _ => rfl) rfl rfl), .inl rfl, trivial⟩) (Le.of ⟨(ALe.refl _), (ALe.refl _), (ALe.refl _), trivial⟩ ⟨⟨rfl, .inl rfl⟩, ⟨rfl, .inl rfl⟩, trivial⟩))⟩))
    rintro ⟨l3, v4⟩ τ9 Γ9 y9_ ⟨u1, u2, hw9⟩ h9_ ho9 hr9
    refine RunC.le (τ' := [(0, AV.i64 a0), (3, AV.sl l3.length (l3.map (AV.ik .u8))), (4, AV.i64 v4)]) (Γ' := [⟨u1, none⟩, ⟨u2, none⟩]) hw9 ?_
    replace h9_ : s_l01Dec_b7 l3 v4 = some y9_ := h9_
    unfold s_l01Dec_b7 at h9_
    refine RunC.seq ?_
    refine RunC.cutN (fun τ Γ =>  Le 73 τ Γ [(0, AV.i64 a0), (3, AV.sl l3.length (l3.map (AV.ik .u8))), (4, AV.i64 v4)] [⟨u1, none⟩, ⟨u2, none⟩] ∧ s_l01Dec_k5 l3 v4 = some y9_) ?_ ?_
    · refine RunC.seq ?_
      rcases bsel_some h9_ with ⟨hc1, h9_⟩ | ⟨hc1, h9_⟩
      · refine RunC.regionW ?_
        refine ROps.l (r := AV.sl l3.length (l3.map (AV.ik .u8))) rfl rfl rfl (LOp.move rfl rfl) ?_
        refine ROps.l (r := AV.i64 (l3.length : Int)) rfl rfl rfl (LOp.len_sl und63 rfl rfl) ?_
        refine ROps.l (r := AV.b true) rfl rfl rfl (LOp.eqb (LOp.eql rfl rfl rfl) hc1) ?_
        refine ROps.l (r := AV.b true) rfl rfl rfl (LOp.move rfl rfl) ?_
        refine ROps.s rfl rfl rfl ?_
        refine ROps.s rfl rfl rfl ?_
        refine ROps.l (r := AV.b true) rfl rfl rfl (LOp.pick_true rfl rfl rfl) ?_
        refine ROps.nil ?_
        refine RunC.cond_true rfl rfl ?_
        refine RunC.skip ?_
        exact ⟨(Le.of ⟨(ALe.refl _), (ALe.refl _), (ALe.refl _), trivial⟩ ⟨⟨rfl, .inl rfl⟩, ⟨rfl, .inl rfl⟩, trivial⟩), h9_⟩
      · rcases bsel_some h9_ with ⟨hc2, h9_⟩ | ⟨hc2, h9_⟩
        · refine RunC.regionW ?_
          refine ROps.l (r := AV.sl l3.length (l3.map (AV.ik .u8))) rfl rfl rfl (LOp.move rfl rfl) ?_
          refine ROps.l (r := AV.i64 (l3.length : Int)) rfl rfl rfl (LOp.len_sl und63 rfl rfl) ?_
          refine ROps.l (r := AV.b false) rfl rfl rfl (LOp.eqb (LOp.eql rfl rfl rfl) hc1) ?_
          refine ROps.l (r := AV.b false) rfl rfl rfl (LOp.move rfl rfl) ?_
          refine ROps.l (r := AV.i64 v4) rfl rfl rfl (LOp.move rfl rfl) ?_
          refine ROps.l (r := AV.b true) rfl rfl rfl (LOp.eqb (LOp.neq rfl rfl rfl) hc2) ?_
          refine ROps.l (r := AV.b true) rfl rfl rfl (LOp.pick_false rfl rfl rfl) ?_
          refine ROps.nil ?_
          refine RunC.cond_true rfl rfl ?_
          refine RunC.skip ?_
          exact ⟨(Le.of ⟨(ALe.refl _), (ALe.refl _), (ALe.refl _), trivial⟩ ⟨⟨rfl, .inl rfl⟩, ⟨rfl, .inl rfl⟩, trivial⟩), h9_⟩
        · refine RunC.regionW ?_
          refine ROps.l (r := AV.sl l3.length (l3.map (AV.ik .u8))) rfl rfl rfl (LOp.move rfl rfl) ?_
          refine ROps.l (r := AV.i64 (l3.length : Int)) rfl rfl rfl (LOp.len_sl und63 rfl rfl) ?_
          refine ROps.l (r := AV.b false) rfl rfl rfl (LOp.eqb (LOp.eql rfl rfl rfl) hc1) ?_
          refine ROps.l (r := AV.b false) rfl rfl rfl (LOp.move rfl rfl) ?_
          refine ROps.l (r := AV.i64 v4) rfl rfl rfl (LOp.move rfl rfl) ?_
          refine ROps.l (r := AV.b false) rfl rfl rfl (LOp.eqb (LOp.neq rfl rfl rfl) hc2) ?_
          refine ROps.l (r := AV.b false) rfl rfl rfl (LOp.pick_false rfl rfl rfl) ?_
          refine ROps.nil ?_
          refine RunC.cond_false rfl rfl ?_
          refine RunC.exit ?_
          cases Option.some.inj h9_
          have hx := ho9 _ rfl
          exact ⟨l3, u1, u2, (Le.of ⟨(ALe.refl _), (ALe.refl _), trivial⟩ ⟨⟨rfl, .inl rfl⟩, ⟨rfl, .inl rfl⟩, trivial⟩), hx⟩
    · rintro τ10 Γ10 ⟨hw10, h9_⟩
      refine RunC.le (τ' := [(0, AV.i64 a0), (3, AV.sl l3.length (l3.map (AV.ik .u8))), (4, AV.i64 v4)]) (Γ' := [⟨u1, none⟩, ⟨u2, none⟩]) hw10 ?_
      unfold s_l01Dec_k5 at h9_
      refine RunC.block ?_
      refine RunC.seq ?_
      obtain ⟨hz3, h9_⟩ := need_some h9_
      obtain ⟨x5, hx4, h9_⟩ := olet_some h9_
      refine RunC.regionW ?_
      refine ROps.l (r := AV.i64 v4) rfl rfl rfl (LOp.move rfl rfl) ?_
      refine ROps.l (r := AV.i64 x5) rfl rfl rfl (LOp.eqr (LOp.rem rfl rfl rfl (nz hz3)) (congrArg (AV.ik .i64) hx4)) ?_
      refine ROps.l (r := AV.i64 x5) rfl rfl rfl (LOp.assign rfl rfl) ?_
      refine ROps.nil ?_
      refine RunC.seq ?_
      refine RunC.cutN (fun τ Γ => ∃ (v7 : Int), Le 73 τ Γ [(0, AV.i64 a0), (3, AV.sl l3.length (l3.map (AV.ik .u8))), (4, AV.i64 v4), (5, AV.i64 v7)] [⟨u1, none⟩, ⟨u2, none⟩] ∧ s_l01Dec_k6 l3 v4 v7 = some y9_) ?_ ?_
      · refine RunC.seq ?_
        rcases bsel_some h9_ with ⟨hc5, h9_⟩ | ⟨hc5, h9_⟩
        · refine RunC.regionW ?_
          refine ROps.l (r := AV.i64 x5) rfl rfl rfl (LOp.move rfl rfl) ?_
          refine ROps.l (r := AV.b true) rfl rfl rfl (LOp.eqb (LOp.lss rfl rfl rfl) hc5) ?_
          refine ROps.nil ?_
          refine RunC.cond_true rfl rfl ?_
          obtain ⟨x6, hx6, h9_⟩ := olet_some h9_
          refine RunC.regionW ?_
          refine ROps.l (r := AV.i64 x5) rfl rfl rfl (LOp.move rfl rfl) ?_
          refine ROps.l (r := AV.i64 x6) rfl rfl rfl (LOp.eqr (LOp.neg_int rfl rfl) (congrArg (AV.ik .i64) hx6)) ?_
          refine ROps.l (r := AV.i64 x6) rfl rfl rfl (LOp.assign rfl rfl) ?_
          refine ROps.nil ?_
          exact ⟨x6, (Le.of ⟨(ALe.refl _), (ALe.refl _), (ALe.refl _), (ALe.refl _), trivial⟩ ⟨⟨rfl, .inl rfl⟩, ⟨rfl, .inl rfl⟩, trivial⟩), h9_⟩
        · refine RunC.regionW ?_
          refine ROps.l (r := AV.i64 x5) rfl rfl rfl (LOp.move rfl rfl) ?_
          refine ROps.l (r := AV.b false) rfl rfl rfl (LOp.eqb (LOp.lss rfl rfl rfl) hc5) ?_
          refine ROps.nil ?_
          refine RunC.cond_false rfl rfl ?_
          refine RunC.skip ?_
          exact ⟨x5, (Le.of ⟨(ALe.refl _), (ALe.refl _), (ALe.refl _), (ALe.refl _), trivial⟩ ⟨⟨rfl, .inl rfl⟩, ⟨rfl, .inl rfl⟩, trivial⟩), h9_⟩
      · rintro τ11 Γ11 ⟨v7, hw11, h9_⟩
        refine RunC.le (τ' := [(0, AV.i64 a0), (3, AV.sl l3.length (l3.map (AV.ik .u8))), (4, AV.i64 v4), (5, AV.i64 v7)]) (Γ' := [⟨u1, none⟩, ⟨u2, none⟩]) hw11 ?_
        unfold s_l01Dec_k6 at h9_
        refine RunC.seq ?_
        obtain ⟨x8, hx7, h9_⟩ := olet_some h9_
        obtain ⟨x9, hx8, h9_⟩ := olet_some h9_
        obtain ⟨hm9, h9_⟩ := need_some h9_
        refine RunC.regionW ?_
        refine ROps.l (r := AV.i64 v7) rfl rfl rfl (LOp.move rfl rfl) ?_
        refine ROps.l (r := AV.i64 x8) rfl rfl rfl (LOp.eqr (LOp.add rfl rfl rfl) (congrArg (AV.ik .i64) hx7)) ?_
        refine ROps.l (r := AV.ik .u8 x9) rfl rfl rfl (LOp.eqr (LOp.i2i (src := 2) (dst := 5) ⟨_, pun2⟩ pun5 rfl rfl) (congrArg (AV.ik .u8) hx8)) ?_
        refine ROps.d (r := AV.oref 0 (u1 + 1) 0 1) (fs := [(0, (([x9] : List Int).map (AV.ik .u8)))]) (Γ' := [⟨(u1 + 1), some (([x9] : List Int).map (AV.ik .u8))⟩, ⟨u2, none⟩]) rfl rfl rfl (TOp.buildSlice_o (g := ⟨u1, none⟩) (za := AV.ik .u8 0) (qs := [(0, [AV.ik .u8 x9])]) 0 rfl und63 siz5 zer5 rfl zel5 rfl rfl ⟨rfl, ⟨_, ALe.refl _, rfl⟩, trivial⟩ rfl) rfl ?_
        refine ROps.l (r := AV.sl l3.length (l3.map (AV.ik .u8))) rfl rfl rfl (LOp.move rfl rfl) ?_
        refine ROps.app (f := (AV.ik .u8)) (xs := ([x9] : List Int)) (ys := l3) (Γ' := [⟨(u1 + 2), some ((([x9] : List Int) ++ l3).map (AV.ik .u8))⟩, ⟨u2, none⟩]) rfl pun63 inf5 rfl rfl rfl rfl rfl rfl rfl rfl rfl (by simp) (ReadAs.sl (by simp)) (ones_map (fun _ => rfl)) (ap_by hm9) (ap_mx hm9) rfl ?_
        refine ROps.l (r := AV.oref 0 (u1 + 2) 0 (1 + l3.length)) rfl rfl rfl (LOp.assign rfl rfl) ?_
        refine ROps.nil ?_
        obtain ⟨hz10, h9_⟩ := need_some h9_
        obtain ⟨x10, hx11, h9_⟩ := olet_some h9_
        refine RunC.regionW ?_
        refine ROps.l (r := AV.i64 v4) rfl rfl rfl (LOp.move rfl rfl) ?_
        refine ROps.l (r := AV.i64 x10) rfl rfl rfl (LOp.eqr (LOp.quo rfl rfl rfl (nz hz10)) (congrArg (AV.ik .i64) hx11)) ?_
        refine ROps.l (r := AV.i64 x10) rfl rfl rfl (LOp.assign rfl rfl) ?_
        refine ROps.nil ?_
        cases Option.some.inj h9_
        exact ⟨_, rfl, (u1 + 2), u2, (Le.trans (Le.settle 0 [(0, AV.i64 a0), (3, AV.sl (([x9] : List Int) ++ l3).length ((([x9] : List Int) ++ l3).map (AV.ik .u8))), (4, AV.i64 x10)] rfl rfl rfl ⟨.inl rfl, .inr (Bor.own (f := (AV.ik .u8)) (fun _ => rfl) rfl (show (([x9] : List Int) ++ l3).length = (1 + l3.length) from (app_len rfl rfl))), .inl rfl, trivial⟩) (Le.of ⟨(ALe.refl _), (ALe.refl _), (ALe.refl _), trivial⟩ ⟨⟨rfl, .inl rfl⟩, ⟨rfl, .inl rfl⟩, trivial⟩))⟩
  · rintro τ12 Γ12 ⟨l13, u11, u12, hw12, rfl⟩
    refine RunC.le (τ' := [(0, AV.i64 a0), (3, AV.sl l13.length (l13.map (AV.ik .u8)))]) (Γ' := [⟨u11, none⟩, ⟨u12, none⟩]) hw12 ?_
    replace h : s_l01Dec_k7 a0 l13 = some q0 := h
    unfold s_l01Dec_k7 at h
    refine RunC.seq ?_
    refine RunC.cutN (fun τ Γ => ∃ (l15 : List Int) (u14 : Nat), Le 73 τ Γ [(3, AV.sl l15.length (l15.map (AV.ik .u8)))] [⟨u14, none⟩, ⟨u12, none⟩] ∧ s_l01Dec_k8 l15 = some q0) ?_ ?_
    · refine RunC.seq ?_
      rcases bsel_some h with ⟨hc12, h⟩ | ⟨hc12, h⟩
      · refine RunC.regionW ?_
        refine ROps.l (r := AV.i64 a0) rfl rfl rfl (LOp.move rfl rfl) ?_
        refine ROps.l (r := AV.b true) rfl rfl rfl (LOp.eqb (LOp.lss rfl rfl rfl) hc12) ?_
        refine ROps.nil ?_
        refine RunC.cond_true rfl rfl ?_
        obtain ⟨hm13, h⟩ := need_some h
        refine RunC.regionW ?_
        refine ROps.d (r := AV.oref 0 (u11 + 1) 0 1) (fs := [(0, (([45] : List Int).map (AV.ik .u8)))]) (Γ' := [⟨(u11 + 1), some (([45] : List Int).map (AV.ik .u8))⟩, ⟨u12, none⟩]) rfl rfl rfl (TOp.buildSlice_o (g := ⟨u11, none⟩) (za := AV.ik .u8 0) (qs := [(0, [AV.ik .u8 45])]) 0 rfl und63 siz5 zer5 rfl zel5 rfl rfl ⟨rfl, ⟨_, ALe.refl _, rfl⟩, trivial⟩ rfl) rfl ?_
        refine ROps.l (r := AV.sl l13.length (l13.map (AV.ik .u8))) rfl rfl rfl (LOp.move rfl rfl) ?_
        refine ROps.app (f := (AV.ik .u8)) (xs := ([45] : List Int)) (ys := l13) (Γ' := [⟨(u11 + 2), some ((([45] : List Int) ++ l13).map (AV.ik .u8))⟩, ⟨u12, none⟩]) rfl pun63 inf5 rfl rfl rfl rfl rfl rfl rfl rfl rfl (by simp) (ReadAs.sl (by simp)) (ones_map (fun _ => rfl)) (ap_by hm13) (ap_mx hm13) rfl ?_
        refine ROps.l (r := AV.oref 0 (u11 + 2) 0 (1 + l13.length)) rfl rfl rfl (LOp.assign rfl rfl) ?_
        refine ROps.nil ?_
        exact ⟨(([45] : List Int) ++ l13), (u11 + 2), (Le.trans (Le.settle 0 [(3, AV.sl (([45] : List Int) ++ l13).length ((([45] : List Int) ++ l13).map (AV.ik .u8)))] rfl rfl rfl ⟨.inr (Bor.own (f := (AV.ik .u8)) (fun _ => rfl) rfl (show (([45] : List Int) ++ l13).length = (1 + l13.length) from (app_len rfl rfl))), trivial⟩) (Le.of ⟨(ALe.refl _), trivial⟩ ⟨⟨rfl, .inl rfl⟩, ⟨rfl, .inl rfl⟩, trivial⟩)), h⟩
      · refine RunC.regionW ?_
        refine ROps.l (r := AV.i64 a0) rfl rfl rfl (LOp.move rfl rfl) ?_
        refine ROps.l (r := AV.b false) rfl rfl rfl (LOp.eqb (LOp.lss rfl rfl rfl) hc12) ?_
        refine ROps.nil ?_
        refine RunC.cond_false rfl rfl ?_
        refine RunC.skip ?_
        exact ⟨l13, u11, (Le.of ⟨(ALe.refl _), trivial⟩ ⟨⟨rfl, .inl rfl⟩, ⟨rfl, .inl rfl⟩, trivial⟩), h⟩
    · rintro τ13 Γ13 ⟨l15, u14, hw13, h⟩
      refine RunC.le (τ' := [(3, AV.sl l15.length (l15.map (AV.ik .u8)))]) (Γ' := [⟨u14, none⟩, ⟨u12, none⟩]) hw13 ?_
      unfold s_l01Dec_k8 at h
      refine RunC.seq ?_
      refine RunC.regionW ?_
      refine ROps.l (r := AV.sl l15.length (l15.map (AV.ik .u8))) rfl rfl rfl (LOp.move rfl rfl) ?_
      refine ROps.d (r := AV.str (strOfNums l15)) (fs := []) (Γ' := [⟨u14, none⟩, ⟨u12, none⟩]) rfl rfl rfl (TOp.b2s (xs := l15) pun63 pun5 pun9 rfl (fun _ _ => ReadAs.sl (by simp))) rfl ?_
      refine ROps.l (r := AV.str (strOfNums l15)) rfl rfl rfl (LOp.assign rfl rfl) ?_
      refine ROps.nil ?_
      refine RunC.ret ?_
      have hq := Option.some.inj h
      subst q0
      exact bodyQ.pure (.inr rfl) rfl (Res.one rfl (RV.tmp rfl))
noncomputable def s_l01Value_k2 (v2 : Int) (v10 : Int) : Option (LR (Int × Int) (Int) (Int × Bool)) :=
  olet (IntKind.i64.wrap (v2 + 1)) fun (x11 : Int) =>
  some (LR.next (v10, x11))
noncomputable def s_l01Value_b3 (a0 : ByteArray) (v1 : Int) (v2 : Int) : Option (LR (Int × Int) (Int) (Int × Bool)) :=
  bsel (decide (v2 < (a0.size : Int))) (
    obind (sat? a0 v2) fun (e3 : Int) =>
    bsel (decide (48 ≤ e3)) (
      obind (sat? a0 v2) fun (e4 : Int) =>
      bsel (decide (e4 ≤ 57)) (
        olet (IntKind.i64.wrap (10 * v1)) fun (x5 : Int) =>
        obind (sat? a0 v2) fun (e6 : Int) =>
        olet (IntKind.u8.wrap (e6 - 48)) fun (x7 : Int) =>
        olet (IntKind.i64.wrap x7) fun (x8 : Int) =>
        olet (IntKind.i64.wrap (x5 + x8)) fun (x9 : Int) =>
        s_l01Value_k2 v2 x9) (
        s_l01Value_k2 v2 v1)) (
      s_l01Value_k2 v2 v1)) (
    some (LR.out v1))
noncomputable def s_l01Value_s3 (a0 : ByteArray) : (Int × Int) → Option (LR (Int × Int) (Int) (Int × Bool)) := fun s => s_l01Value_b3 a0 s.1 s.2
noncomputable def s_l01Value_k4 (a0 : ByteArray) (v15 : Int) : Option (Int × Bool) :=
  obind (s_l00In v15 (-1000000000000000) 1000000000000000) fun (r16 : Bool) =>
  bsel r16 (
    obind (s_l01Dec v15) fun (r17 : ByteArray) =>
    bsel (!eqs r17 a0) (
      some (0, false)) (
      some (v15, true))) (
    some (0, false))
noncomputable def s_l01Value_k3 (a0 : ByteArray) (v12 : Int) : Option (Int × Bool) :=
  obind (sat? a0 0) fun (e13 : Int) =>
  bsel (decide (e13 = 45)) (
    olet (IntKind.i64.wrap (0 - v12)) fun (x14 : Int) =>
    s_l01Value_k4 a0 x14) (
    s_l01Value_k4 a0 v12)
noncomputable def s_l01Value (a0 : ByteArray) : Option (Int × Bool) :=
  bsel (decide ((a0.size : Int) < 1)) (
    some (0, false)) (
    bsel (decide (17 < (a0.size : Int))) (
      some (0, false)) (
      obind (loopM (s_l01Value_s3 a0) (0, 0)) fun z => osum z (fun e => s_l01Value_k3 a0 e) (fun r => some r)))
theorem s_l01Value_ok (a0 : ByteArray) (q0 : Int) (q1 : Bool) (h : s_l01Value a0 = some (q0, q1)) : Ev Tryd.prog 24 [AV.str a0] [] (AV.tup [AV.i64 q0, AV.b q1]) [] := by
  refine Ev.start Tryd.func24 rfl rfl 0 (τ := [(0, AV.str a0)]) rfl (Γ' := []) rfl (n := 107) rfl (g := 0) rfl (fun _ => rfl) ?_
  unfold s_l01Value at h
  refine RunC.seq ?_
  refine RunC.regionW ?_
  refine ROps.l (r := AV.i64 0) rfl rfl rfl (LOp.assign rfl rfl) ?_
  refine ROps.l (r := AV.b false) rfl rfl rfl (LOp.assign rfl rfl) ?_
  refine ROps.nil ?_
  refine RunC.seq ?_
  refine RunC.seq ?_
  rcases bsel_some h with ⟨hc1, h⟩ | ⟨hc1, h⟩
  · refine RunC.regionW ?_
    refine ROps.l (r := AV.str a0) rfl rfl rfl (LOp.move rfl rfl) ?_
    refine ROps.l (r := AV.i64 (a0.size : Int)) rfl rfl rfl (LOp.len_str und9 rfl rfl) ?_
    refine ROps.l (r := AV.b true) rfl rfl rfl (LOp.eqb (LOp.lss rfl rfl rfl) hc1) ?_
    refine ROps.l (r := AV.b true) rfl rfl rfl (LOp.move rfl rfl) ?_
    refine ROps.s rfl rfl rfl ?_
    refine ROps.s rfl rfl rfl ?_
    refine ROps.s rfl rfl rfl ?_
    refine ROps.l (r := AV.b true) rfl rfl rfl (LOp.pick_true rfl rfl rfl) ?_
    refine ROps.nil ?_
    refine RunC.cond_true rfl rfl ?_
    refine RunC.seq ?_
    refine RunC.regionW ?_
    refine ROps.l (r := AV.i64 0) rfl rfl rfl (LOp.assign rfl rfl) ?_
    refine ROps.l (r := AV.b false) rfl rfl rfl (LOp.assign rfl rfl) ?_
    refine ROps.nil ?_
    refine RunC.ret ?_
    have hq := Option.some.inj h
    obtain ⟨hq0, hq⟩ := Prod.mk.inj hq
    subst q0
    subst q1
    exact bodyQ.pure (.inr rfl) rfl (Res.two rfl (RV.tmp rfl) (RV.tmp rfl))
  · rcases bsel_some h with ⟨hc2, h⟩ | ⟨hc2, h⟩
    · refine RunC.regionW ?_
      refine ROps.l (r := AV.str a0) rfl rfl rfl (LOp.move rfl rfl) ?_
      refine ROps.l (r := AV.i64 (a0.size : Int)) rfl rfl rfl (LOp.len_str und9 rfl rfl) ?_
      refine ROps.l (r := AV.b false) rfl rfl rfl (LOp.eqb (LOp.lss rfl rfl rfl) hc1) ?_
      refine ROps.l (r := AV.b false) rfl rfl rfl (LOp.move rfl rfl) ?_
      refine ROps.l (r := AV.str a0) rfl rfl rfl (LOp.move rfl rfl) ?_
      refine ROps.l (r := AV.i64 (a0.size : Int)) rfl rfl rfl (LOp.len_str und9 rfl rfl) ?_
      refine ROps.l (r := AV.b true) rfl rfl rfl (LOp.eqb (LOp.gtr rfl rfl rfl) hc2) ?_
      refine ROps.l (r := AV.b true) rfl rfl rfl (LOp.pick_false rfl rfl rfl) ?_
      refine ROps.nil ?_
      refine RunC.cond_true rfl rfl ?_
      refine RunC.seq ?_
      refine RunC.regionW ?_
      refine ROps.l (r := AV.i64 0) rfl rfl rfl (LOp.assign rfl rfl) ?_
      refine ROps.l (r := AV.b false) rfl rfl rfl (LOp.assign rfl rfl) ?_
      refine ROps.nil ?_
      refine RunC.ret ?_
      have hq := Option.some.inj h
      obtain ⟨hq0, hq⟩ := Prod.mk.inj hq
      subst q0
      subst q1
      exact bodyQ.pure (.inr rfl) rfl (Res.two rfl (RV.tmp rfl) (RV.tmp rfl))
    · refine RunC.regionW ?_
      refine ROps.l (r := AV.str a0) rfl rfl rfl (LOp.move rfl rfl) ?_
      refine ROps.l (r := AV.i64 (a0.size : Int)) rfl rfl rfl (LOp.len_str und9 rfl rfl) ?_
      refine ROps.l (r := AV.b false) rfl rfl rfl (LOp.eqb (LOp.lss rfl rfl rfl) hc1) ?_
      refine ROps.l (r := AV.b false) rfl rfl rfl (LOp.move rfl rfl) ?_
      refine ROps.l (r := AV.str a0) rfl rfl rfl (LOp.move rfl rfl) ?_
      refine ROps.l (r := AV.i64 (a0.size : Int)) rfl rfl rfl (LOp.len_str und9 rfl rfl) ?_
      refine ROps.l (r := AV.b false) rfl rfl rfl (LOp.eqb (LOp.gtr rfl rfl rfl) hc2) ?_
      refine ROps.l (r := AV.b false) rfl rfl rfl (LOp.pick_false rfl rfl rfl) ?_
      refine ROps.nil ?_
      refine RunC.cond_false rfl rfl ?_
      refine RunC.skip ?_
      refine RunC.seq ?_
      refine RunC.regionW ?_
      refine ROps.l (r := AV.i64 0) rfl rfl rfl (LOp.assign rfl rfl) ?_
      refine ROps.nil ?_
      refine RunC.seq ?_
      refine RunC.seq ?_
      refine RunC.regionW ?_
      refine ROps.l (r := AV.i64 0) rfl rfl rfl (LOp.assign rfl rfl) ?_
      refine ROps.nil ?_
      obtain ⟨z5, hz_5, h⟩ := obind_some h
      refine RunC.cutN (fun τ Γ => ∃ (v12 : Int), WeakLe τ [(0, AV.str a0), (4, AV.i64 v12)] ∧ DeadLe Γ [] ∧ z5 = .inl v12) ?_ ?_
      · refine RunC.block (RunC.loop (RunL.loopM (x := z5) (s_l01Value_s3 a0) (fun (s : Int × Int) τ Γ => WeakLe τ [(0, AV.str a0), (4, AV.i64 s.1), (5, AV.i64 s.2)] ∧ DeadLe Γ []) ?_ _ _ _ hz_5 ⟨⟨(ALe.refl _), (ALe.refl _), (ALe.refl _), trivial⟩, trivial⟩))
        rintro ⟨v1, v2⟩ τ5 Γ5 y5_ ⟨hw5, hd5⟩ h5_ ho5 hr5
        refine RunC.wl (τ' := [(0, AV.str a0), (4, AV.i64 v1), (5, AV.i64 v2)]) (Γ' := []) hw5 hd5 ?_
        replace h5_ : s_l01Value_b3 a0 v1 v2 = some y5_ := h5_
        unfold s_l01Value_b3 at h5_
        refine RunC.seq ?_
        refine RunC.seq ?_
        rcases bsel_some h5_ with ⟨hc3, h5_⟩ | ⟨hc3, h5_⟩
        · refine RunC.regionW ?_
          refine ROps.l (r := AV.i64 v2) rfl rfl rfl (LOp.move rfl rfl) ?_
          refine ROps.l (r := AV.str a0) rfl rfl rfl (LOp.move rfl rfl) ?_
          refine ROps.l (r := AV.i64 (a0.size : Int)) rfl rfl rfl (LOp.len_str und9 rfl rfl) ?_
          refine ROps.l (r := AV.b true) rfl rfl rfl (LOp.eqb (LOp.lss rfl rfl rfl) hc3) ?_
          refine ROps.nil ?_
          refine RunC.cond_true rfl rfl ?_
          refine RunC.skip ?_
          refine RunC.seq ?_
          refine RunC.cutN (fun τ Γ => ∃ (v10 : Int), WeakLe τ [(0, AV.str a0), (4, AV.i64 v10), (5, AV.i64 v2)] ∧ DeadLe Γ [] ∧ s_l01Value_k2 v2 v10 = some y5_) ?_ ?_
          · refine RunC.block ?_
            refine RunC.seq ?_
            obtain ⟨e3, he4, h5_⟩ := obind_some h5_
            rcases bsel_some h5_ with ⟨hc5, h5_⟩ | ⟨hc5, h5_⟩
            · obtain ⟨e4, he6, h5_⟩ := obind_some h5_
              rcases bsel_some h5_ with ⟨hc7, h5_⟩ | ⟨hc7, h5_⟩
              · refine RunC.regionW ?_
                refine ROps.l (r := AV.str a0) rfl rfl rfl (LOp.move rfl rfl) ?_
                refine ROps.l (r := AV.i64 v2) rfl rfl rfl (LOp.move rfl rfl) ?_
                refine ROps.l (r := AV.ik .u8 e3) rfl rfl rfl (LOp.index_str und9 rfl rfl rfl he4) ?_
                refine ROps.l (r := AV.b true) rfl rfl rfl (LOp.eqb (LOp.geq rfl rfl rfl) hc5) ?_
                refine ROps.l (r := AV.b true) rfl rfl rfl (LOp.move rfl rfl) ?_
                refine ROps.l (r := AV.str a0) rfl rfl rfl (LOp.move rfl rfl) ?_
                refine ROps.l (r := AV.i64 v2) rfl rfl rfl (LOp.move rfl rfl) ?_
                refine ROps.l (r := AV.ik .u8 e4) rfl rfl rfl (LOp.index_str und9 rfl rfl rfl he6) ?_
                refine ROps.l (r := AV.b true) rfl rfl rfl (LOp.eqb (LOp.leq rfl rfl rfl) hc7) ?_
                refine ROps.l (r := AV.b true) rfl rfl rfl (LOp.pick_true rfl rfl rfl) ?_
                refine ROps.nil ?_
                refine RunC.cond_true rfl rfl ?_
                obtain ⟨x5, hx8, h5_⟩ := olet_some h5_
                obtain ⟨e6, he9, h5_⟩ := obind_some h5_
                obtain ⟨x7, hx10, h5_⟩ := olet_some h5_
                obtain ⟨x8, hx11, h5_⟩ := olet_some h5_
                obtain ⟨x9, hx12, h5_⟩ := olet_some h5_
                refine RunC.regionW ?_
                refine ROps.l (r := AV.i64 v1) rfl rfl rfl (LOp.move rfl rfl) ?_
                refine ROps.l (r := AV.i64 x5) rfl rfl rfl (LOp.eqr (LOp.mul rfl rfl rfl) (congrArg (AV.ik .i64) hx8)) ?_
                refine ROps.l (r := AV.str a0) rfl rfl rfl (LOp.move rfl rfl) ?_
                refine ROps.l (r := AV.i64 v2) rfl rfl rfl (LOp.move rfl rfl) ?_
                refine ROps.l (r := AV.ik .u8 e6) rfl rfl rfl (LOp.index_str und9 rfl rfl rfl he9) ?_
                refine ROps.l (r := AV.ik .u8 x7) rfl rfl rfl (LOp.eqr (LOp.sub rfl rfl rfl) (congrArg (AV.ik .u8) hx10)) ?_
                refine ROps.l (r := AV.i64 x8) rfl rfl rfl (LOp.eqr (LOp.i2i (src := 5) (dst := 2) ⟨_, pun5⟩ pun2 rfl rfl) (congrArg (AV.ik .i64) hx11)) ?_
                refine ROps.l (r := AV.i64 x9) rfl rfl rfl (LOp.eqr (LOp.add rfl rfl rfl) (congrArg (AV.ik .i64) hx12)) ?_
                refine ROps.l (r := AV.i64 x9) rfl rfl rfl (LOp.assign rfl rfl) ?_
                refine ROps.nil ?_
                exact ⟨x9, ⟨(ALe.refl _), (ALe.refl _), (ALe.refl _), trivial⟩, trivial, h5_⟩
              · refine RunC.regionW ?_
                refine ROps.l (r := AV.str a0) rfl rfl rfl (LOp.move rfl rfl) ?_
                refine ROps.l (r := AV.i64 v2) rfl rfl rfl (LOp.move rfl rfl) ?_
                refine ROps.l (r := AV.ik .u8 e3) rfl rfl rfl (LOp.index_str und9 rfl rfl rfl he4) ?_
                refine ROps.l (r := AV.b true) rfl rfl rfl (LOp.eqb (LOp.geq rfl rfl rfl) hc5) ?_
                refine ROps.l (r := AV.b true) rfl rfl rfl (LOp.move rfl rfl) ?_
                refine ROps.l (r := AV.str a0) rfl rfl rfl (LOp.move rfl rfl) ?_
                refine ROps.l (r := AV.i64 v2) rfl rfl rfl (LOp.move rfl rfl) ?_
                refine ROps.l (r := AV.ik .u8 e4) rfl rfl rfl (LOp.index_str und9 rfl rfl rfl he6) ?_
                refine ROps.l (r := AV.b false) rfl rfl rfl (LOp.eqb (LOp.leq rfl rfl rfl) hc7) ?_
                refine ROps.l (r := AV.b false) rfl rfl rfl (LOp.pick_true rfl rfl rfl) ?_
                refine ROps.nil ?_
                refine RunC.cond_false rfl rfl ?_
                refine RunC.skip ?_
                exact ⟨v1, ⟨(ALe.refl _), (ALe.refl _), (ALe.refl _), trivial⟩, trivial, h5_⟩
            · refine RunC.regionW ?_
              refine ROps.l (r := AV.str a0) rfl rfl rfl (LOp.move rfl rfl) ?_
              refine ROps.l (r := AV.i64 v2) rfl rfl rfl (LOp.move rfl rfl) ?_
              refine ROps.l (r := AV.ik .u8 e3) rfl rfl rfl (LOp.index_str und9 rfl rfl rfl he4) ?_
              refine ROps.l (r := AV.b false) rfl rfl rfl (LOp.eqb (LOp.geq rfl rfl rfl) hc5) ?_
              refine ROps.l (r := AV.b false) rfl rfl rfl (LOp.move rfl rfl) ?_
              refine ROps.s rfl rfl rfl ?_
              refine ROps.s rfl rfl rfl ?_
              refine ROps.s rfl rfl rfl ?_
              refine ROps.s rfl rfl rfl ?_
              refine ROps.l (r := AV.b false) rfl rfl rfl (LOp.pick_false rfl rfl rfl) ?_
              refine ROps.nil ?_
              refine RunC.cond_false rfl rfl ?_
              refine RunC.skip ?_
              exact ⟨v1, ⟨(ALe.refl _), (ALe.refl _), (ALe.refl _), trivial⟩, trivial, h5_⟩
          · rintro τ6 Γ6 ⟨v10, hw6, hd6, h5_⟩
            refine RunC.wl (τ' := [(0, AV.str a0), (4, AV.i64 v10), (5, AV.i64 v2)]) (Γ' := []) hw6 hd6 ?_
            unfold s_l01Value_k2 at h5_
            obtain ⟨x11, hx13, h5_⟩ := olet_some h5_
            refine RunC.regionW ?_
            refine ROps.l (r := AV.i64 v2) rfl rfl rfl (LOp.move rfl rfl) ?_
            refine ROps.l (r := AV.i64 x11) rfl rfl rfl (LOp.eqr (LOp.add rfl rfl rfl) (congrArg (AV.ik .i64) hx13)) ?_
            refine ROps.l (r := AV.i64 x11) rfl rfl rfl (LOp.assign rfl rfl) ?_
            refine ROps.nil ?_
            cases Option.some.inj h5_
            exact ⟨_, rfl, ⟨(ALe.refl _), (ALe.refl _), (ALe.refl _), trivial⟩, trivial⟩
        · refine RunC.regionW ?_
          refine ROps.l (r := AV.i64 v2) rfl rfl rfl (LOp.move rfl rfl) ?_
          refine ROps.l (r := AV.str a0) rfl rfl rfl (LOp.move rfl rfl) ?_
          refine ROps.l (r := AV.i64 (a0.size : Int)) rfl rfl rfl (LOp.len_str und9 rfl rfl) ?_
          refine ROps.l (r := AV.b false) rfl rfl rfl (LOp.eqb (LOp.lss rfl rfl rfl) hc3) ?_
          refine ROps.nil ?_
          refine RunC.cond_false rfl rfl ?_
          refine RunC.exit ?_
          cases Option.some.inj h5_
          have hx := ho5 _ rfl
          exact ⟨v1, ⟨(ALe.refl _), (ALe.refl _), trivial⟩, trivial, hx⟩
      · rintro τ7 Γ7 ⟨v12, hw7, hd7, rfl⟩
        refine RunC.wl (τ' := [(0, AV.str a0), (4, AV.i64 v12)]) (Γ' := []) hw7 hd7 ?_
        replace h : s_l01Value_k3 a0 v12 = some (q0, q1) := h
        unfold s_l01Value_k3 at h
        refine RunC.seq ?_
        refine RunC.cutN (fun τ Γ => ∃ (v15 : Int), WeakLe τ [(0, AV.str a0), (4, AV.i64 v15)] ∧ DeadLe Γ [] ∧ s_l01Value_k4 a0 v15 = some (q0, q1)) ?_ ?_
        · refine RunC.seq ?_
          obtain ⟨e13, he14, h⟩ := obind_some h
          rcases bsel_some h with ⟨hc15, h⟩ | ⟨hc15, h⟩
          · refine RunC.regionW ?_
            refine ROps.l (r := AV.str a0) rfl rfl rfl (LOp.move rfl rfl) ?_
            refine ROps.l (r := AV.ik .u8 e13) rfl rfl rfl (LOp.index_str und9 rfl rfl rfl he14) ?_
            refine ROps.l (r := AV.b true) rfl rfl rfl (LOp.eqb (LOp.eql rfl rfl rfl) hc15) ?_
            refine ROps.nil ?_
            refine RunC.cond_true rfl rfl ?_
            obtain ⟨x14, hx16, h⟩ := olet_some h
            refine RunC.regionW ?_
            refine ROps.l (r := AV.i64 v12) rfl rfl rfl (LOp.move rfl rfl) ?_
            refine ROps.l (r := AV.i64 x14) rfl rfl rfl (LOp.eqr (LOp.neg_int rfl rfl) (congrArg (AV.ik .i64) hx16)) ?_
            refine ROps.l (r := AV.i64 x14) rfl rfl rfl (LOp.assign rfl rfl) ?_
            refine ROps.nil ?_
            exact ⟨x14, ⟨(ALe.refl _), (ALe.refl _), trivial⟩, trivial, h⟩
          · refine RunC.regionW ?_
            refine ROps.l (r := AV.str a0) rfl rfl rfl (LOp.move rfl rfl) ?_
            refine ROps.l (r := AV.ik .u8 e13) rfl rfl rfl (LOp.index_str und9 rfl rfl rfl he14) ?_
            refine ROps.l (r := AV.b false) rfl rfl rfl (LOp.eqb (LOp.eql rfl rfl rfl) hc15) ?_
            refine ROps.nil ?_
            refine RunC.cond_false rfl rfl ?_
            refine RunC.skip ?_
            exact ⟨v12, ⟨(ALe.refl _), (ALe.refl _), trivial⟩, trivial, h⟩
        · rintro τ8 Γ8 ⟨v15, hw8, hd8, h⟩
          refine RunC.wl (τ' := [(0, AV.str a0), (4, AV.i64 v15)]) (Γ' := []) hw8 hd8 ?_
          unfold s_l01Value_k4 at h
          refine RunC.seq ?_
          refine RunC.seq ?_
          obtain ⟨r16, hf17, h⟩ := obind_some h
          rcases bsel_some h with ⟨hc18, h⟩ | ⟨hc18, h⟩
          · obtain ⟨r17, hf19, h⟩ := obind_some h
            rcases bsel_some h with ⟨hc20, h⟩ | ⟨hc20, h⟩
            · refine RunC.regionW ?_
              refine ROps.l (r := AV.i64 v15) rfl rfl rfl (LOp.move rfl rfl) ?_
              refine ROps.d (r := AV.b true) (fs := []) (Γ' := []) rfl rfl rfl (TOp.eqb (TOp.callB (CallAs.func ent32 rfl rfl) (Bors.cons (Bor.pure rfl) (Bors.cons (Bor.pure rfl) (Bors.cons (Bor.pure rfl) Bors.nil))) rfl rfl (s_l00In_ok v15 (-1000000000000000) 1000000000000000 r16 hf17)) hc18) rfl ?_
              refine ROps.l (r := AV.b false) rfl rfl rfl (LOp.eqb (LOp.not rfl rfl) rfl) ?_
              refine ROps.l (r := AV.b false) rfl rfl rfl (LOp.move rfl rfl) ?_
              refine ROps.l (r := AV.i64 v15) rfl rfl rfl (LOp.move rfl rfl) ?_
              refine ROps.d (r := AV.str r17) (fs := []) (Γ' := []) rfl rfl rfl (TOp.callB (CallAs.func ent33 rfl rfl) (Bors.cons (Bor.pure rfl) Bors.nil) rfl rfl (s_l01Dec_ok v15 r17 hf19)) rfl ?_
              refine ROps.l (r := AV.str a0) rfl rfl rfl (LOp.move rfl rfl) ?_
              refine ROps.l (r := AV.b true) rfl rfl rfl (LOp.eqb (LOp.neqs rfl rfl rfl) hc20) ?_
              refine ROps.l (r := AV.b true) rfl rfl rfl (LOp.pick_false rfl rfl rfl) ?_
              refine ROps.nil ?_
              refine RunC.cond_true rfl rfl ?_
              refine RunC.seq ?_
              refine RunC.regionW ?_
              refine ROps.l (r := AV.i64 0) rfl rfl rfl (LOp.assign rfl rfl) ?_
              refine ROps.l (r := AV.b false) rfl rfl rfl (LOp.assign rfl rfl) ?_
              refine ROps.nil ?_
              refine RunC.ret ?_
              have hq := Option.some.inj h
              obtain ⟨hq0, hq⟩ := Prod.mk.inj hq
              subst q0
              subst q1
              exact bodyQ.pure (.inr rfl) rfl (Res.two rfl (RV.tmp rfl) (RV.tmp rfl))
            · refine RunC.regionW ?_
              refine ROps.l (r := AV.i64 v15) rfl rfl rfl (LOp.move rfl rfl) ?_
              refine ROps.d (r := AV.b true) (fs := []) (Γ' := []) rfl rfl rfl (TOp.eqb (TOp.callB (CallAs.func ent32 rfl rfl) (Bors.cons (Bor.pure rfl) (Bors.cons (Bor.pure rfl) (Bors.cons (Bor.pure rfl) Bors.nil))) rfl rfl (s_l00In_ok v15 (-1000000000000000) 1000000000000000 r16 hf17)) hc18) rfl ?_
              refine ROps.l (r := AV.b false) rfl rfl rfl (LOp.eqb (LOp.not rfl rfl) rfl) ?_
              refine ROps.l (r := AV.b false) rfl rfl rfl (LOp.move rfl rfl) ?_
              refine ROps.l (r := AV.i64 v15) rfl rfl rfl (LOp.move rfl rfl) ?_
              refine ROps.d (r := AV.str r17) (fs := []) (Γ' := []) rfl rfl rfl (TOp.callB (CallAs.func ent33 rfl rfl) (Bors.cons (Bor.pure rfl) Bors.nil) rfl rfl (s_l01Dec_ok v15 r17 hf19)) rfl ?_
              refine ROps.l (r := AV.str a0) rfl rfl rfl (LOp.move rfl rfl) ?_
              refine ROps.l (r := AV.b false) rfl rfl rfl (LOp.eqb (LOp.neqs rfl rfl rfl) hc20) ?_
              refine ROps.l (r := AV.b false) rfl rfl rfl (LOp.pick_false rfl rfl rfl) ?_
              refine ROps.nil ?_
              refine RunC.cond_false rfl rfl ?_
              refine RunC.skip ?_
              refine RunC.seq ?_
              refine RunC.regionW ?_
              refine ROps.l (r := AV.i64 v15) rfl rfl rfl (LOp.move rfl rfl) ?_
              refine ROps.l (r := AV.i64 v15) rfl rfl rfl (LOp.assign rfl rfl) ?_
              refine ROps.l (r := AV.b true) rfl rfl rfl (LOp.assign rfl rfl) ?_
              refine ROps.nil ?_
              refine RunC.ret ?_
              have hq := Option.some.inj h
              obtain ⟨hq0, hq⟩ := Prod.mk.inj hq
              subst q0
              subst q1
              exact bodyQ.pure (.inr rfl) rfl (Res.two rfl (RV.tmp rfl) (RV.tmp rfl))
          · refine RunC.regionW ?_
            refine ROps.l (r := AV.i64 v15) rfl rfl rfl (LOp.move rfl rfl) ?_
            refine ROps.d (r := AV.b false) (fs := []) (Γ' := []) rfl rfl rfl (TOp.eqb (TOp.callB (CallAs.func ent32 rfl rfl) (Bors.cons (Bor.pure rfl) (Bors.cons (Bor.pure rfl) (Bors.cons (Bor.pure rfl) Bors.nil))) rfl rfl (s_l00In_ok v15 (-1000000000000000) 1000000000000000 r16 hf17)) hc18) rfl ?_
            refine ROps.l (r := AV.b true) rfl rfl rfl (LOp.eqb (LOp.not rfl rfl) rfl) ?_
            refine ROps.l (r := AV.b true) rfl rfl rfl (LOp.move rfl rfl) ?_
            refine ROps.s rfl rfl rfl ?_
            refine ROps.s rfl rfl rfl ?_
            refine ROps.s rfl rfl rfl ?_
            refine ROps.s rfl rfl rfl ?_
            refine ROps.l (r := AV.b true) rfl rfl rfl (LOp.pick_true rfl rfl rfl) ?_
            refine ROps.nil ?_
            refine RunC.cond_true rfl rfl ?_
            refine RunC.seq ?_
            refine RunC.regionW ?_
            refine ROps.l (r := AV.i64 0) rfl rfl rfl (LOp.assign rfl rfl) ?_
            refine ROps.l (r := AV.b false) rfl rfl rfl (LOp.assign rfl rfl) ?_
            refine ROps.nil ?_
            refine RunC.ret ?_
            have hq := Option.some.inj h
            obtain ⟨hq0, hq⟩ := Prod.mk.inj hq
            subst q0
            subst q1
            exact bodyQ.pure (.inr rfl) rfl (Res.two rfl (RV.tmp rfl) (RV.tmp rfl))
noncomputable def s_l01Numbers_b1 (r1 : List ByteArray) (L4 : List Int) (v5 : Int) : Option (LR ((List Int) × Int) ((List Int)) (Bool × (List Int))) :=
  bsel (decide (v5 < ((r1.length : Nat) : Int))) (
    obind (at? r1 v5) fun (e6 : ByteArray) =>
    obind2 (s_l01Value e6) fun (r7 : Int) (r8 : Bool) =>
    bsel r8 (
      need (apok 8 L4.length 1) <|
      olet (IntKind.i64.wrap (v5 + 1)) fun (x9 : Int) =>
      some (LR.next ((L4 ++ ([r7] : List Int)), x9))) (
      some (LR.ret (false, ([] : List Int))))) (
    some (LR.out L4))
noncomputable def s_l01Numbers_s1 (r1 : List ByteArray) : ((List Int) × Int) → Option (LR ((List Int) × Int) ((List Int)) (Bool × (List Int))) := fun s => s_l01Numbers_b1 r1 s.1 s.2
noncomputable def s_l01Numbers_k1 (L12 : List Int) : Option (Bool × (List Int)) :=
  some (true, L12)
noncomputable def s_l01Numbers (a0 : ByteArray) : Option (Bool × (List Int)) :=
  bsel (eqs a0 lit_5ac87db9) (
    some (true, ([] : List Int))) (
    obind (s_l01Cut a0 44) fun (r1 : List ByteArray) =>
    bsel (decide (64 < ((r1.length : Nat) : Int))) (
      some (false, ([] : List Int))) (
      obind (loopM (s_l01Numbers_s1 r1) (([] : List Int), 0)) fun z => osum z (fun e => s_l01Numbers_k1 e) (fun r => some r)))
theorem s_l01Numbers_ok (a0 : ByteArray) (q0 : Bool) (q1 : List Int) (h : s_l01Numbers a0 = some (q0, q1)) : Ev Tryd.prog 17 [AV.str a0] [] (AV.tup [AV.oref 0 0 0 q1.length, AV.b q0]) [⟨0, some (q1.map AV.i64)⟩] := by
  refine Ev.start Tryd.func17 rfl rfl 3 (τ := [(0, AV.str a0)]) rfl (Γ' := [⟨0, none⟩, ⟨0, none⟩, ⟨0, none⟩]) rfl (n := 79) rfl (g := 0) rfl (fun _ => rfl) ?_
  unfold s_l01Numbers at h
  refine RunC.seq ?_
  refine RunC.regionW ?_
  refine ROps.l (r := AV.nilsl) rfl rfl rfl (LOp.assign rfl rfl) ?_
  refine ROps.l (r := AV.b false) rfl rfl rfl (LOp.assign rfl rfl) ?_
  refine ROps.nil ?_
  refine RunC.seq ?_
  refine RunC.regionW ?_
  refine ROps.d (r := AV.oref 0 1 0 0) (fs := [(0, (([] : List Int).map AV.i64))]) (Γ' := [⟨1, some (([] : List Int).map AV.i64)⟩, ⟨0, none⟩, ⟨0, none⟩]) rfl rfl rfl (TOp.buildSlice_o (g := ⟨0, none⟩) (za := AV.i64 0) (qs := []) 0 rfl und22 siz2 zer2 rfl zel2 rfl rfl trivial rfl) rfl ?_
  refine ROps.l (r := AV.oref 0 1 0 0) rfl rfl rfl (LOp.assign rfl rfl) ?_
  refine ROps.nil ?_
  refine RunC.seq ?_
  refine RunC.seq ?_
  rcases bsel_some h with ⟨hc1, h⟩ | ⟨hc1, h⟩
  · refine RunC.regionW ?_
    refine ROps.l (r := AV.str a0) rfl rfl rfl (LOp.move rfl rfl) ?_
    refine ROps.l (r := AV.b true) rfl rfl rfl (LOp.eqb (LOp.eqs rfl rfl rfl) hc1) ?_
    refine ROps.nil ?_
    refine RunC.cond_true rfl rfl ?_
    refine RunC.seq ?_
    refine RunC.regionW ?_
    refine ROps.l (r := AV.oref 0 1 0 0) rfl rfl rfl (LOp.move rfl rfl) ?_
    refine ROps.l (r := AV.oref 0 1 0 0) rfl rfl rfl (LOp.assign rfl rfl) ?_
    refine ROps.l (r := AV.b true) rfl rfl rfl (LOp.assign rfl rfl) ?_
    refine ROps.nil ?_
    refine RunC.ret ?_
    have hq := Option.some.inj h
    obtain ⟨hq0, hq⟩ := Prod.mk.inj hq
    subst q0
    subst q1
    exact bodyQ.mk (r' := AV.tup [AV.oref 0 1 0 (([] : List Int).length), AV.b true]) [(0, 1)] (.inr rfl) rfl (show List.Nodup [0] from by decide) rfl rfl (Res.eq (Res.two rfl (RV.tmp rfl) (RV.tmp rfl)) (by rw [(show ([] : List Int).length = 0 from rfl)] <;> rfl)) (SelL.arr0 (f := AV.i64) (fun _ => rfl) rfl trivial)
  · refine RunC.regionW ?_
    refine ROps.l (r := AV.str a0) rfl rfl rfl (LOp.move rfl rfl) ?_
    refine ROps.l (r := AV.b false) rfl rfl rfl (LOp.eqb (LOp.eqs rfl rfl rfl) hc1) ?_
    refine ROps.nil ?_
    refine RunC.cond_false rfl rfl ?_
    refine RunC.skip ?_
    refine RunC.seq ?_
    obtain ⟨r1, hf2, h⟩ := obind_some h
    refine RunC.regionW ?_
    refine ROps.l (r := AV.str a0) rfl rfl rfl (LOp.move rfl rfl) ?_
    refine ROps.d (r := AV.oref 1 1 0 r1.length) (fs := [(1, (r1.map AV.str))]) (Γ' := [⟨1, some (([] : List Int).map AV.i64)⟩, ⟨1, some (r1.map AV.str)⟩, ⟨0, none⟩]) rfl rfl rfl (TOp.callBN (ls := [(r1.map AV.str)]) [1] (CallAs.func ent23 rfl rfl) (Bors.cons (Bor.pure rfl) (Bors.cons (Bor.pure rfl) Bors.nil)) rfl (s_l01Cut_ok a0 44 r1 hf2) (and_all (lts0_map (f := AV.str) (fun _ => rfl) _) rfl) (and_all (noss_map (f := AV.str) (fun _ => rfl) _) rfl) rfl (by decide) (ns_of ⟨⟨_, rfl⟩, trivial⟩)) rfl ?_
    refine ROps.l (r := AV.oref 1 1 0 r1.length) rfl rfl rfl (LOp.assign rfl rfl) ?_
    refine ROps.nil ?_
    refine RunC.seq ?_
    refine RunC.seq ?_
    rcases bsel_some h with ⟨hc3, h⟩ | ⟨hc3, h⟩
    · refine RunC.regionW ?_
      refine ROps.l (r := AV.oref 1 1 0 r1.length) rfl rfl rfl (LOp.move rfl rfl) ?_
      refine ROps.l (r := AV.i64 ((r1.length : Nat) : Int)) rfl rfl rfl (LOp.len_oref und40 rfl rfl) ?_
      refine ROps.l (r := AV.b true) rfl rfl rfl (LOp.eqb (LOp.gtr rfl rfl rfl) hc3) ?_
      refine ROps.nil ?_
      refine RunC.cond_true rfl rfl ?_
      refine RunC.seq ?_
      refine RunC.regionW ?_
      refine ROps.l (r := AV.nilsl) rfl rfl rfl (LOp.assign rfl rfl) ?_
      refine ROps.l (r := AV.b false) rfl rfl rfl (LOp.assign rfl rfl) ?_
      refine ROps.nil ?_
      refine RunC.nil_slot (Γ' := [⟨1, some (([] : List Int).map AV.i64)⟩, ⟨1, some (r1.map AV.str)⟩, ⟨1, some (([] : List Int).map AV.i64)⟩]) 2 2 rfl rfl rfl ?_
      refine RunC.ret ?_
      have hq := Option.some.inj h
      obtain ⟨hq0, hq⟩ := Prod.mk.inj hq
      subst q0
      subst q1
      exact bodyQ.mk (r' := AV.tup [AV.oref 2 1 0 (([] : List Int).length), AV.b false]) [(2, 1)] (.inr rfl) rfl (show List.Nodup [2] from by decide) rfl rfl (Res.eq (Res.two rfl (RV.tmp rfl) (RV.tmp rfl)) (by rw [(show ([] : List Int).length = 0 from rfl)] <;> rfl)) (SelL.arr0 (f := AV.i64) (fun _ => rfl) rfl trivial)
    · refine RunC.regionW ?_
      refine ROps.l (r := AV.oref 1 1 0 r1.length) rfl rfl rfl (LOp.move rfl rfl) ?_
      refine ROps.l (r := AV.i64 ((r1.length : Nat) : Int)) rfl rfl rfl (LOp.len_oref und40 rfl rfl) ?_
      refine ROps.l (r := AV.b false) rfl rfl rfl (LOp.eqb (LOp.gtr rfl rfl rfl) hc3) ?_
      refine ROps.nil ?_
      refine RunC.cond_false rfl rfl ?_
      refine RunC.skip ?_
      refine RunC.seq ?_
      refine RunC.seq ?_
      refine RunC.regionW ?_
      refine ROps.l (r := AV.i64 0) rfl rfl rfl (LOp.assign rfl rfl) ?_
      refine ROps.nil ?_
      obtain ⟨z2, hz_2, h⟩ := obind_some h
      refine RunC.cutN (fun τ Γ => ∃ (L12 : List Int) (u10 : Nat) (u11 : Nat), WeakLe τ [(4, AV.oref 0 u10 0 L12.length)] ∧ DeadLe Γ [⟨u10, some (L12.map AV.i64)⟩, ⟨1, none⟩, ⟨u11, none⟩] ∧ z2 = .inl L12) ?_ ?_
      · refine RunC.block (RunC.loop (RunL.loopM (x := z2) (s_l01Numbers_s1 r1) (fun (s : (List Int) × Int) τ Γ => ∃ (u2 : Nat) (u3 : Nat), WeakLe τ [(4, AV.oref 0 u2 0 s.1.length), (5, AV.oref 1 1 0 r1.length), (6, AV.i64 s.2)] ∧ DeadLe Γ [⟨u2, some (s.1.map AV.i64)⟩, ⟨1, some (r1.map AV.str)⟩, ⟨u3, none⟩]) ?_ _ _ _ hz_2 ⟨1, 0, ⟨(ALe.refl _), (ALe.refl _), (ALe.refl _), trivial⟩, ⟨⟨rfl, .inr rfl⟩, ⟨rfl, .inr rfl⟩, ⟨rfl, .inl rfl⟩, trivial⟩⟩))
        rintro ⟨L4, v5⟩ τ2 Γ2 y2_ ⟨u2, u3, hw2, hd2⟩ h2_ ho2 hr2
        refine RunC.wl (τ' := [(4, AV.oref 0 u2 0 L4.length), (5, AV.oref 1 1 0 r1.length), (6, AV.i64 v5)]) (Γ' := [⟨u2, some (L4.map AV.i64)⟩, ⟨1, some (r1.map AV.str)⟩, ⟨u3, none⟩]) hw2 hd2 ?_
        replace h2_ : s_l01Numbers_b1 r1 L4 v5 = some y2_ := h2_
        unfold s_l01Numbers_b1 at h2_
        refine RunC.seq ?_
        refine RunC.seq ?_
        rcases bsel_some h2_ with ⟨hc4, h2_⟩ | ⟨hc4, h2_⟩
        · refine RunC.regionW ?_
          refine ROps.l (r := AV.i64 v5) rfl rfl rfl (LOp.move rfl rfl) ?_
          refine ROps.l (r := AV.oref 1 1 0 r1.length) rfl rfl rfl (LOp.move rfl rfl) ?_
          refine ROps.l (r := AV.i64 ((r1.length : Nat) : Int)) rfl rfl rfl (LOp.len_oref und40 rfl rfl) ?_
          refine ROps.l (r := AV.b true) rfl rfl rfl (LOp.eqb (LOp.lss rfl rfl rfl) hc4) ?_
          refine ROps.nil ?_
          refine RunC.cond_true rfl rfl ?_
          refine RunC.skip ?_
          refine RunC.seq ?_
          refine RunC.block ?_
          refine RunC.seq ?_
          obtain ⟨e6, he5, h2_⟩ := obind_some h2_
          obtain ⟨r7, r8, hf6, h2_⟩ := obind2_some h2_
          rcases bsel_some h2_ with ⟨hc7, h2_⟩ | ⟨hc7, h2_⟩
          · refine RunC.regionW ?_
            refine ROps.l (r := AV.oref 1 1 0 r1.length) rfl rfl rfl (LOp.move rfl rfl) ?_
            refine ROps.l (r := AV.i64 v5) rfl rfl rfl (LOp.move rfl rfl) ?_
            refine ROps.d (r := AV.optr 1 1 v5.toNat) (fs := []) (Γ' := [⟨u2, some (L4.map AV.i64)⟩, ⟨1, some (r1.map AV.str)⟩, ⟨u3, none⟩]) rfl rfl rfl (TOp.ixo und40 siz9 rfl rfl rfl (at_in he5 rfl) rfl) rfl ?_
            refine ROps.d (r := AV.str e6) (fs := []) (Γ' := [⟨u2, some (L4.map AV.i64)⟩, ⟨1, some (r1.map AV.str)⟩, ⟨u3, none⟩]) rfl rfl rfl (TOp.load1_o rfl (at_cell he5) agg9 rfl rfl) rfl ?_
            refine ROps.d (r := AV.tup [AV.i64 r7, AV.b r8]) (fs := []) (Γ' := [⟨u2, some (L4.map AV.i64)⟩, ⟨1, some (r1.map AV.str)⟩, ⟨u3, none⟩]) rfl rfl rfl (TOp.callB (CallAs.func ent24 rfl rfl) (Bors.cons (Bor.pure rfl) Bors.nil) rfl rfl (s_l01Value_ok e6 r7 r8 hf6)) rfl ?_
            refine ROps.l (r := AV.tup [AV.i64 r7, AV.b r8]) rfl rfl rfl (LOp.move rfl rfl) ?_
            refine ROps.l (r := AV.i64 r7) rfl rfl rfl (LOp.extract rfl rfl rfl) ?_
            refine ROps.l (r := AV.b true) rfl rfl rfl (LOp.eqb (LOp.extract rfl rfl rfl) hc7) ?_
            refine ROps.l (r := AV.i64 r7) rfl rfl rfl (LOp.assign rfl rfl) ?_
            refine ROps.l (r := AV.b true) rfl rfl rfl (LOp.assign rfl rfl) ?_
            refine ROps.nil ?_
            refine RunC.seq ?_
            refine RunC.seq ?_
            refine RunC.regionW ?_
            refine ROps.l (r := AV.b true) rfl rfl rfl (LOp.move rfl rfl) ?_
            refine ROps.l (r := AV.b false) rfl rfl rfl (LOp.eqb (LOp.not rfl rfl) rfl) ?_
            refine ROps.nil ?_
            refine RunC.wl (τ' := [(4, AV.oref 0 u2 0 L4.length), (5, AV.oref 1 1 0 r1.length), (6, AV.i64 v5), (7, AV.i64 r7), (33, AV.b false)]) (Γ' := [⟨u2, some (L4.map AV.i64)⟩, ⟨1, some (r1.map AV.str)⟩, ⟨u3, none⟩]) ⟨(ALe.refl _), (ALe.refl _), (ALe.refl _), (ALe.refl _), (ALe.refl _), trivial⟩ ⟨⟨rfl, .inr rfl⟩, ⟨rfl, .inr rfl⟩, ⟨rfl, .inl rfl⟩, trivial⟩ ?_
            refine RunC.cond_false rfl rfl ?_
            refine RunC.skip ?_
            obtain ⟨hm8, h2_⟩ := need_some h2_
            refine RunC.regionW ?_
            refine ROps.l (r := AV.oref 0 u2 0 L4.length) rfl rfl rfl (LOp.move rfl rfl) ?_
            refine ROps.l (r := AV.i64 r7) rfl rfl rfl (LOp.move rfl rfl) ?_
            refine ROps.d (r := AV.oref 2 (u3 + 1) 0 1) (fs := [(2, (([r7] : List Int).map AV.i64))]) (Γ' := [⟨u2, some (L4.map AV.i64)⟩, ⟨1, some (r1.map AV.str)⟩, ⟨(u3 + 1), some (([r7] : List Int).map AV.i64)⟩]) rfl rfl rfl (TOp.buildSlice_o (g := ⟨u3, none⟩) (za := AV.i64 0) (qs := [(0, [AV.i64 r7])]) 2 rfl und22 siz2 zer2 rfl zel2 rfl rfl ⟨rfl, ⟨_, ALe.refl _, rfl⟩, trivial⟩ rfl) rfl ?_
            refine ROps.app (f := AV.i64) (xs := L4) (ys := ([r7] : List Int)) (Γ' := [⟨(u2 + 1), some ((L4 ++ ([r7] : List Int)).map AV.i64)⟩, ⟨1, some (r1.map AV.str)⟩, ⟨(u3 + 1), some (([r7] : List Int).map AV.i64)⟩]) rfl pun22 inf2 rfl rfl rfl rfl rfl rfl rfl rfl rfl (by simp) (ReadAs.own rfl (by simp)) (ones_map (fun _ => rfl)) (ap_by hm8) (ap_mx hm8) rfl ?_
            refine ROps.l (r := AV.oref 0 (u2 + 1) 0 (L4.length + 1)) rfl rfl rfl (LOp.assign rfl rfl) ?_
            refine ROps.nil ?_
            refine RunC.wl (τ' := [(4, AV.oref 0 (u2 + 1) 0 (L4.length + 1)), (5, AV.oref 1 1 0 r1.length), (6, AV.i64 v5)]) (Γ' := [⟨(u2 + 1), some ((L4 ++ ([r7] : List Int)).map AV.i64)⟩, ⟨1, some (r1.map AV.str)⟩, ⟨(u3 + 1), none⟩]) ⟨(ALe.refl _), (ALe.refl _), (ALe.refl _), trivial⟩ ⟨⟨rfl, .inr rfl⟩, ⟨rfl, .inr rfl⟩, ⟨rfl, .inl rfl⟩, trivial⟩ ?_
            obtain ⟨x9, hx9, h2_⟩ := olet_some h2_
            refine RunC.regionW ?_
            refine ROps.l (r := AV.i64 v5) rfl rfl rfl (LOp.move rfl rfl) ?_
            refine ROps.l (r := AV.i64 x9) rfl rfl rfl (LOp.eqr (LOp.add rfl rfl rfl) (congrArg (AV.ik .i64) hx9)) ?_
            refine ROps.l (r := AV.i64 x9) rfl rfl rfl (LOp.assign rfl rfl) ?_
            refine ROps.nil ?_
            cases Option.some.inj h2_
            exact ⟨_, rfl, (u2 + 1), (u3 + 1), ⟨(ALe.eq (by rw [(app_len rfl rfl)] <;> rfl)), (ALe.refl _), (ALe.refl _), trivial⟩, ⟨⟨rfl, .inr rfl⟩, ⟨rfl, .inr rfl⟩, ⟨rfl, .inl rfl⟩, trivial⟩⟩
          · refine RunC.regionW ?_
            refine ROps.l (r := AV.oref 1 1 0 r1.length) rfl rfl rfl (LOp.move rfl rfl) ?_
            refine ROps.l (r := AV.i64 v5) rfl rfl rfl (LOp.move rfl rfl) ?_
            refine ROps.d (r := AV.optr 1 1 v5.toNat) (fs := []) (Γ' := [⟨u2, some (L4.map AV.i64)⟩, ⟨1, some (r1.map AV.str)⟩, ⟨u3, none⟩]) rfl rfl rfl (TOp.ixo und40 siz9 rfl rfl rfl (at_in he5 rfl) rfl) rfl ?_
            refine ROps.d (r := AV.str e6) (fs := []) (Γ' := [⟨u2, some (L4.map AV.i64)⟩, ⟨1, some (r1.map AV.str)⟩, ⟨u3, none⟩]) rfl rfl rfl (TOp.load1_o rfl (at_cell he5) agg9 rfl rfl) rfl ?_
            refine ROps.d (r := AV.tup [AV.i64 r7, AV.b r8]) (fs := []) (Γ' := [⟨u2, some (L4.map AV.i64)⟩, ⟨1, some (r1.map AV.str)⟩, ⟨u3, none⟩]) rfl rfl rfl (TOp.callB (CallAs.func ent24 rfl rfl) (Bors.cons (Bor.pure rfl) Bors.nil) rfl rfl (s_l01Value_ok e6 r7 r8 hf6)) rfl ?_
            refine ROps.l (r := AV.tup [AV.i64 r7, AV.b r8]) rfl rfl rfl (LOp.move rfl rfl) ?_
            refine ROps.l (r := AV.i64 r7) rfl rfl rfl (LOp.extract rfl rfl rfl) ?_
            refine ROps.l (r := AV.b false) rfl rfl rfl (LOp.eqb (LOp.extract rfl rfl rfl) hc7) ?_
            refine ROps.l (r := AV.i64 r7) rfl rfl rfl (LOp.assign rfl rfl) ?_
            refine ROps.l (r := AV.b false) rfl rfl rfl (LOp.assign rfl rfl) ?_
            refine ROps.nil ?_
            refine RunC.seq ?_
            refine RunC.seq ?_
            refine RunC.regionW ?_
            refine ROps.l (r := AV.b false) rfl rfl rfl (LOp.move rfl rfl) ?_
            refine ROps.l (r := AV.b true) rfl rfl rfl (LOp.eqb (LOp.not rfl rfl) rfl) ?_
            refine ROps.nil ?_
            refine RunC.wl (τ' := [(4, AV.oref 0 u2 0 L4.length), (5, AV.oref 1 1 0 r1.length), (6, AV.i64 v5), (7, AV.i64 r7), (33, AV.b true)]) (Γ' := [⟨u2, some (L4.map AV.i64)⟩, ⟨1, some (r1.map AV.str)⟩, ⟨u3, none⟩]) ⟨(ALe.refl _), (ALe.refl _), (ALe.refl _), (ALe.refl _), (ALe.refl _), trivial⟩ ⟨⟨rfl, .inr rfl⟩, ⟨rfl, .inr rfl⟩, ⟨rfl, .inl rfl⟩, trivial⟩ ?_
            refine RunC.cond_true rfl rfl ?_
            refine RunC.seq ?_
            refine RunC.regionW ?_
            refine ROps.l (r := AV.nilsl) rfl rfl rfl (LOp.assign rfl rfl) ?_
            refine ROps.l (r := AV.b false) rfl rfl rfl (LOp.assign rfl rfl) ?_
            refine ROps.nil ?_
            refine RunC.nil_slot (Γ' := [⟨u2, some (L4.map AV.i64)⟩, ⟨1, some (r1.map AV.str)⟩, ⟨(u3 + 1), some (([] : List Int).map AV.i64)⟩]) 2 2 rfl rfl rfl ?_
            refine RunC.ret ?_
            cases Option.some.inj h2_
            have hx3_ := hr2 _ rfl
            subst hx3_
            have hq := Option.some.inj h
            obtain ⟨hq0, hq⟩ := Prod.mk.inj hq
            subst q0
            subst q1
            exact bodyQ.mk (r' := AV.tup [AV.oref 2 (u3 + 1) 0 (([] : List Int).length), AV.b false]) [(2, (u3 + 1))] (.inr rfl) rfl (show List.Nodup [2] from by decide) (by simp [AV.ren, AV.rens, sigma]) rfl (Res.eq (Res.two rfl (RV.tmp rfl) (RV.tmp rfl)) (by rw [(show ([] : List Int).length = 0 from rfl)] <;> rfl)) (SelL.arr0 (f := AV.i64) (fun _ => rfl) rfl trivial)
        · refine RunC.regionW ?_
          refine ROps.l (r := AV.i64 v5) rfl rfl rfl (LOp.move rfl rfl) ?_
          refine ROps.l (r := AV.oref 1 1 0 r1.length) rfl rfl rfl (LOp.move rfl rfl) ?_
          refine ROps.l (r := AV.i64 ((r1.length : Nat) : Int)) rfl rfl rfl (LOp.len_oref und40 rfl rfl) ?_
          refine ROps.l (r := AV.b false) rfl rfl rfl (LOp.eqb (LOp.lss rfl rfl rfl) hc4) ?_
          refine ROps.nil ?_
          refine RunC.cond_false rfl rfl ?_
          refine RunC.exit ?_
          cases Option.some.inj h2_
          have hx := ho2 _ rfl
          exact ⟨L4, u2, u3, ⟨(ALe.refl _), trivial⟩, ⟨⟨rfl, .inr rfl⟩, ⟨rfl, .inl rfl⟩, ⟨rfl, .inl rfl⟩, trivial⟩, hx⟩
      · rintro τ4 Γ4 ⟨L12, u10, u11, hw4, hd4, rfl⟩
        refine RunC.wl (τ' := [(4, AV.oref 0 u10 0 L12.length)]) (Γ' := [⟨u10, some (L12.map AV.i64)⟩, ⟨1, none⟩, ⟨u11, none⟩]) hw4 hd4 ?_
        replace h : s_l01Numbers_k1 L12 = some (q0, q1) := h
        unfold s_l01Numbers_k1 at h
        refine RunC.seq ?_
        refine RunC.regionW ?_
        refine ROps.l (r := AV.oref 0 u10 0 L12.length) rfl rfl rfl (LOp.move rfl rfl) ?_
        refine ROps.l (r := AV.oref 0 u10 0 L12.length) rfl rfl rfl (LOp.assign rfl rfl) ?_
        refine ROps.l (r := AV.b true) rfl rfl rfl (LOp.assign rfl rfl) ?_
        refine ROps.nil ?_
        refine RunC.ret ?_
        have hq := Option.some.inj h
        obtain ⟨hq0, hq⟩ := Prod.mk.inj hq
        subst q0
        subst q1
        exact bodyQ.mk (r' := AV.tup [AV.oref 0 u10 0 L12.length, AV.b true]) [(0, u10)] (.inr rfl) rfl (show List.Nodup [0] from by decide) (by simp [AV.ren, AV.rens, sigma]) rfl (Res.two rfl (RV.tmp rfl) (RV.tmp rfl)) (SelL.arr0 (f := AV.i64) (fun _ => rfl) rfl trivial)
noncomputable def s_l08Sides (a0 : ByteArray) : Option (Int × Int × ByteArray × Bool) :=
  obind (s_l01Cut a0 59) fun (r1 : List ByteArray) =>
  bsel (!decide (((r1.length : Nat) : Int) = 2)) (
    some (0, 0, lit_99ba06bc, false)) (
    obind (at? r1 0) fun (e2 : ByteArray) =>
    obind2 (s_l01Numbers e2) fun (r3 : Bool) (r4 : List Int) =>
    bsel r3 (
      bsel (!decide (((r4.length : Nat) : Int) = 2)) (
        some (0, 0, lit_99ba06bc, false)) (
        obind (at? r4 0) fun (e5 : Int) =>
        obind (at? r4 1) fun (e6 : Int) =>
        obind (at? r1 1) fun (e7 : ByteArray) =>
        some (e5, e6, e7, true))) (
      some (0, 0, lit_99ba06bc, false)))
theorem s_l08Sides_ok (a0 : ByteArray) (q0 : Int) (q1 : Int) (q2 : ByteArray) (q3 : Bool) (h : s_l08Sides a0 = some (q0, q1, q2, q3)) : Ev Tryd.prog 16 [AV.str a0] [] (AV.tup [AV.i64 q0, AV.i64 q1, AV.str q2, AV.b q3]) [] := by
  refine Ev.start Tryd.func16 rfl rfl 2 (τ := [(0, AV.str a0)]) rfl (Γ' := [⟨0, none⟩, ⟨0, none⟩]) rfl (n := 75) rfl (g := 0) rfl (fun _ => rfl) ?_
  unfold s_l08Sides at h
  refine RunC.seq ?_
  refine RunC.regionW ?_
  refine ROps.l (r := AV.i64 0) rfl rfl rfl (LOp.assign rfl rfl) ?_
  refine ROps.l (r := AV.i64 0) rfl rfl rfl (LOp.assign rfl rfl) ?_
  refine ROps.l (r := AV.str lit_99ba06bc) rfl rfl rfl (LOp.assign rfl rfl) ?_
  refine ROps.l (r := AV.b false) rfl rfl rfl (LOp.assign rfl rfl) ?_
  refine ROps.nil ?_
  refine RunC.seq ?_
  obtain ⟨r1, hf1, h⟩ := obind_some h
  refine RunC.regionW ?_
  refine ROps.l (r := AV.str a0) rfl rfl rfl (LOp.move rfl rfl) ?_
  refine ROps.d (r := AV.oref 0 1 0 r1.length) (fs := [(0, (r1.map AV.str))]) (Γ' := [⟨1, some (r1.map AV.str)⟩, ⟨0, none⟩]) rfl rfl rfl (TOp.callBN (ls := [(r1.map AV.str)]) [0] (CallAs.func ent23 rfl rfl) (Bors.cons (Bor.pure rfl) (Bors.cons (Bor.pure rfl) Bors.nil)) rfl (s_l01Cut_ok a0 59 r1 hf1) (and_all (lts0_map (f := AV.str) (fun _ => rfl) _) rfl) (and_all (noss_map (f := AV.str) (fun _ => rfl) _) rfl) rfl (by decide) (ns_of ⟨⟨_, rfl⟩, trivial⟩)) rfl ?_
  refine ROps.l (r := AV.oref 0 1 0 r1.length) rfl rfl rfl (LOp.assign rfl rfl) ?_
  refine ROps.nil ?_
  refine RunC.seq ?_
  refine RunC.seq ?_
  rcases bsel_some h with ⟨hc2, h⟩ | ⟨hc2, h⟩
  · refine RunC.regionW ?_
    refine ROps.l (r := AV.oref 0 1 0 r1.length) rfl rfl rfl (LOp.move rfl rfl) ?_
    refine ROps.l (r := AV.i64 ((r1.length : Nat) : Int)) rfl rfl rfl (LOp.len_oref und40 rfl rfl) ?_
    refine ROps.l (r := AV.b true) rfl rfl rfl (LOp.eqb (LOp.neq rfl rfl rfl) hc2) ?_
    refine ROps.nil ?_
    refine RunC.cond_true rfl rfl ?_
    refine RunC.seq ?_
    refine RunC.regionW ?_
    refine ROps.l (r := AV.i64 0) rfl rfl rfl (LOp.assign rfl rfl) ?_
    refine ROps.l (r := AV.i64 0) rfl rfl rfl (LOp.assign rfl rfl) ?_
    refine ROps.l (r := AV.str lit_99ba06bc) rfl rfl rfl (LOp.assign rfl rfl) ?_
    refine ROps.l (r := AV.b false) rfl rfl rfl (LOp.assign rfl rfl) ?_
    refine ROps.nil ?_
    refine RunC.ret ?_
    have hq := Option.some.inj h
    obtain ⟨hq0, hq⟩ := Prod.mk.inj hq
    obtain ⟨hq1, hq⟩ := Prod.mk.inj hq
    obtain ⟨hq2, hq⟩ := Prod.mk.inj hq
    subst q0
    subst q1
    subst q2
    subst q3
    exact bodyQ.pure (.inr rfl) rfl (Res.four rfl (RV.tmp rfl) (RV.tmp rfl) (RV.tmp rfl) (RV.tmp rfl))
  · refine RunC.regionW ?_
    refine ROps.l (r := AV.oref 0 1 0 r1.length) rfl rfl rfl (LOp.move rfl rfl) ?_
    refine ROps.l (r := AV.i64 ((r1.length : Nat) : Int)) rfl rfl rfl (LOp.len_oref und40 rfl rfl) ?_
    refine ROps.l (r := AV.b false) rfl rfl rfl (LOp.eqb (LOp.neq rfl rfl rfl) hc2) ?_
    refine ROps.nil ?_
    refine RunC.cond_false rfl rfl ?_
    refine RunC.skip ?_
    refine RunC.seq ?_
    obtain ⟨e2, he3, h⟩ := obind_some h
    obtain ⟨r3, r4, hf4, h⟩ := obind2_some h
    rcases bsel_some h with ⟨hc5, h⟩ | ⟨hc5, h⟩
    · refine RunC.regionW ?_
      refine ROps.l (r := AV.oref 0 1 0 r1.length) rfl rfl rfl (LOp.move rfl rfl) ?_
      refine ROps.d (r := AV.optr 0 1 ((0 : Int).toNat)) (fs := []) (Γ' := [⟨1, some (r1.map AV.str)⟩, ⟨0, none⟩]) rfl rfl rfl (TOp.ixo und40 siz9 rfl rfl rfl (at_in he3 rfl) rfl) rfl ?_
      refine ROps.d (r := AV.str e2) (fs := []) (Γ' := [⟨1, some (r1.map AV.str)⟩, ⟨0, none⟩]) rfl rfl rfl (TOp.load1_o rfl (at_cell he3) agg9 rfl rfl) rfl ?_
      refine ROps.d (r := AV.tup [AV.oref 1 1 0 r4.length, AV.b r3]) (fs := [(1, (r4.map AV.i64))]) (Γ' := [⟨1, some (r1.map AV.str)⟩, ⟨1, some (r4.map AV.i64)⟩]) rfl rfl rfl (TOp.callBN (ls := [(r4.map AV.i64)]) [1] (CallAs.func ent17 rfl rfl) (Bors.cons (Bor.pure rfl) Bors.nil) rfl (s_l01Numbers_ok e2 r3 r4 hf4) (and_all (lts0_map (f := AV.i64) (fun _ => rfl) _) rfl) (and_all (noss_map (f := AV.i64) (fun _ => rfl) _) rfl) rfl (by decide) (ns_of ⟨⟨_, rfl⟩, trivial⟩)) rfl ?_
      refine ROps.l (r := AV.tup [AV.oref 1 1 0 r4.length, AV.b r3]) rfl rfl rfl (LOp.move rfl rfl) ?_
      refine ROps.l (r := AV.oref 1 1 0 r4.length) rfl rfl rfl (LOp.extract rfl rfl rfl) ?_
      refine ROps.l (r := AV.b true) rfl rfl rfl (LOp.eqb (LOp.extract rfl rfl rfl) hc5) ?_
      refine ROps.l (r := AV.oref 1 1 0 r4.length) rfl rfl rfl (LOp.assign rfl rfl) ?_
      refine ROps.l (r := AV.b true) rfl rfl rfl (LOp.assign rfl rfl) ?_
      refine ROps.nil ?_
      refine RunC.wl (τ' := [(6, AV.oref 0 1 0 r1.length), (7, AV.oref 1 1 0 r4.length), (8, AV.b true)]) (Γ' := [⟨1, some (r1.map AV.str)⟩, ⟨1, some (r4.map AV.i64)⟩]) ⟨(ALe.refl _), (ALe.refl _), (ALe.refl _), trivial⟩ ⟨⟨rfl, .inr rfl⟩, ⟨rfl, .inr rfl⟩, trivial⟩ ?_
      refine RunC.seq ?_
      refine RunC.seq ?_
      rcases bsel_some h with ⟨hc6, h⟩ | ⟨hc6, h⟩
      · refine RunC.regionW ?_
        refine ROps.l (r := AV.b true) rfl rfl rfl (LOp.move rfl rfl) ?_
        refine ROps.l (r := AV.b false) rfl rfl rfl (LOp.eqb (LOp.not rfl rfl) rfl) ?_
        refine ROps.l (r := AV.b false) rfl rfl rfl (LOp.move rfl rfl) ?_
        refine ROps.l (r := AV.oref 1 1 0 r4.length) rfl rfl rfl (LOp.move rfl rfl) ?_
        refine ROps.l (r := AV.i64 ((r4.length : Nat) : Int)) rfl rfl rfl (LOp.len_oref und22 rfl rfl) ?_
        refine ROps.l (r := AV.b true) rfl rfl rfl (LOp.eqb (LOp.neq rfl rfl rfl) hc6) ?_
        refine ROps.l (r := AV.b true) rfl rfl rfl (LOp.pick_false rfl rfl rfl) ?_
        refine ROps.nil ?_
        refine RunC.cond_true rfl rfl ?_
        refine RunC.seq ?_
        refine RunC.regionW ?_
        refine ROps.l (r := AV.i64 0) rfl rfl rfl (LOp.assign rfl rfl) ?_
        refine ROps.l (r := AV.i64 0) rfl rfl rfl (LOp.assign rfl rfl) ?_
        refine ROps.l (r := AV.str lit_99ba06bc) rfl rfl rfl (LOp.assign rfl rfl) ?_
        refine ROps.l (r := AV.b false) rfl rfl rfl (LOp.assign rfl rfl) ?_
        refine ROps.nil ?_
        refine RunC.ret ?_
        have hq := Option.some.inj h
        obtain ⟨hq0, hq⟩ := Prod.mk.inj hq
        obtain ⟨hq1, hq⟩ := Prod.mk.inj hq
        obtain ⟨hq2, hq⟩ := Prod.mk.inj hq
        subst q0
        subst q1
        subst q2
        subst q3
        exact bodyQ.pure (.inr rfl) rfl (Res.four rfl (RV.tmp rfl) (RV.tmp rfl) (RV.tmp rfl) (RV.tmp rfl))
      · refine RunC.regionW ?_
        refine ROps.l (r := AV.b true) rfl rfl rfl (LOp.move rfl rfl) ?_
        refine ROps.l (r := AV.b false) rfl rfl rfl (LOp.eqb (LOp.not rfl rfl) rfl) ?_
        refine ROps.l (r := AV.b false) rfl rfl rfl (LOp.move rfl rfl) ?_
        refine ROps.l (r := AV.oref 1 1 0 r4.length) rfl rfl rfl (LOp.move rfl rfl) ?_
        refine ROps.l (r := AV.i64 ((r4.length : Nat) : Int)) rfl rfl rfl (LOp.len_oref und22 rfl rfl) ?_
        refine ROps.l (r := AV.b false) rfl rfl rfl (LOp.eqb (LOp.neq rfl rfl rfl) hc6) ?_
        refine ROps.l (r := AV.b false) rfl rfl rfl (LOp.pick_false rfl rfl rfl) ?_
        refine ROps.nil ?_
        refine RunC.cond_false rfl rfl ?_
        refine RunC.skip ?_
        refine RunC.seq ?_
        obtain ⟨e5, he7, h⟩ := obind_some h
        obtain ⟨e6, he8, h⟩ := obind_some h
        obtain ⟨e7, he9, h⟩ := obind_some h
        refine RunC.region_draw (Γ' := [⟨1, some (r1.map AV.str)⟩, ⟨1, some (r4.map AV.i64)⟩]) 13 mixed 
          (TR.l (r := AV.oref 1 1 0 r4.length) rfl rfl (LOp.move rfl rfl) <|
          (TR.d (r := AV.optr 1 1 ((0 : Int).toNat)) (fs := []) rfl rfl (TOp.ixo und22 siz2 rfl rfl rfl (at_in he7 rfl) rfl) <|
          (TR.d (r := AV.i64 e5) (fs := []) rfl rfl (TOp.load1_o rfl (at_cell he7) agg2 rfl rfl) <|
          (TR.l (r := AV.oref 1 1 0 r4.length) rfl rfl (LOp.move rfl rfl) <|
          (TR.d (r := AV.optr 1 1 ((1 : Int).toNat)) (fs := []) rfl rfl (TOp.ixo und22 siz2 rfl rfl rfl (at_in he8 rfl) rfl) <|
          (TR.d (r := AV.i64 e6) (fs := []) rfl rfl (TOp.load1_o rfl (at_cell he8) agg2 rfl rfl) <|
          (TR.l (r := AV.oref 0 1 0 r1.length) rfl rfl (LOp.move rfl rfl) <|
          (TR.d (r := AV.optr 0 1 ((1 : Int).toNat)) (fs := []) rfl rfl (TOp.ixo und40 siz9 rfl rfl rfl (at_in he9 rfl) rfl) <|
          (TR.d (r := AV.str e7) (fs := []) rfl rfl (TOp.load1_o rfl (at_cell he9) agg9 rfl rfl) <|
          (TR.l (r := AV.i64 e5) rfl rfl (LOp.assign rfl rfl) <|
          (TR.l (r := AV.i64 e6) rfl rfl (LOp.assign rfl rfl) <|
          (TR.l (r := AV.str e7) rfl rfl (LOp.assign rfl rfl) <|
          (TR.l (r := AV.b true) rfl rfl (LOp.assign rfl rfl) <|
          TR.nil))))))))))))) rfl (by kernel_rfl) rfl fills_nil rfl ?_
        iterate 13 refine ROps.dropS ?_
        refine ROps.drop0 ?_
        refine ROps.nil ?_
        refine RunC.ret ?_
        have hq := Option.some.inj h
        obtain ⟨hq0, hq⟩ := Prod.mk.inj hq
        obtain ⟨hq1, hq⟩ := Prod.mk.inj hq
        obtain ⟨hq2, hq⟩ := Prod.mk.inj hq
        subst q0
        subst q1
        subst q2
        subst q3
        exact bodyQ.pure (.inr rfl) rfl (Res.four rfl (RV.tmp rfl) (RV.tmp rfl) (RV.tmp rfl) (RV.tmp rfl))
    · refine RunC.regionW ?_
      refine ROps.l (r := AV.oref 0 1 0 r1.length) rfl rfl rfl (LOp.move rfl rfl) ?_
      refine ROps.d (r := AV.optr 0 1 ((0 : Int).toNat)) (fs := []) (Γ' := [⟨1, some (r1.map AV.str)⟩, ⟨0, none⟩]) rfl rfl rfl (TOp.ixo und40 siz9 rfl rfl rfl (at_in he3 rfl) rfl) rfl ?_
      refine ROps.d (r := AV.str e2) (fs := []) (Γ' := [⟨1, some (r1.map AV.str)⟩, ⟨0, none⟩]) rfl rfl rfl (TOp.load1_o rfl (at_cell he3) agg9 rfl rfl) rfl ?_
      refine ROps.d (r := AV.tup [AV.oref 1 1 0 r4.length, AV.b r3]) (fs := [(1, (r4.map AV.i64))]) (Γ' := [⟨1, some (r1.map AV.str)⟩, ⟨1, some (r4.map AV.i64)⟩]) rfl rfl rfl (TOp.callBN (ls := [(r4.map AV.i64)]) [1] (CallAs.func ent17 rfl rfl) (Bors.cons (Bor.pure rfl) Bors.nil) rfl (s_l01Numbers_ok e2 r3 r4 hf4) (and_all (lts0_map (f := AV.i64) (fun _ => rfl) _) rfl) (and_all (noss_map (f := AV.i64) (fun _ => rfl) _) rfl) rfl (by decide) (ns_of ⟨⟨_, rfl⟩, trivial⟩)) rfl ?_
      refine ROps.l (r := AV.tup [AV.oref 1 1 0 r4.length, AV.b r3]) rfl rfl rfl (LOp.move rfl rfl) ?_
      refine ROps.l (r := AV.oref 1 1 0 r4.length) rfl rfl rfl (LOp.extract rfl rfl rfl) ?_
      refine ROps.l (r := AV.b false) rfl rfl rfl (LOp.eqb (LOp.extract rfl rfl rfl) hc5) ?_
      refine ROps.l (r := AV.oref 1 1 0 r4.length) rfl rfl rfl (LOp.assign rfl rfl) ?_
      refine ROps.l (r := AV.b false) rfl rfl rfl (LOp.assign rfl rfl) ?_
      refine ROps.nil ?_
      refine RunC.wl (τ' := [(6, AV.oref 0 1 0 r1.length), (7, AV.oref 1 1 0 r4.length), (8, AV.b false)]) (Γ' := [⟨1, some (r1.map AV.str)⟩, ⟨1, some (r4.map AV.i64)⟩]) ⟨(ALe.refl _), (ALe.refl _), (ALe.refl _), trivial⟩ ⟨⟨rfl, .inr rfl⟩, ⟨rfl, .inr rfl⟩, trivial⟩ ?_
      refine RunC.seq ?_
      refine RunC.seq ?_
      refine RunC.regionW ?_
      refine ROps.l (r := AV.b false) rfl rfl rfl (LOp.move rfl rfl) ?_
      refine ROps.l (r := AV.b true) rfl rfl rfl (LOp.eqb (LOp.not rfl rfl) rfl) ?_
      refine ROps.l (r := AV.b true) rfl rfl rfl (LOp.move rfl rfl) ?_
      refine ROps.s rfl rfl rfl ?_
      refine ROps.s rfl rfl rfl ?_
      refine ROps.s rfl rfl rfl ?_
      refine ROps.l (r := AV.b true) rfl rfl rfl (LOp.pick_true rfl rfl rfl) ?_
      refine ROps.nil ?_
      refine RunC.cond_true rfl rfl ?_
      refine RunC.seq ?_
      refine RunC.regionW ?_
      refine ROps.l (r := AV.i64 0) rfl rfl rfl (LOp.assign rfl rfl) ?_
      refine ROps.l (r := AV.i64 0) rfl rfl rfl (LOp.assign rfl rfl) ?_
      refine ROps.l (r := AV.str lit_99ba06bc) rfl rfl rfl (LOp.assign rfl rfl) ?_
      refine ROps.l (r := AV.b false) rfl rfl rfl (LOp.assign rfl rfl) ?_
      refine ROps.nil ?_
      refine RunC.ret ?_
      have hq := Option.some.inj h
      obtain ⟨hq0, hq⟩ := Prod.mk.inj hq
      obtain ⟨hq1, hq⟩ := Prod.mk.inj hq
      obtain ⟨hq2, hq⟩ := Prod.mk.inj hq
      subst q0
      subst q1
      subst q2
      subst q3
      exact bodyQ.pure (.inr rfl) rfl (Res.four rfl (RV.tmp rfl) (RV.tmp rfl) (RV.tmp rfl) (RV.tmp rfl))
noncomputable def s_l06Bound_b1 (a0 : List Int) (a1 : Int) (v1 : Int) : Option (LR (Int) (Unit) (Bool)) :=
  bsel (decide (v1 < (a0.length : Int))) (
    obind (at? a0 v1) fun (e2 : Int) =>
    olet (IntKind.i64.wrap (0 - a1)) fun (x3 : Int) =>
    obind (s_l00In e2 x3 a1) fun (r4 : Bool) =>
    bsel r4 (
      olet (IntKind.i64.wrap (v1 + 1)) fun (x5 : Int) =>
      some (LR.next x5)) (
      some (LR.ret false))) (
    some (LR.out ()))
noncomputable def s_l06Bound_s1 (a0 : List Int) (a1 : Int) : (Int) → Option (LR (Int) (Unit) (Bool)) := fun s => s_l06Bound_b1 a0 a1 s
noncomputable def s_l06Bound_k1  : Option (Bool) :=
  some true
noncomputable def s_l06Bound (a0 : List Int) (a1 : Int) : Option (Bool) :=
  obind (loopM (s_l06Bound_s1 a0 a1) 0) fun z => osum z (fun _ => s_l06Bound_k1) (fun r => some r)
theorem s_l06Bound_ok (a0 : List Int) (a1 : Int) (q0 : Bool) (h : s_l06Bound a0 a1 = some q0) : Ev Tryd.prog 34 [AV.sl a0.length (a0.map AV.i64), AV.i64 a1] [] (AV.b q0) [] := by
  refine Ev.start Tryd.func34 rfl rfl 0 (τ := [(0, AV.sl a0.length (a0.map AV.i64)), (1, AV.i64 a1)]) rfl (Γ' := []) rfl (n := 43) rfl (g := 0) rfl (fun _ => rfl) ?_
  unfold s_l06Bound at h
  refine RunC.seq ?_
  refine RunC.regionW ?_
  refine ROps.l (r := AV.b false) rfl rfl rfl (LOp.assign rfl rfl) ?_
  refine ROps.nil ?_
  refine RunC.seq ?_
  refine RunC.seq ?_
  refine RunC.regionW ?_
  refine ROps.l (r := AV.i64 0) rfl rfl rfl (LOp.assign rfl rfl) ?_
  refine ROps.nil ?_
  obtain ⟨z2, hz_2, h⟩ := obind_some h
  refine RunC.cutN (fun τ Γ => WeakLe τ [] ∧ DeadLe Γ [] ∧ z2 = .inl ()) ?_ ?_
  · refine RunC.block (RunC.loop (RunL.loopM (x := z2) (s_l06Bound_s1 a0 a1) (fun (s : Int) τ Γ => WeakLe τ [(0, AV.sl a0.length (a0.map AV.i64)), (1, AV.i64 a1), (5, AV.i64 s)] ∧ DeadLe Γ []) ?_ _ _ _ hz_2 ⟨⟨(ALe.refl _), (ALe.refl _), (ALe.refl _), trivial⟩, trivial⟩))
    rintro v1 τ2 Γ2 y2_ ⟨hw2, hd2⟩ h2_ ho2 hr2
    refine RunC.wl (τ' := [(0, AV.sl a0.length (a0.map AV.i64)), (1, AV.i64 a1), (5, AV.i64 v1)]) (Γ' := []) hw2 hd2 ?_
    replace h2_ : s_l06Bound_b1 a0 a1 v1 = some y2_ := h2_
    unfold s_l06Bound_b1 at h2_
    refine RunC.seq ?_
    refine RunC.seq ?_
    rcases bsel_some h2_ with ⟨hc1, h2_⟩ | ⟨hc1, h2_⟩
    · refine RunC.regionW ?_
      refine ROps.l (r := AV.i64 v1) rfl rfl rfl (LOp.move rfl rfl) ?_
      refine ROps.l (r := AV.sl a0.length (a0.map AV.i64)) rfl rfl rfl (LOp.move rfl rfl) ?_
      refine ROps.l (r := AV.i64 (a0.length : Int)) rfl rfl rfl (LOp.len_sl und22 rfl rfl) ?_
      refine ROps.l (r := AV.b true) rfl rfl rfl (LOp.eqb (LOp.lss rfl rfl rfl) hc1) ?_
      refine ROps.nil ?_
      refine RunC.cond_true rfl rfl ?_
      refine RunC.skip ?_
      refine RunC.seq ?_
      refine RunC.block ?_
      refine RunC.seq ?_
      obtain ⟨e2, he2, h2_⟩ := obind_some h2_
      obtain ⟨x3, hx3, h2_⟩ := olet_some h2_
      obtain ⟨r4, hf4, h2_⟩ := obind_some h2_
      rcases bsel_some h2_ with ⟨hc5, h2_⟩ | ⟨hc5, h2_⟩
      · refine RunC.regionW ?_
        refine ROps.l (r := AV.sl a0.length (a0.map AV.i64)) rfl rfl rfl (LOp.move rfl rfl) ?_
        refine ROps.l (r := AV.i64 v1) rfl rfl rfl (LOp.move rfl rfl) ?_
        refine ROps.l (r := AV.ptr [AV.i64 e2]) rfl rfl rfl (LOp.le (LOp.ix (f := AV.i64) und22 siz2 rfl rfl rfl rfl he2) ALe.ptr) ?_
        refine ROps.l (r := AV.i64 e2) rfl rfl rfl (LOp.load1 agg2 rfl rfl) ?_
        refine ROps.l (r := AV.i64 a1) rfl rfl rfl (LOp.move rfl rfl) ?_
        refine ROps.l (r := AV.i64 x3) rfl rfl rfl (LOp.eqr (LOp.neg_int rfl rfl) (congrArg (AV.ik .i64) hx3)) ?_
        refine ROps.l (r := AV.i64 a1) rfl rfl rfl (LOp.move rfl rfl) ?_
        refine ROps.d (r := AV.b true) (fs := []) (Γ' := []) rfl rfl rfl (TOp.eqb (TOp.callB (CallAs.func ent32 rfl rfl) (Bors.cons (Bor.pure rfl) (Bors.cons (Bor.pure rfl) (Bors.cons (Bor.pure rfl) Bors.nil))) rfl rfl (s_l00In_ok e2 x3 a1 r4 hf4)) hc5) rfl ?_
        refine ROps.l (r := AV.b false) rfl rfl rfl (LOp.eqb (LOp.not rfl rfl) rfl) ?_
        refine ROps.nil ?_
        refine RunC.cond_false rfl rfl ?_
        refine RunC.skip ?_
        refine RunC.wl (τ' := [(0, AV.sl a0.length (a0.map AV.i64)), (1, AV.i64 a1), (5, AV.i64 v1)]) (Γ' := []) ⟨(ALe.refl _), (ALe.refl _), (ALe.refl _), trivial⟩ trivial ?_
        obtain ⟨x5, hx6, h2_⟩ := olet_some h2_
        refine RunC.regionW ?_
        refine ROps.l (r := AV.i64 v1) rfl rfl rfl (LOp.move rfl rfl) ?_
        refine ROps.l (r := AV.i64 x5) rfl rfl rfl (LOp.eqr (LOp.add rfl rfl rfl) (congrArg (AV.ik .i64) hx6)) ?_
        refine ROps.l (r := AV.i64 x5) rfl rfl rfl (LOp.assign rfl rfl) ?_
        refine ROps.nil ?_
        cases Option.some.inj h2_
        exact ⟨_, rfl, ⟨(ALe.refl _), (ALe.refl _), (ALe.refl _), trivial⟩, trivial⟩
      · refine RunC.regionW ?_
        refine ROps.l (r := AV.sl a0.length (a0.map AV.i64)) rfl rfl rfl (LOp.move rfl rfl) ?_
        refine ROps.l (r := AV.i64 v1) rfl rfl rfl (LOp.move rfl rfl) ?_
        refine ROps.l (r := AV.ptr [AV.i64 e2]) rfl rfl rfl (LOp.le (LOp.ix (f := AV.i64) und22 siz2 rfl rfl rfl rfl he2) ALe.ptr) ?_
        refine ROps.l (r := AV.i64 e2) rfl rfl rfl (LOp.load1 agg2 rfl rfl) ?_
        refine ROps.l (r := AV.i64 a1) rfl rfl rfl (LOp.move rfl rfl) ?_
        refine ROps.l (r := AV.i64 x3) rfl rfl rfl (LOp.eqr (LOp.neg_int rfl rfl) (congrArg (AV.ik .i64) hx3)) ?_
        refine ROps.l (r := AV.i64 a1) rfl rfl rfl (LOp.move rfl rfl) ?_
        refine ROps.d (r := AV.b false) (fs := []) (Γ' := []) rfl rfl rfl (TOp.eqb (TOp.callB (CallAs.func ent32 rfl rfl) (Bors.cons (Bor.pure rfl) (Bors.cons (Bor.pure rfl) (Bors.cons (Bor.pure rfl) Bors.nil))) rfl rfl (s_l00In_ok e2 x3 a1 r4 hf4)) hc5) rfl ?_
        refine ROps.l (r := AV.b true) rfl rfl rfl (LOp.eqb (LOp.not rfl rfl) rfl) ?_
        refine ROps.nil ?_
        refine RunC.cond_true rfl rfl ?_
        refine RunC.seq ?_
        refine RunC.regionW ?_
        refine ROps.l (r := AV.b false) rfl rfl rfl (LOp.assign rfl rfl) ?_
        refine ROps.nil ?_
        refine RunC.ret ?_
        cases Option.some.inj h2_
        have hx3_ := hr2 _ rfl
        subst hx3_
        have hq := Option.some.inj h
        subst q0
        exact bodyQ.pure (.inr rfl) rfl (Res.one rfl (RV.tmp rfl))
    · refine RunC.regionW ?_
      refine ROps.l (r := AV.i64 v1) rfl rfl rfl (LOp.move rfl rfl) ?_
      refine ROps.l (r := AV.sl a0.length (a0.map AV.i64)) rfl rfl rfl (LOp.move rfl rfl) ?_
      refine ROps.l (r := AV.i64 (a0.length : Int)) rfl rfl rfl (LOp.len_sl und22 rfl rfl) ?_
      refine ROps.l (r := AV.b false) rfl rfl rfl (LOp.eqb (LOp.lss rfl rfl rfl) hc1) ?_
      refine ROps.nil ?_
      refine RunC.cond_false rfl rfl ?_
      refine RunC.exit ?_
      cases Option.some.inj h2_
      have hx := ho2 _ rfl
      exact ⟨trivial, trivial, hx⟩
  · rintro τ4 Γ4 ⟨hw4, hd4, rfl⟩
    refine RunC.wl (τ' := []) (Γ' := []) hw4 hd4 ?_
    replace h : s_l06Bound_k1 = some q0 := h
    unfold s_l06Bound_k1 at h
    refine RunC.seq ?_
    refine RunC.regionW ?_
    refine ROps.l (r := AV.b true) rfl rfl rfl (LOp.assign rfl rfl) ?_
    refine ROps.nil ?_
    refine RunC.ret ?_
    have hq := Option.some.inj h
    subst q0
    exact bodyQ.pure (.inr rfl) rfl (Res.one rfl (RV.tmp rfl))
noncomputable def s_l06Is (a0 : Int) (a1 : Int) (a2 : List Int) (a3 : Int) : Option (Bool) :=
  obind (s_l00In a0 1 6) fun (r1 : Bool) =>
  bsel r1 (
    obind (s_l00In a1 1 6) fun (r2 : Bool) =>
    bsel r2 (
      olet (IntKind.i64.wrap (a0 * a1)) fun (x3 : Int) =>
      bsel (decide ((a2.length : Int) = x3)) (
        obind (s_l06Bound a2 a3) fun (r4 : Bool) =>
        some r4) (
        some false)) (
      some false)) (
    some false)
theorem s_l06Is_ok (a0 : Int) (a1 : Int) (a2 : List Int) (a3 : Int) (q0 : Bool) (h : s_l06Is a0 a1 a2 a3 = some q0) : Ev Tryd.prog 25 [AV.ptr [AV.i64 a0, AV.i64 a1, AV.sl a2.length (a2.map AV.i64)], AV.i64 a3] [] (AV.b q0) [] := by
  refine Ev.start Tryd.func25 rfl rfl 0 (τ := [(0, AV.ptr [AV.i64 a0, AV.i64 a1, AV.sl a2.length (a2.map AV.i64)]), (1, AV.i64 a3)]) rfl (Γ' := []) rfl (n := 85) rfl (g := 0) rfl (fun _ => rfl) ?_
  unfold s_l06Is at h
  refine RunC.seq ?_
  refine RunC.regionW ?_
  refine ROps.l (r := AV.b false) rfl rfl rfl (LOp.assign rfl rfl) ?_
  refine ROps.nil ?_
  refine RunC.seq ?_
  obtain ⟨r1, hf1, h⟩ := obind_some h
  rcases bsel_some h with ⟨hc2, h⟩ | ⟨hc2, h⟩
  · obtain ⟨r2, hf3, h⟩ := obind_some h
    rcases bsel_some h with ⟨hc4, h⟩ | ⟨hc4, h⟩
    · obtain ⟨x3, hx5, h⟩ := olet_some h
      rcases bsel_some h with ⟨hc6, h⟩ | ⟨hc6, h⟩
      · obtain ⟨r4, hf7, h⟩ := obind_some h
        refine RunC.region_draw (Γ' := []) 38 mixed 
          (TR.l (r := AV.ptr [AV.i64 a0, AV.i64 a1, AV.sl a2.length (a2.map AV.i64)]) rfl rfl (LOp.move rfl rfl) <|
          (TR.l (r := AV.ptr [AV.i64 a0, AV.i64 a1, AV.sl a2.length (a2.map AV.i64)]) rfl rfl (LOp.nilCheck_ptr rfl rfl) <|
          (TR.l (r := AV.ptr [AV.i64 a0, AV.i64 a1, AV.sl a2.length (a2.map AV.i64)]) rfl rfl (LOp.fap und24 rfl siz2 rfl rfl rfl) <|
          (TR.l (r := AV.i64 a0) rfl rfl (LOp.load1 agg2 rfl rfl) <|
          (TR.d (r := AV.b true) (fs := []) rfl rfl (TOp.eqb (TOp.callB (CallAs.func ent32 rfl rfl) (Bors.cons (Bor.pure rfl) (Bors.cons (Bor.pure rfl) (Bors.cons (Bor.pure rfl) Bors.nil))) rfl rfl (s_l00In_ok a0 1 6 r1 hf1)) hc2) <|
          (TR.l (r := AV.b true) rfl rfl (LOp.move rfl rfl) <|
          (TR.l (r := AV.ptr [AV.i64 a0, AV.i64 a1, AV.sl a2.length (a2.map AV.i64)]) rfl rfl (LOp.move rfl rfl) <|
          (TR.l (r := AV.ptr [AV.i64 a0, AV.i64 a1, AV.sl a2.length (a2.map AV.i64)]) rfl rfl (LOp.nilCheck_ptr rfl rfl) <|
          (TR.l (r := AV.ptr [AV.i64 a1, AV.sl a2.length (a2.map AV.i64)]) rfl rfl (LOp.fap und24 rfl siz2 rfl rfl rfl) <|
          (TR.l (r := AV.i64 a1) rfl rfl (LOp.load1 agg2 rfl rfl) <|
          (TR.d (r := AV.b true) (fs := []) rfl rfl (TOp.eqb (TOp.callB (CallAs.func ent32 rfl rfl) (Bors.cons (Bor.pure rfl) (Bors.cons (Bor.pure rfl) (Bors.cons (Bor.pure rfl) Bors.nil))) rfl rfl (s_l00In_ok a1 1 6 r2 hf3)) hc4) <|
          (TR.l (r := AV.b true) rfl rfl (LOp.pick_true rfl rfl rfl) <|
          (TR.l (r := AV.b true) rfl rfl (LOp.move rfl rfl) <|
          (TR.l (r := AV.ptr [AV.i64 a0, AV.i64 a1, AV.sl a2.length (a2.map AV.i64)]) rfl rfl (LOp.move rfl rfl) <|
          (TR.l (r := AV.ptr [AV.i64 a0, AV.i64 a1, AV.sl a2.length (a2.map AV.i64)]) rfl rfl (LOp.nilCheck_ptr rfl rfl) <|
          (TR.l (r := AV.ptr [AV.sl a2.length (a2.map AV.i64)]) rfl rfl (LOp.fap und24 rfl siz22 rfl rfl rfl) <|
          (TR.l (r := AV.sl a2.length (a2.map AV.i64)) rfl rfl (LOp.load1 agg22 rfl rfl) <|
          (TR.l (r := AV.i64 (a2.length : Int)) rfl rfl (LOp.len_sl und22 rfl rfl) <|
          (TR.l (r := AV.ptr [AV.i64 a0, AV.i64 a1, AV.sl a2.length (a2.map AV.i64)]) rfl rfl (LOp.move rfl rfl) <|
          (TR.l (r := AV.ptr [AV.i64 a0, AV.i64 a1, AV.sl a2.length (a2.map AV.i64)]) rfl rfl (LOp.nilCheck_ptr rfl rfl) <|
          (TR.l (r := AV.ptr [AV.i64 a0, AV.i64 a1, AV.sl a2.length (a2.map AV.i64)]) rfl rfl (LOp.fap und24 rfl siz2 rfl rfl rfl) <|
          (TR.l (r := AV.i64 a0) rfl rfl (LOp.load1 agg2 rfl rfl) <|
          (TR.l (r := AV.ptr [AV.i64 a0, AV.i64 a1, AV.sl a2.length (a2.map AV.i64)]) rfl rfl (LOp.move rfl rfl) <|
          (TR.l (r := AV.ptr [AV.i64 a0, AV.i64 a1, AV.sl a2.length (a2.map AV.i64)]) rfl rfl (LOp.nilCheck_ptr rfl rfl) <|
          (TR.l (r := AV.ptr [AV.i64 a1, AV.sl a2.length (a2.map AV.i64)]) rfl rfl (LOp.fap und24 rfl siz2 rfl rfl rfl) <|
          (TR.l (r := AV.i64 a1) rfl rfl (LOp.load1 agg2 rfl rfl) <|
          (TR.l (r := AV.i64 x3) rfl rfl (LOp.eqr (LOp.mul rfl rfl rfl) (congrArg (AV.ik .i64) hx5)) <|
          (TR.l (r := AV.b true) rfl rfl (LOp.eqb (LOp.eql rfl rfl rfl) hc6) <|
          (TR.l (r := AV.b true) rfl rfl (LOp.pick_true rfl rfl rfl) <|
          (TR.l (r := AV.b true) rfl rfl (LOp.move rfl rfl) <|
          (TR.l (r := AV.ptr [AV.i64 a0, AV.i64 a1, AV.sl a2.length (a2.map AV.i64)]) rfl rfl (LOp.move rfl rfl) <|
          (TR.l (r := AV.ptr [AV.i64 a0, AV.i64 a1, AV.sl a2.length (a2.map AV.i64)]) rfl rfl (LOp.nilCheck_ptr rfl rfl) <|
          (TR.l (r := AV.ptr [AV.sl a2.length (a2.map AV.i64)]) rfl rfl (LOp.fap und24 rfl siz22 rfl rfl rfl) <|
          (TR.l (r := AV.sl a2.length (a2.map AV.i64)) rfl rfl (LOp.load1 agg22 rfl rfl) <|
          (TR.l (r := AV.i64 a3) rfl rfl (LOp.move rfl rfl) <|
          (TR.d (r := AV.b r4) (fs := []) rfl rfl (TOp.callB (CallAs.func ent34 rfl rfl) (Bors.cons (Bor.sl (fun _ => rfl)) (Bors.cons (Bor.pure rfl) Bors.nil)) rfl rfl (s_l06Bound_ok a2 a3 r4 hf7)) <|
          (TR.l (r := AV.b r4) rfl rfl (LOp.pick_true rfl rfl rfl) <|
          (TR.l (r := AV.b r4) rfl rfl (LOp.assign rfl rfl) <|
          TR.nil)))))))))))))))))))))))))))))))))))))) rfl (by kernel_rfl) rfl fills_nil rfl ?_
        iterate 38 refine ROps.dropS ?_
        refine ROps.drop0 ?_
        refine ROps.nil ?_
        refine RunC.ret ?_
        have hq := Option.some.inj h
        subst q0
        exact bodyQ.pure (.inr rfl) rfl (Res.one rfl (RV.tmp rfl))
      · refine RunC.region_draw (Γ' := []) 38 mixed 
          (TR.l (r := AV.ptr [AV.i64 a0, AV.i64 a1, AV.sl a2.length (a2.map AV.i64)]) rfl rfl (LOp.move rfl rfl) <|
          (TR.l (r := AV.ptr [AV.i64 a0, AV.i64 a1, AV.sl a2.length (a2.map AV.i64)]) rfl rfl (LOp.nilCheck_ptr rfl rfl) <|
          (TR.l (r := AV.ptr [AV.i64 a0, AV.i64 a1, AV.sl a2.length (a2.map AV.i64)]) rfl rfl (LOp.fap und24 rfl siz2 rfl rfl rfl) <|
          (TR.l (r := AV.i64 a0) rfl rfl (LOp.load1 agg2 rfl rfl) <|
          (TR.d (r := AV.b true) (fs := []) rfl rfl (TOp.eqb (TOp.callB (CallAs.func ent32 rfl rfl) (Bors.cons (Bor.pure rfl) (Bors.cons (Bor.pure rfl) (Bors.cons (Bor.pure rfl) Bors.nil))) rfl rfl (s_l00In_ok a0 1 6 r1 hf1)) hc2) <|
          (TR.l (r := AV.b true) rfl rfl (LOp.move rfl rfl) <|
          (TR.l (r := AV.ptr [AV.i64 a0, AV.i64 a1, AV.sl a2.length (a2.map AV.i64)]) rfl rfl (LOp.move rfl rfl) <|
          (TR.l (r := AV.ptr [AV.i64 a0, AV.i64 a1, AV.sl a2.length (a2.map AV.i64)]) rfl rfl (LOp.nilCheck_ptr rfl rfl) <|
          (TR.l (r := AV.ptr [AV.i64 a1, AV.sl a2.length (a2.map AV.i64)]) rfl rfl (LOp.fap und24 rfl siz2 rfl rfl rfl) <|
          (TR.l (r := AV.i64 a1) rfl rfl (LOp.load1 agg2 rfl rfl) <|
          (TR.d (r := AV.b true) (fs := []) rfl rfl (TOp.eqb (TOp.callB (CallAs.func ent32 rfl rfl) (Bors.cons (Bor.pure rfl) (Bors.cons (Bor.pure rfl) (Bors.cons (Bor.pure rfl) Bors.nil))) rfl rfl (s_l00In_ok a1 1 6 r2 hf3)) hc4) <|
          (TR.l (r := AV.b true) rfl rfl (LOp.pick_true rfl rfl rfl) <|
          (TR.l (r := AV.b true) rfl rfl (LOp.move rfl rfl) <|
          (TR.l (r := AV.ptr [AV.i64 a0, AV.i64 a1, AV.sl a2.length (a2.map AV.i64)]) rfl rfl (LOp.move rfl rfl) <|
          (TR.l (r := AV.ptr [AV.i64 a0, AV.i64 a1, AV.sl a2.length (a2.map AV.i64)]) rfl rfl (LOp.nilCheck_ptr rfl rfl) <|
          (TR.l (r := AV.ptr [AV.sl a2.length (a2.map AV.i64)]) rfl rfl (LOp.fap und24 rfl siz22 rfl rfl rfl) <|
          (TR.l (r := AV.sl a2.length (a2.map AV.i64)) rfl rfl (LOp.load1 agg22 rfl rfl) <|
          (TR.l (r := AV.i64 (a2.length : Int)) rfl rfl (LOp.len_sl und22 rfl rfl) <|
          (TR.l (r := AV.ptr [AV.i64 a0, AV.i64 a1, AV.sl a2.length (a2.map AV.i64)]) rfl rfl (LOp.move rfl rfl) <|
          (TR.l (r := AV.ptr [AV.i64 a0, AV.i64 a1, AV.sl a2.length (a2.map AV.i64)]) rfl rfl (LOp.nilCheck_ptr rfl rfl) <|
          (TR.l (r := AV.ptr [AV.i64 a0, AV.i64 a1, AV.sl a2.length (a2.map AV.i64)]) rfl rfl (LOp.fap und24 rfl siz2 rfl rfl rfl) <|
          (TR.l (r := AV.i64 a0) rfl rfl (LOp.load1 agg2 rfl rfl) <|
          (TR.l (r := AV.ptr [AV.i64 a0, AV.i64 a1, AV.sl a2.length (a2.map AV.i64)]) rfl rfl (LOp.move rfl rfl) <|
          (TR.l (r := AV.ptr [AV.i64 a0, AV.i64 a1, AV.sl a2.length (a2.map AV.i64)]) rfl rfl (LOp.nilCheck_ptr rfl rfl) <|
          (TR.l (r := AV.ptr [AV.i64 a1, AV.sl a2.length (a2.map AV.i64)]) rfl rfl (LOp.fap und24 rfl siz2 rfl rfl rfl) <|
          (TR.l (r := AV.i64 a1) rfl rfl (LOp.load1 agg2 rfl rfl) <|
          (TR.l (r := AV.i64 x3) rfl rfl (LOp.eqr (LOp.mul rfl rfl rfl) (congrArg (AV.ik .i64) hx5)) <|
          (TR.l (r := AV.b false) rfl rfl (LOp.eqb (LOp.eql rfl rfl rfl) hc6) <|
          (TR.l (r := AV.b false) rfl rfl (LOp.pick_true rfl rfl rfl) <|
          (TR.l (r := AV.b false) rfl rfl (LOp.move rfl rfl) <|
          (TR.s rfl rfl <|
          (TR.s rfl rfl <|
          (TR.s rfl rfl <|
          (TR.s rfl rfl <|
          (TR.s rfl rfl <|
          (TR.s rfl rfl <|
          (TR.l (r := AV.b false) rfl rfl (LOp.pick_false rfl rfl rfl) <|
          (TR.l (r := AV.b false) rfl rfl (LOp.assign rfl rfl) <|
          TR.nil)))))))))))))))))))))))))))))))))))))) rfl (by kernel_rfl) rfl fills_nil rfl ?_
        iterate 38 refine ROps.dropS ?_
        refine ROps.drop0 ?_
        refine ROps.nil ?_
        refine RunC.ret ?_
        have hq := Option.some.inj h
        subst q0
        exact bodyQ.pure (.inr rfl) rfl (Res.one rfl (RV.tmp rfl))
    · refine RunC.region_draw (Γ' := []) 38 mixed 
        (TR.l (r := AV.ptr [AV.i64 a0, AV.i64 a1, AV.sl a2.length (a2.map AV.i64)]) rfl rfl (LOp.move rfl rfl) <|
        (TR.l (r := AV.ptr [AV.i64 a0, AV.i64 a1, AV.sl a2.length (a2.map AV.i64)]) rfl rfl (LOp.nilCheck_ptr rfl rfl) <|
        (TR.l (r := AV.ptr [AV.i64 a0, AV.i64 a1, AV.sl a2.length (a2.map AV.i64)]) rfl rfl (LOp.fap und24 rfl siz2 rfl rfl rfl) <|
        (TR.l (r := AV.i64 a0) rfl rfl (LOp.load1 agg2 rfl rfl) <|
        (TR.d (r := AV.b true) (fs := []) rfl rfl (TOp.eqb (TOp.callB (CallAs.func ent32 rfl rfl) (Bors.cons (Bor.pure rfl) (Bors.cons (Bor.pure rfl) (Bors.cons (Bor.pure rfl) Bors.nil))) rfl rfl (s_l00In_ok a0 1 6 r1 hf1)) hc2) <|
        (TR.l (r := AV.b true) rfl rfl (LOp.move rfl rfl) <|
        (TR.l (r := AV.ptr [AV.i64 a0, AV.i64 a1, AV.sl a2.length (a2.map AV.i64)]) rfl rfl (LOp.move rfl rfl) <|
        (TR.l (r := AV.ptr [AV.i64 a0, AV.i64 a1, AV.sl a2.length (a2.map AV.i64)]) rfl rfl (LOp.nilCheck_ptr rfl rfl) <|
        (TR.l (r := AV.ptr [AV.i64 a1, AV.sl a2.length (a2.map AV.i64)]) rfl rfl (LOp.fap und24 rfl siz2 rfl rfl rfl) <|
        (TR.l (r := AV.i64 a1) rfl rfl (LOp.load1 agg2 rfl rfl) <|
        (TR.d (r := AV.b false) (fs := []) rfl rfl (TOp.eqb (TOp.callB (CallAs.func ent32 rfl rfl) (Bors.cons (Bor.pure rfl) (Bors.cons (Bor.pure rfl) (Bors.cons (Bor.pure rfl) Bors.nil))) rfl rfl (s_l00In_ok a1 1 6 r2 hf3)) hc4) <|
        (TR.l (r := AV.b false) rfl rfl (LOp.pick_true rfl rfl rfl) <|
        (TR.l (r := AV.b false) rfl rfl (LOp.move rfl rfl) <|
        (TR.s rfl rfl <|
        (TR.s rfl rfl <|
        (TR.s rfl rfl <|
        (TR.s rfl rfl <|
        (TR.s rfl rfl <|
        (TR.s rfl rfl <|
        (TR.s rfl rfl <|
        (TR.s rfl rfl <|
        (TR.s rfl rfl <|
        (TR.s rfl rfl <|
        (TR.s rfl rfl <|
        (TR.s rfl rfl <|
        (TR.s rfl rfl <|
        (TR.s rfl rfl <|
        (TR.s rfl rfl <|
        (TR.l (r := AV.b false) rfl rfl (LOp.pick_false rfl rfl rfl) <|
        (TR.l (r := AV.b false) rfl rfl (LOp.move rfl rfl) <|
        (TR.s rfl rfl <|
        (TR.s rfl rfl <|
        (TR.s rfl rfl <|
        (TR.s rfl rfl <|
        (TR.s rfl rfl <|
        (TR.s rfl rfl <|
        (TR.l (r := AV.b false) rfl rfl (LOp.pick_false rfl rfl rfl) <|
        (TR.l (r := AV.b false) rfl rfl (LOp.assign rfl rfl) <|
        TR.nil)))))))))))))))))))))))))))))))))))))) rfl (by kernel_rfl) rfl fills_nil rfl ?_
      iterate 38 refine ROps.dropS ?_
      refine ROps.drop0 ?_
      refine ROps.nil ?_
      refine RunC.ret ?_
      have hq := Option.some.inj h
      subst q0
      exact bodyQ.pure (.inr rfl) rfl (Res.one rfl (RV.tmp rfl))
  · refine RunC.region_draw (Γ' := []) 38 mixed 
      (TR.l (r := AV.ptr [AV.i64 a0, AV.i64 a1, AV.sl a2.length (a2.map AV.i64)]) rfl rfl (LOp.move rfl rfl) <|
      (TR.l (r := AV.ptr [AV.i64 a0, AV.i64 a1, AV.sl a2.length (a2.map AV.i64)]) rfl rfl (LOp.nilCheck_ptr rfl rfl) <|
      (TR.l (r := AV.ptr [AV.i64 a0, AV.i64 a1, AV.sl a2.length (a2.map AV.i64)]) rfl rfl (LOp.fap und24 rfl siz2 rfl rfl rfl) <|
      (TR.l (r := AV.i64 a0) rfl rfl (LOp.load1 agg2 rfl rfl) <|
      (TR.d (r := AV.b false) (fs := []) rfl rfl (TOp.eqb (TOp.callB (CallAs.func ent32 rfl rfl) (Bors.cons (Bor.pure rfl) (Bors.cons (Bor.pure rfl) (Bors.cons (Bor.pure rfl) Bors.nil))) rfl rfl (s_l00In_ok a0 1 6 r1 hf1)) hc2) <|
      (TR.l (r := AV.b false) rfl rfl (LOp.move rfl rfl) <|
      (TR.s rfl rfl <|
      (TR.s rfl rfl <|
      (TR.s rfl rfl <|
      (TR.s rfl rfl <|
      (TR.s rfl rfl <|
      (TR.l (r := AV.b false) rfl rfl (LOp.pick_false rfl rfl rfl) <|
      (TR.l (r := AV.b false) rfl rfl (LOp.move rfl rfl) <|
      (TR.s rfl rfl <|
      (TR.s rfl rfl <|
      (TR.s rfl rfl <|
      (TR.s rfl rfl <|
      (TR.s rfl rfl <|
      (TR.s rfl rfl <|
      (TR.s rfl rfl <|
      (TR.s rfl rfl <|
      (TR.s rfl rfl <|
      (TR.s rfl rfl <|
      (TR.s rfl rfl <|
      (TR.s rfl rfl <|
      (TR.s rfl rfl <|
      (TR.s rfl rfl <|
      (TR.s rfl rfl <|
      (TR.l (r := AV.b false) rfl rfl (LOp.pick_false rfl rfl rfl) <|
      (TR.l (r := AV.b false) rfl rfl (LOp.move rfl rfl) <|
      (TR.s rfl rfl <|
      (TR.s rfl rfl <|
      (TR.s rfl rfl <|
      (TR.s rfl rfl <|
      (TR.s rfl rfl <|
      (TR.s rfl rfl <|
      (TR.l (r := AV.b false) rfl rfl (LOp.pick_false rfl rfl rfl) <|
      (TR.l (r := AV.b false) rfl rfl (LOp.assign rfl rfl) <|
      TR.nil)))))))))))))))))))))))))))))))))))))) rfl (by kernel_rfl) rfl fills_nil rfl ?_
    iterate 38 refine ROps.dropS ?_
    refine ROps.drop0 ?_
    refine ROps.nil ?_
    refine RunC.ret ?_
    have hq := Option.some.inj h
    subst q0
    exact bodyQ.pure (.inr rfl) rfl (Res.one rfl (RV.tmp rfl))
noncomputable def s_l06Give_02o (a0 : Int) (a1 : Int) (a2 : List Int) : Option ((Int × Int × Bool × (List Int)) ⊕ (Int × Int × Bool × (List Int) × (List Int))) :=
  obind (s_l06Is a0 a1 a2 1000000) fun (r1 : Bool) =>
  bsel r1 (
    some (Sum.inl (a0, a1, true, a2))) (
    some (Sum.inr (0, 0, false, a2, ([] : List Int))))
theorem s_l06Give_02o_ok0 (a0 : Int) (a1 : Int) (a2 : List Int) (q0 : Int) (q1 : Int) (q2 : Bool) (q3 : List Int) (h : s_l06Give_02o a0 a1 a2 = some (Sum.inl (q0, q1, q2, q3))) : Ev Tryd.prog 18 [AV.agg [AV.i64 a0, AV.i64 a1, AV.oref 0 0 0 a2.length]] [⟨0, some (a2.map AV.i64)⟩] (AV.tup [AV.agg [AV.i64 q0, AV.i64 q1, AV.oref 0 0 0 q3.length], AV.b q2]) [⟨0, some (q3.map AV.i64)⟩] := by
  refine Ev.start Tryd.func18 rfl rfl 2 (τ := [(0, AV.agg [AV.i64 a0, AV.i64 a1, AV.oref 0 0 0 a2.length])]) rfl (Γ' := [⟨0, some (a2.map AV.i64)⟩, ⟨0, none⟩, ⟨0, none⟩]) rfl (n := 16) rfl (g := 1) rfl (by decide) ?_
  unfold s_l06Give_02o at h
  refine RunC.seq ?_
  refine RunC.regionW ?_
  refine ROps.d (r := AV.ptr [AV.i64 a0, AV.i64 a1, AV.oref 0 0 0 a2.length]) (fs := []) (Γ' := [⟨0, some (a2.map AV.i64)⟩, ⟨0, none⟩, ⟨0, none⟩]) rfl rfl rfl (TOp.box_s rfl rfl rfl) rfl ?_
  refine ROps.d (r := AV.optr 1 1 0) (fs := [(1, [AV.i64 0, AV.i64 0, AV.nilsl])]) (Γ' := [⟨0, some (a2.map AV.i64)⟩, ⟨1, some [AV.i64 0, AV.i64 0, AV.nilsl]⟩, ⟨0, none⟩]) rfl rfl rfl (TOp.alloc_o (g := ⟨0, none⟩) 1 rfl zer24 zok24 rfl) rfl ?_
  refine ROps.l (r := AV.b false) rfl rfl rfl (LOp.assign rfl rfl) ?_
  refine ROps.nil ?_
  refine RunC.seq ?_
  refine RunC.seq ?_
  obtain ⟨r1, hf1, h⟩ := obind_some h
  rcases bsel_some h with ⟨hc2, h⟩ | ⟨hc2, h⟩
  · refine RunC.regionW ?_
    refine ROps.d (r := AV.b true) (fs := []) (Γ' := [⟨0, some (a2.map AV.i64)⟩, ⟨1, some [AV.i64 0, AV.i64 0, AV.nilsl]⟩, ⟨0, none⟩]) rfl rfl rfl (TOp.eqb (TOp.callB (CallAs.func ent25 rfl rfl) (Bors.cons (Bor.ptr (Bors.cons (Bor.pure rfl) (Bors.cons (Bor.pure rfl) (Bors.cons (Bor.own (f := AV.i64) (fun _ => rfl) rfl rfl) Bors.nil)))) (Bors.cons (Bor.pure rfl) Bors.nil)) rfl rfl (s_l06Is_ok a0 a1 a2 1000000 r1 hf1)) hc2) rfl ?_
    refine ROps.l (r := AV.b false) rfl rfl rfl (LOp.eqb (LOp.not rfl rfl) rfl) ?_
    refine ROps.nil ?_
    refine RunC.cond_false rfl rfl ?_
    refine RunC.skip ?_
    refine RunC.seq ?_
    refine RunC.regionW ?_
    refine ROps.l (r := AV.agg [AV.i64 a0, AV.i64 a1, AV.oref 0 0 0 a2.length]) rfl rfl rfl (LOp.loadAgg agg24 siz24 rfl rfl rfl rfl) ?_
    refine ROps.store_le (r := AV.agg [AV.i64 a0, AV.i64 a1, AV.oref 0 0 0 a2.length]) (l' := [AV.i64 a0, AV.i64 a1, AV.oref 0 0 0 a2.length]) (Γ' := [⟨0, some (a2.map AV.i64)⟩, ⟨1, some [AV.i64 a0, AV.i64 a1, AV.oref 0 0 0 a2.length]⟩, ⟨0, none⟩]) rfl siz24 rfl rfl rfl (ALe.refl _) rfl rfl rfl rfl (Nat.le_of_ble_eq_true rfl) rfl rfl ?_
    refine ROps.l (r := AV.b true) rfl rfl rfl (LOp.assign rfl rfl) ?_
    refine ROps.nil ?_
    refine RunC.ret ?_
    have hq := Option.some.inj h
    have hq := Sum.inl.inj hq
    obtain ⟨hq0, hq⟩ := Prod.mk.inj hq
    obtain ⟨hq1, hq⟩ := Prod.mk.inj hq
    obtain ⟨hq2, hq⟩ := Prod.mk.inj hq
    subst q0
    subst q1
    subst q2
    subst q3
    exact bodyQ.mk (r' := AV.tup [AV.agg [AV.i64 a0, AV.i64 a1, AV.oref 0 0 0 a2.length], AV.b true]) [(0, 0)] (.inr rfl) rfl (show List.Nodup [0] from by decide) rfl rfl (Res.two rfl (RV.cell agg24 siz24 rfl rfl rfl rfl) (RV.tmp rfl)) (SelL.arr (f := AV.i64) (fun _ => rfl) rfl trivial)
  · refine RunC.regionW ?_
    refine ROps.d (r := AV.b false) (fs := []) (Γ' := [⟨0, some (a2.map AV.i64)⟩, ⟨1, some [AV.i64 0, AV.i64 0, AV.nilsl]⟩, ⟨0, none⟩]) rfl rfl rfl (TOp.eqb (TOp.callB (CallAs.func ent25 rfl rfl) (Bors.cons (Bor.ptr (Bors.cons (Bor.pure rfl) (Bors.cons (Bor.pure rfl) (Bors.cons (Bor.own (f := AV.i64) (fun _ => rfl) rfl rfl) Bors.nil)))) (Bors.cons (Bor.pure rfl) Bors.nil)) rfl rfl (s_l06Is_ok a0 a1 a2 1000000 r1 hf1)) hc2) rfl ?_
    refine ROps.l (r := AV.b true) rfl rfl rfl (LOp.eqb (LOp.not rfl rfl) rfl) ?_
    refine ROps.nil ?_
    refine RunC.cond_true rfl rfl ?_
    refine RunC.seq ?_
    refine RunC.regionW ?_
    refine ROps.l (r := AV.agg [AV.i64 0, AV.i64 0, AV.nilsl]) rfl rfl rfl (LOp.build (qs := []) zer24 zok24 und24 plc24 rfl trivial rfl) ?_
    refine ROps.store_le (r := AV.agg [AV.i64 0, AV.i64 0, AV.nilsl]) (l' := [AV.i64 0, AV.i64 0, AV.nilsl]) (Γ' := [⟨0, some (a2.map AV.i64)⟩, ⟨1, some [AV.i64 0, AV.i64 0, AV.nilsl]⟩, ⟨0, none⟩]) rfl siz24 rfl rfl rfl (ALe.refl _) rfl rfl rfl rfl (Nat.le_of_ble_eq_true rfl) rfl rfl ?_
    refine ROps.l (r := AV.b false) rfl rfl rfl (LOp.assign rfl rfl) ?_
    refine ROps.nil ?_
    cases Option.some.inj h
theorem s_l06Give_02o_ok1 (a0 : Int) (a1 : Int) (a2 : List Int) (q0 : Int) (q1 : Int) (q2 : Bool) (q3 : List Int) (q4 : List Int) (h : s_l06Give_02o a0 a1 a2 = some (Sum.inr (q0, q1, q2, q3, q4))) : Ev Tryd.prog 18 [AV.agg [AV.i64 a0, AV.i64 a1, AV.oref 0 0 0 a2.length]] [⟨0, some (a2.map AV.i64)⟩] (AV.tup [AV.agg [AV.i64 q0, AV.i64 q1, AV.oref 1 0 0 q4.length], AV.b q2]) [⟨0, some (q3.map AV.i64)⟩, ⟨0, some (q4.map AV.i64)⟩] := by
  refine Ev.start Tryd.func18 rfl rfl 2 (τ := [(0, AV.agg [AV.i64 a0, AV.i64 a1, AV.oref 0 0 0 a2.length])]) rfl (Γ' := [⟨0, some (a2.map AV.i64)⟩, ⟨0, none⟩, ⟨0, none⟩]) rfl (n := 16) rfl (g := 1) rfl (by decide) ?_
  unfold s_l06Give_02o at h
  refine RunC.seq ?_
  refine RunC.regionW ?_
  refine ROps.d (r := AV.ptr [AV.i64 a0, AV.i64 a1, AV.oref 0 0 0 a2.length]) (fs := []) (Γ' := [⟨0, some (a2.map AV.i64)⟩, ⟨0, none⟩, ⟨0, none⟩]) rfl rfl rfl (TOp.box_s rfl rfl rfl) rfl ?_
  refine ROps.d (r := AV.optr 1 1 0) (fs := [(1, [AV.i64 0, AV.i64 0, AV.nilsl])]) (Γ' := [⟨0, some (a2.map AV.i64)⟩, ⟨1, some [AV.i64 0, AV.i64 0, AV.nilsl]⟩, ⟨0, none⟩]) rfl rfl rfl (TOp.alloc_o (g := ⟨0, none⟩) 1 rfl zer24 zok24 rfl) rfl ?_
  refine ROps.l (r := AV.b false) rfl rfl rfl (LOp.assign rfl rfl) ?_
  refine ROps.nil ?_
  refine RunC.seq ?_
  refine RunC.seq ?_
  obtain ⟨r1, hf1, h⟩ := obind_some h
  rcases bsel_some h with ⟨hc2, h⟩ | ⟨hc2, h⟩
  · refine RunC.regionW ?_
    refine ROps.d (r := AV.b true) (fs := []) (Γ' := [⟨0, some (a2.map AV.i64)⟩, ⟨1, some [AV.i64 0, AV.i64 0, AV.nilsl]⟩, ⟨0, none⟩]) rfl rfl rfl (TOp.eqb (TOp.callB (CallAs.func ent25 rfl rfl) (Bors.cons (Bor.ptr (Bors.cons (Bor.pure rfl) (Bors.cons (Bor.pure rfl) (Bors.cons (Bor.own (f := AV.i64) (fun _ => rfl) rfl rfl) Bors.nil)))) (Bors.cons (Bor.pure rfl) Bors.nil)) rfl rfl (s_l06Is_ok a0 a1 a2 1000000 r1 hf1)) hc2) rfl ?_
    refine ROps.l (r := AV.b false) rfl rfl rfl (LOp.eqb (LOp.not rfl rfl) rfl) ?_
    refine ROps.nil ?_
    refine RunC.cond_false rfl rfl ?_
    refine RunC.skip ?_
    refine RunC.seq ?_
    refine RunC.regionW ?_
    refine ROps.l (r := AV.agg [AV.i64 a0, AV.i64 a1, AV.oref 0 0 0 a2.length]) rfl rfl rfl (LOp.loadAgg agg24 siz24 rfl rfl rfl rfl) ?_
    refine ROps.store_le (r := AV.agg [AV.i64 a0, AV.i64 a1, AV.oref 0 0 0 a2.length]) (l' := [AV.i64 a0, AV.i64 a1, AV.oref 0 0 0 a2.length]) (Γ' := [⟨0, some (a2.map AV.i64)⟩, ⟨1, some [AV.i64 a0, AV.i64 a1, AV.oref 0 0 0 a2.length]⟩, ⟨0, none⟩]) rfl siz24 rfl rfl rfl (ALe.refl _) rfl rfl rfl rfl (Nat.le_of_ble_eq_true rfl) rfl rfl ?_
    refine ROps.l (r := AV.b true) rfl rfl rfl (LOp.assign rfl rfl) ?_
    refine ROps.nil ?_
    cases Option.some.inj h
  · refine RunC.regionW ?_
    refine ROps.d (r := AV.b false) (fs := []) (Γ' := [⟨0, some (a2.map AV.i64)⟩, ⟨1, some [AV.i64 0, AV.i64 0, AV.nilsl]⟩, ⟨0, none⟩]) rfl rfl rfl (TOp.eqb (TOp.callB (CallAs.func ent25 rfl rfl) (Bors.cons (Bor.ptr (Bors.cons (Bor.pure rfl) (Bors.cons (Bor.pure rfl) (Bors.cons (Bor.own (f := AV.i64) (fun _ => rfl) rfl rfl) Bors.nil)))) (Bors.cons (Bor.pure rfl) Bors.nil)) rfl rfl (s_l06Is_ok a0 a1 a2 1000000 r1 hf1)) hc2) rfl ?_
    refine ROps.l (r := AV.b true) rfl rfl rfl (LOp.eqb (LOp.not rfl rfl) rfl) ?_
    refine ROps.nil ?_
    refine RunC.cond_true rfl rfl ?_
    refine RunC.seq ?_
    refine RunC.regionW ?_
    refine ROps.l (r := AV.agg [AV.i64 0, AV.i64 0, AV.nilsl]) rfl rfl rfl (LOp.build (qs := []) zer24 zok24 und24 plc24 rfl trivial rfl) ?_
    refine ROps.store_le (r := AV.agg [AV.i64 0, AV.i64 0, AV.nilsl]) (l' := [AV.i64 0, AV.i64 0, AV.nilsl]) (Γ' := [⟨0, some (a2.map AV.i64)⟩, ⟨1, some [AV.i64 0, AV.i64 0, AV.nilsl]⟩, ⟨0, none⟩]) rfl siz24 rfl rfl rfl (ALe.refl _) rfl rfl rfl rfl (Nat.le_of_ble_eq_true rfl) rfl rfl ?_
    refine ROps.l (r := AV.b false) rfl rfl rfl (LOp.assign rfl rfl) ?_
    refine ROps.nil ?_
    refine RunC.nil_cell (l' := [AV.i64 0, AV.i64 0, AV.oref 2 1 0 0]) (Γ' := [⟨0, some (a2.map AV.i64)⟩, ⟨1, some [AV.i64 0, AV.i64 0, AV.oref 2 1 0 0]⟩, ⟨1, some (([] : List Int).map AV.i64)⟩]) 1 2 2 rfl rfl rfl rfl rfl ?_
    refine RunC.ret ?_
    have hq := Option.some.inj h
    have hq := Sum.inr.inj hq
    obtain ⟨hq0, hq⟩ := Prod.mk.inj hq
    obtain ⟨hq1, hq⟩ := Prod.mk.inj hq
    obtain ⟨hq2, hq⟩ := Prod.mk.inj hq
    obtain ⟨hq3, hq⟩ := Prod.mk.inj hq
    subst q0
    subst q1
    subst q2
    subst q3
    subst q4
    exact bodyQ.mk (r' := AV.tup [AV.agg [AV.i64 0, AV.i64 0, AV.oref 2 1 0 (([] : List Int).length)], AV.b false]) [(0, 0), (2, 1)] (.inr rfl) rfl (show List.Nodup [0, 2] from by decide) rfl rfl (Res.eq (Res.two rfl (RV.cell agg24 siz24 rfl rfl rfl rfl) (RV.tmp rfl)) (by rw [(show ([] : List Int).length = 0 from rfl)] <;> rfl)) (SelL.arr (f := AV.i64) (fun _ => rfl) rfl (SelL.arr0 (f := AV.i64) (fun _ => rfl) rfl trivial))
noncomputable def s_l08ReadWhole (a0 : ByteArray) : Option (Int × Int × Bool × (List Int)) :=
  obind4 (s_l08Sides a0) fun (r1 : Int) (r2 : Int) (r3 : ByteArray) (r4 : Bool) =>
  bsel r4 (
    obind2 (s_l01Numbers r3) fun (r5 : Bool) (r6 : List Int) =>
    bsel r5 (
      obind (s_l06Give_02o r1 r2 r6) (fun z => osum z (fun y => obind4 (some y) fun (r7 : Int) (r8 : Int) (r9 : Bool) (r10 : List Int) =>
        need (decide (r10.length = r6.length)) <|
        some (r7, r8, r9, r10)) (fun y => obind5 (some y) fun (r11 : Int) (r12 : Int) (r13 : Bool) (r14 : List Int) (r15 : List Int) =>
        need (decide (r14.length = r6.length)) <|
        some (r11, r12, r13, r15)))) (
      some (0, 0, false, ([] : List Int)))) (
    some (0, 0, false, ([] : List Int)))
theorem s_l08ReadWhole_ok (a0 : ByteArray) (q0 : Int) (q1 : Int) (q2 : Bool) (q3 : List Int) (h : s_l08ReadWhole a0 = some (q0, q1, q2, q3)) : Ev Tryd.prog 9 [AV.str a0] [] (AV.tup [AV.agg [AV.i64 q0, AV.i64 q1, AV.oref 0 0 0 q3.length], AV.b q2]) [⟨0, some (q3.map AV.i64)⟩] := by
  refine Ev.start Tryd.func9 rfl rfl 3 (τ := [(0, AV.str a0)]) rfl (Γ' := [⟨0, none⟩, ⟨0, none⟩, ⟨0, none⟩]) rfl (n := 71) rfl (g := 0) rfl (fun _ => rfl) ?_
  unfold s_l08ReadWhole at h
  refine RunC.seq ?_
  refine RunC.regionW ?_
  refine ROps.d (r := AV.optr 0 1 0) (fs := [(0, [AV.i64 0, AV.i64 0, AV.nilsl])]) (Γ' := [⟨1, some [AV.i64 0, AV.i64 0, AV.nilsl]⟩, ⟨0, none⟩, ⟨0, none⟩]) rfl rfl rfl (TOp.alloc_o (g := ⟨0, none⟩) 0 rfl zer24 zok24 rfl) rfl ?_
  refine ROps.l (r := AV.b false) rfl rfl rfl (LOp.assign rfl rfl) ?_
  refine ROps.nil ?_
  refine RunC.seq ?_
  obtain ⟨r1, r2, r3, r4, hf1, h⟩ := obind4_some h
  rcases bsel_some h with ⟨hc2, h⟩ | ⟨hc2, h⟩
  · refine RunC.regionW ?_
    refine ROps.l (r := AV.str a0) rfl rfl rfl (LOp.move rfl rfl) ?_
    refine ROps.d (r := AV.tup [AV.i64 r1, AV.i64 r2, AV.str r3, AV.b r4]) (fs := []) (Γ' := [⟨1, some [AV.i64 0, AV.i64 0, AV.nilsl]⟩, ⟨0, none⟩, ⟨0, none⟩]) rfl rfl rfl (TOp.callB (CallAs.func ent16 rfl rfl) (Bors.cons (Bor.pure rfl) Bors.nil) rfl rfl (s_l08Sides_ok a0 r1 r2 r3 r4 hf1)) rfl ?_
    refine ROps.l (r := AV.tup [AV.i64 r1, AV.i64 r2, AV.str r3, AV.b r4]) rfl rfl rfl (LOp.move rfl rfl) ?_
    refine ROps.l (r := AV.i64 r1) rfl rfl rfl (LOp.extract rfl rfl rfl) ?_
    refine ROps.l (r := AV.i64 r2) rfl rfl rfl (LOp.extract rfl rfl rfl) ?_
    refine ROps.l (r := AV.str r3) rfl rfl rfl (LOp.extract rfl rfl rfl) ?_
    refine ROps.l (r := AV.b true) rfl rfl rfl (LOp.eqb (LOp.extract rfl rfl rfl) hc2) ?_
    refine ROps.l (r := AV.i64 r1) rfl rfl rfl (LOp.assign rfl rfl) ?_
    refine ROps.l (r := AV.i64 r2) rfl rfl rfl (LOp.assign rfl rfl) ?_
    refine ROps.l (r := AV.str r3) rfl rfl rfl (LOp.assign rfl rfl) ?_
    refine ROps.l (r := AV.b true) rfl rfl rfl (LOp.assign rfl rfl) ?_
    refine ROps.nil ?_
    refine RunC.seq ?_
    refine RunC.seq ?_
    refine RunC.regionW ?_
    refine ROps.l (r := AV.b true) rfl rfl rfl (LOp.move rfl rfl) ?_
    refine ROps.l (r := AV.b false) rfl rfl rfl (LOp.eqb (LOp.not rfl rfl) rfl) ?_
    refine ROps.nil ?_
    refine RunC.cond_false rfl rfl ?_
    refine RunC.skip ?_
    refine RunC.seq ?_
    obtain ⟨r5, r6, hf3, h⟩ := obind2_some h
    rcases bsel_some h with ⟨hc4, h⟩ | ⟨hc4, h⟩
    · refine RunC.regionW ?_
      refine ROps.l (r := AV.str r3) rfl rfl rfl (LOp.move rfl rfl) ?_
      refine ROps.d (r := AV.tup [AV.oref 1 1 0 r6.length, AV.b r5]) (fs := [(1, (r6.map AV.i64))]) (Γ' := [⟨1, some [AV.i64 0, AV.i64 0, AV.nilsl]⟩, ⟨1, some (r6.map AV.i64)⟩, ⟨0, none⟩]) rfl rfl rfl (TOp.callBN (ls := [(r6.map AV.i64)]) [1] (CallAs.func ent17 rfl rfl) (Bors.cons (Bor.pure rfl) Bors.nil) rfl (s_l01Numbers_ok r3 r5 r6 hf3) (and_all (lts0_map (f := AV.i64) (fun _ => rfl) _) rfl) (and_all (noss_map (f := AV.i64) (fun _ => rfl) _) rfl) rfl (by decide) (ns_of ⟨⟨_, rfl⟩, trivial⟩)) rfl ?_
      refine ROps.l (r := AV.tup [AV.oref 1 1 0 r6.length, AV.b r5]) rfl rfl rfl (LOp.move rfl rfl) ?_
      refine ROps.l (r := AV.oref 1 1 0 r6.length) rfl rfl rfl (LOp.extract rfl rfl rfl) ?_
      refine ROps.l (r := AV.b true) rfl rfl rfl (LOp.eqb (LOp.extract rfl rfl rfl) hc4) ?_
      refine ROps.l (r := AV.oref 1 1 0 r6.length) rfl rfl rfl (LOp.assign rfl rfl) ?_
      refine ROps.l (r := AV.b true) rfl rfl rfl (LOp.assign rfl rfl) ?_
      refine ROps.nil ?_
      refine RunC.wl (τ' := [(2, AV.optr 0 1 0), (4, AV.i64 r1), (5, AV.i64 r2), (8, AV.oref 1 1 0 r6.length), (9, AV.b true)]) (Γ' := [⟨1, some [AV.i64 0, AV.i64 0, AV.nilsl]⟩, ⟨1, some (r6.map AV.i64)⟩, ⟨0, none⟩]) ⟨(ALe.refl _), (ALe.refl _), (ALe.refl _), (ALe.refl _), (ALe.refl _), trivial⟩ ⟨⟨rfl, .inr rfl⟩, ⟨rfl, .inr rfl⟩, ⟨rfl, .inr rfl⟩, trivial⟩ ?_
      refine RunC.seq ?_
      refine RunC.seq ?_
      refine RunC.regionW ?_
      refine ROps.l (r := AV.b true) rfl rfl rfl (LOp.move rfl rfl) ?_
      refine ROps.l (r := AV.b false) rfl rfl rfl (LOp.eqb (LOp.not rfl rfl) rfl) ?_
      refine ROps.nil ?_
      refine RunC.cond_false rfl rfl ?_
      refine RunC.skip ?_
      refine RunC.seq ?_
      obtain ⟨z1, hf5, h⟩ := obind_some h
      rcases z1 with z1 | z1
      · replace h := (osum_inl _ _ _).symm.trans h
        obtain ⟨r7, r8, r9, r10, hz2, h⟩ := obind4_some h
        cases hz2
        obtain ⟨hn6, h⟩ := need_some h
        refine RunC.regionW ?_
        refine ROps.l (r := AV.i64 r1) rfl rfl rfl (LOp.move rfl rfl) ?_
        refine ROps.l (r := AV.i64 r2) rfl rfl rfl (LOp.move rfl rfl) ?_
        refine ROps.l (r := AV.oref 1 1 0 r6.length) rfl rfl rfl (LOp.move rfl rfl) ?_
        refine ROps.l (r := AV.agg [AV.i64 r1, AV.i64 r2, AV.oref 1 1 0 r6.length]) rfl rfl rfl (LOp.build (qs := [(0, [AV.i64 r1]), (1, [AV.i64 r2]), (2, [AV.oref 1 1 0 r6.length])]) zer24 zok24 und24 plc24 rfl ⟨rfl, ⟨_, ALe.refl _, rfl⟩, ⟨rfl, ⟨_, ALe.refl _, rfl⟩, ⟨rfl, ⟨_, ALe.refl _, rfl⟩, trivial⟩⟩⟩ rfl) ?_
        refine ROps.callO (A := [AV.agg [AV.i64 r1, AV.i64 r2, AV.oref 1 1 0 r6.length]]) (args := [AV.agg [AV.i64 r1, AV.i64 r2, AV.oref 0 0 0 r6.length]]) (Γc := [⟨0, some (r6.map AV.i64)⟩]) (Γc' := [⟨0, some (r10.map AV.i64)⟩]) (r' := AV.tup [AV.agg [AV.i64 r7, AV.i64 r8, AV.oref 1 1 0 r6.length], AV.b r9]) (Γ' := [⟨1, some [AV.i64 0, AV.i64 0, AV.nilsl]⟩, ⟨1, some (r10.map AV.i64)⟩, ⟨0, none⟩]) [(1, 1)] [] rfl (CallAs.func ent18 rfl rfl) rfl rfl (SelOk.of (show List.Nodup [1] from by decide) (SelL.arr0 (f := AV.i64) (fun _ => rfl) rfl trivial)) (live_of ⟨⟨_, _, rfl⟩, trivial⟩) (by simp [AV.ren, AV.rens, sigma, rens_f32, rens_f64, rens_i64, rens_ik, rens_str, rens_cp]) rfl (s_l06Give_02o_ok0 r1 r2 r6 r7 r8 r9 r10 hf5) rfl (news_of trivial) (show List.Nodup [1] from by decide) (by simp [AV.ren, AV.rens, sigma, of_decide_eq_true hn6]) (by simp [backOb, sigma, AV.ren, AV.rens, rens_f32, rens_f64, rens_i64, rens_ik, rens_str, rens_cp]) ?_
        refine ROps.l (r := AV.agg [AV.i64 r7, AV.i64 r8, AV.oref 1 1 0 r6.length]) rfl rfl rfl (LOp.extract rfl rfl rfl) ?_
        refine ROps.l (r := AV.b r9) rfl rfl rfl (LOp.extract rfl rfl rfl) ?_
        refine ROps.store_le (r := AV.agg [AV.i64 r7, AV.i64 r8, AV.oref 1 1 0 r6.length]) (l' := [AV.i64 r7, AV.i64 r8, AV.oref 1 1 0 r6.length]) (Γ' := [⟨1, some [AV.i64 r7, AV.i64 r8, AV.oref 1 1 0 r6.length]⟩, ⟨1, some (r10.map AV.i64)⟩, ⟨0, none⟩]) rfl siz24 rfl rfl rfl (ALe.refl _) rfl rfl rfl rfl (Nat.le_of_ble_eq_true rfl) rfl rfl ?_
        refine ROps.l (r := AV.b r9) rfl rfl rfl (LOp.assign rfl rfl) ?_
        refine ROps.nil ?_
        refine RunC.ret ?_
        have hq := Option.some.inj h
        obtain ⟨hq0, hq⟩ := Prod.mk.inj hq
        obtain ⟨hq1, hq⟩ := Prod.mk.inj hq
        obtain ⟨hq2, hq⟩ := Prod.mk.inj hq
        subst q0
        subst q1
        subst q2
        subst q3
        exact bodyQ.mk (r' := AV.tup [AV.agg [AV.i64 r7, AV.i64 r8, AV.oref 1 1 0 r10.length], AV.b r9]) [(1, 1)] (.inr rfl) rfl (show List.Nodup [1] from by decide) rfl rfl (Res.eq (Res.two rfl (RV.cell agg24 siz24 rfl rfl rfl rfl) (RV.tmp rfl)) (by rw [(show r10.length = r6.length from (of_decide_eq_true hn6))] <;> rfl)) (SelL.arr0 (f := AV.i64) (fun _ => rfl) rfl trivial)
      · replace h := (osum_inr _ _ _).symm.trans h
        obtain ⟨r11, r12, r13, r14, r15, hz3, h⟩ := obind5_some h
        cases hz3
        obtain ⟨hn7, h⟩ := need_some h
        refine RunC.regionW ?_
        refine ROps.l (r := AV.i64 r1) rfl rfl rfl (LOp.move rfl rfl) ?_
        refine ROps.l (r := AV.i64 r2) rfl rfl rfl (LOp.move rfl rfl) ?_
        refine ROps.l (r := AV.oref 1 1 0 r6.length) rfl rfl rfl (LOp.move rfl rfl) ?_
        refine ROps.l (r := AV.agg [AV.i64 r1, AV.i64 r2, AV.oref 1 1 0 r6.length]) rfl rfl rfl (LOp.build (qs := [(0, [AV.i64 r1]), (1, [AV.i64 r2]), (2, [AV.oref 1 1 0 r6.length])]) zer24 zok24 und24 plc24 rfl ⟨rfl, ⟨_, ALe.refl _, rfl⟩, ⟨rfl, ⟨_, ALe.refl _, rfl⟩, ⟨rfl, ⟨_, ALe.refl _, rfl⟩, trivial⟩⟩⟩ rfl) ?_
        refine ROps.callO (A := [AV.agg [AV.i64 r1, AV.i64 r2, AV.oref 1 1 0 r6.length]]) (args := [AV.agg [AV.i64 r1, AV.i64 r2, AV.oref 0 0 0 r6.length]]) (Γc := [⟨0, some (r6.map AV.i64)⟩]) (Γc' := [⟨0, some (r14.map AV.i64)⟩, ⟨0, some (r15.map AV.i64)⟩]) (r' := AV.tup [AV.agg [AV.i64 r11, AV.i64 r12, AV.oref 2 1 0 r15.length], AV.b r13]) (Γ' := [⟨1, some [AV.i64 0, AV.i64 0, AV.nilsl]⟩, ⟨1, some (r14.map AV.i64)⟩, ⟨1, some (r15.map AV.i64)⟩]) [(1, 1)] [(2, 1)] rfl (CallAs.func ent18 rfl rfl) rfl rfl (SelOk.of (show List.Nodup [1] from by decide) (SelL.arr0 (f := AV.i64) (fun _ => rfl) rfl trivial)) (live_of ⟨⟨_, _, rfl⟩, trivial⟩) (by simp [AV.ren, AV.rens, sigma, rens_f32, rens_f64, rens_i64, rens_ik, rens_str, rens_cp]) rfl (s_l06Give_02o_ok1 r1 r2 r6 r11 r12 r13 r14 r15 hf5) rfl (news_of ⟨⟨_, rfl, rfl⟩, trivial⟩) (show List.Nodup [1, 2] from by decide) (by simp [AV.ren, AV.rens, sigma, of_decide_eq_true hn7]) (by simp [backOb, sigma, AV.ren, AV.rens, rens_f32, rens_f64, rens_i64, rens_ik, rens_str, rens_cp]) ?_
        refine ROps.l (r := AV.agg [AV.i64 r11, AV.i64 r12, AV.oref 2 1 0 r15.length]) rfl rfl rfl (LOp.extract rfl rfl rfl) ?_
        refine ROps.l (r := AV.b r13) rfl rfl rfl (LOp.extract rfl rfl rfl) ?_
        refine ROps.store_le (r := AV.agg [AV.i64 r11, AV.i64 r12, AV.oref 2 1 0 r15.length]) (l' := [AV.i64 r11, AV.i64 r12, AV.oref 2 1 0 r15.length]) (Γ' := [⟨1, some [AV.i64 r11, AV.i64 r12, AV.oref 2 1 0 r15.length]⟩, ⟨1, some (r14.map AV.i64)⟩, ⟨1, some (r15.map AV.i64)⟩]) rfl siz24 rfl rfl rfl (ALe.refl _) rfl rfl rfl rfl (Nat.le_of_ble_eq_true rfl) rfl rfl ?_
        refine ROps.l (r := AV.b r13) rfl rfl rfl (LOp.assign rfl rfl) ?_
        refine ROps.nil ?_
        refine RunC.ret ?_
        have hq := Option.some.inj h
        obtain ⟨hq0, hq⟩ := Prod.mk.inj hq
        obtain ⟨hq1, hq⟩ := Prod.mk.inj hq
        obtain ⟨hq2, hq⟩ := Prod.mk.inj hq
        subst q0
        subst q1
        subst q2
        subst q3
        exact bodyQ.mk (r' := AV.tup [AV.agg [AV.i64 r11, AV.i64 r12, AV.oref 2 1 0 r15.length], AV.b r13]) [(2, 1)] (.inr rfl) rfl (show List.Nodup [2] from by decide) rfl rfl (Res.two rfl (RV.cell agg24 siz24 rfl rfl rfl rfl) (RV.tmp rfl)) (SelL.arr0 (f := AV.i64) (fun _ => rfl) rfl trivial)
    · refine RunC.regionW ?_
      refine ROps.l (r := AV.str r3) rfl rfl rfl (LOp.move rfl rfl) ?_
      refine ROps.d (r := AV.tup [AV.oref 1 1 0 r6.length, AV.b r5]) (fs := [(1, (r6.map AV.i64))]) (Γ' := [⟨1, some [AV.i64 0, AV.i64 0, AV.nilsl]⟩, ⟨1, some (r6.map AV.i64)⟩, ⟨0, none⟩]) rfl rfl rfl (TOp.callBN (ls := [(r6.map AV.i64)]) [1] (CallAs.func ent17 rfl rfl) (Bors.cons (Bor.pure rfl) Bors.nil) rfl (s_l01Numbers_ok r3 r5 r6 hf3) (and_all (lts0_map (f := AV.i64) (fun _ => rfl) _) rfl) (and_all (noss_map (f := AV.i64) (fun _ => rfl) _) rfl) rfl (by decide) (ns_of ⟨⟨_, rfl⟩, trivial⟩)) rfl ?_
      refine ROps.l (r := AV.tup [AV.oref 1 1 0 r6.length, AV.b r5]) rfl rfl rfl (LOp.move rfl rfl) ?_
      refine ROps.l (r := AV.oref 1 1 0 r6.length) rfl rfl rfl (LOp.extract rfl rfl rfl) ?_
      refine ROps.l (r := AV.b false) rfl rfl rfl (LOp.eqb (LOp.extract rfl rfl rfl) hc4) ?_
      refine ROps.l (r := AV.oref 1 1 0 r6.length) rfl rfl rfl (LOp.assign rfl rfl) ?_
      refine ROps.l (r := AV.b false) rfl rfl rfl (LOp.assign rfl rfl) ?_
      refine ROps.nil ?_
      refine RunC.wl (τ' := [(2, AV.optr 0 1 0), (4, AV.i64 r1), (5, AV.i64 r2), (8, AV.oref 1 1 0 r6.length), (9, AV.b false)]) (Γ' := [⟨1, some [AV.i64 0, AV.i64 0, AV.nilsl]⟩, ⟨1, some (r6.map AV.i64)⟩, ⟨0, none⟩]) ⟨(ALe.refl _), (ALe.refl _), (ALe.refl _), (ALe.refl _), (ALe.refl _), trivial⟩ ⟨⟨rfl, .inr rfl⟩, ⟨rfl, .inr rfl⟩, ⟨rfl, .inr rfl⟩, trivial⟩ ?_
      refine RunC.seq ?_
      refine RunC.seq ?_
      refine RunC.regionW ?_
      refine ROps.l (r := AV.b false) rfl rfl rfl (LOp.move rfl rfl) ?_
      refine ROps.l (r := AV.b true) rfl rfl rfl (LOp.eqb (LOp.not rfl rfl) rfl) ?_
      refine ROps.nil ?_
      refine RunC.cond_true rfl rfl ?_
      refine RunC.seq ?_
      refine RunC.regionW ?_
      refine ROps.l (r := AV.agg [AV.i64 0, AV.i64 0, AV.nilsl]) rfl rfl rfl (LOp.build (qs := []) zer24 zok24 und24 plc24 rfl trivial rfl) ?_
      refine ROps.store_le (r := AV.agg [AV.i64 0, AV.i64 0, AV.nilsl]) (l' := [AV.i64 0, AV.i64 0, AV.nilsl]) (Γ' := [⟨1, some [AV.i64 0, AV.i64 0, AV.nilsl]⟩, ⟨1, some (r6.map AV.i64)⟩, ⟨0, none⟩]) rfl siz24 rfl rfl rfl (ALe.refl _) rfl rfl rfl rfl (Nat.le_of_ble_eq_true rfl) rfl rfl ?_
      refine ROps.l (r := AV.b false) rfl rfl rfl (LOp.assign rfl rfl) ?_
      refine ROps.nil ?_
      refine RunC.nil_cell (l' := [AV.i64 0, AV.i64 0, AV.oref 2 1 0 0]) (Γ' := [⟨1, some [AV.i64 0, AV.i64 0, AV.oref 2 1 0 0]⟩, ⟨1, some (r6.map AV.i64)⟩, ⟨1, some (([] : List Int).map AV.i64)⟩]) 0 2 2 rfl rfl rfl rfl rfl ?_
      refine RunC.ret ?_
      have hq := Option.some.inj h
      obtain ⟨hq0, hq⟩ := Prod.mk.inj hq
      obtain ⟨hq1, hq⟩ := Prod.mk.inj hq
      obtain ⟨hq2, hq⟩ := Prod.mk.inj hq
      subst q0
      subst q1
      subst q2
      subst q3
      exact bodyQ.mk (r' := AV.tup [AV.agg [AV.i64 0, AV.i64 0, AV.oref 2 1 0 (([] : List Int).length)], AV.b false]) [(2, 1)] (.inr rfl) rfl (show List.Nodup [2] from by decide) rfl rfl (Res.eq (Res.two rfl (RV.cell agg24 siz24 rfl rfl rfl rfl) (RV.tmp rfl)) (by rw [(show ([] : List Int).length = 0 from rfl)] <;> rfl)) (SelL.arr0 (f := AV.i64) (fun _ => rfl) rfl trivial)
  · refine RunC.regionW ?_
    refine ROps.l (r := AV.str a0) rfl rfl rfl (LOp.move rfl rfl) ?_
    refine ROps.d (r := AV.tup [AV.i64 r1, AV.i64 r2, AV.str r3, AV.b r4]) (fs := []) (Γ' := [⟨1, some [AV.i64 0, AV.i64 0, AV.nilsl]⟩, ⟨0, none⟩, ⟨0, none⟩]) rfl rfl rfl (TOp.callB (CallAs.func ent16 rfl rfl) (Bors.cons (Bor.pure rfl) Bors.nil) rfl rfl (s_l08Sides_ok a0 r1 r2 r3 r4 hf1)) rfl ?_
    refine ROps.l (r := AV.tup [AV.i64 r1, AV.i64 r2, AV.str r3, AV.b r4]) rfl rfl rfl (LOp.move rfl rfl) ?_
    refine ROps.l (r := AV.i64 r1) rfl rfl rfl (LOp.extract rfl rfl rfl) ?_
    refine ROps.l (r := AV.i64 r2) rfl rfl rfl (LOp.extract rfl rfl rfl) ?_
    refine ROps.l (r := AV.str r3) rfl rfl rfl (LOp.extract rfl rfl rfl) ?_
    refine ROps.l (r := AV.b false) rfl rfl rfl (LOp.eqb (LOp.extract rfl rfl rfl) hc2) ?_
    refine ROps.l (r := AV.i64 r1) rfl rfl rfl (LOp.assign rfl rfl) ?_
    refine ROps.l (r := AV.i64 r2) rfl rfl rfl (LOp.assign rfl rfl) ?_
    refine ROps.l (r := AV.str r3) rfl rfl rfl (LOp.assign rfl rfl) ?_
    refine ROps.l (r := AV.b false) rfl rfl rfl (LOp.assign rfl rfl) ?_
    refine ROps.nil ?_
    refine RunC.seq ?_
    refine RunC.seq ?_
    refine RunC.regionW ?_
    refine ROps.l (r := AV.b false) rfl rfl rfl (LOp.move rfl rfl) ?_
    refine ROps.l (r := AV.b true) rfl rfl rfl (LOp.eqb (LOp.not rfl rfl) rfl) ?_
    refine ROps.nil ?_
    refine RunC.cond_true rfl rfl ?_
    refine RunC.seq ?_
    refine RunC.regionW ?_
    refine ROps.l (r := AV.agg [AV.i64 0, AV.i64 0, AV.nilsl]) rfl rfl rfl (LOp.build (qs := []) zer24 zok24 und24 plc24 rfl trivial rfl) ?_
    refine ROps.store_le (r := AV.agg [AV.i64 0, AV.i64 0, AV.nilsl]) (l' := [AV.i64 0, AV.i64 0, AV.nilsl]) (Γ' := [⟨1, some [AV.i64 0, AV.i64 0, AV.nilsl]⟩, ⟨0, none⟩, ⟨0, none⟩]) rfl siz24 rfl rfl rfl (ALe.refl _) rfl rfl rfl rfl (Nat.le_of_ble_eq_true rfl) rfl rfl ?_
    refine ROps.l (r := AV.b false) rfl rfl rfl (LOp.assign rfl rfl) ?_
    refine ROps.nil ?_
    refine RunC.nil_cell (l' := [AV.i64 0, AV.i64 0, AV.oref 1 1 0 0]) (Γ' := [⟨1, some [AV.i64 0, AV.i64 0, AV.oref 1 1 0 0]⟩, ⟨1, some (([] : List Int).map AV.i64)⟩, ⟨0, none⟩]) 0 2 1 rfl rfl rfl rfl rfl ?_
    refine RunC.ret ?_
    have hq := Option.some.inj h
    obtain ⟨hq0, hq⟩ := Prod.mk.inj hq
    obtain ⟨hq1, hq⟩ := Prod.mk.inj hq
    obtain ⟨hq2, hq⟩ := Prod.mk.inj hq
    subst q0
    subst q1
    subst q2
    subst q3
    exact bodyQ.mk (r' := AV.tup [AV.agg [AV.i64 0, AV.i64 0, AV.oref 1 1 0 (([] : List Int).length)], AV.b false]) [(1, 1)] (.inr rfl) rfl (show List.Nodup [1] from by decide) rfl rfl (Res.eq (Res.two rfl (RV.cell agg24 siz24 rfl rfl rfl rfl) (RV.tmp rfl)) (by rw [(show ([] : List Int).length = 0 from rfl)] <;> rfl)) (SelL.arr0 (f := AV.i64) (fun _ => rfl) rfl trivial)
noncomputable def s_ReadWhole (a0 : ByteArray) : Option (Int × Int × Bool × (List Int)) :=
  obind4 (s_l08ReadWhole a0) fun (r1 : Int) (r2 : Int) (r3 : Bool) (r4 : List Int) =>
  some (r1, r2, r3, r4)
theorem s_ReadWhole_ok (a0 : ByteArray) (q0 : Int) (q1 : Int) (q2 : Bool) (q3 : List Int) (h : s_ReadWhole a0 = some (q0, q1, q2, q3)) : Ev Tryd.prog 4 [AV.str a0] [] (AV.tup [AV.agg [AV.i64 q0, AV.i64 q1, AV.oref 0 0 0 q3.length], AV.b q2]) [⟨0, some (q3.map AV.i64)⟩] := by
  refine Ev.start Tryd.func4 rfl rfl 2 (τ := [(0, AV.str a0)]) rfl (Γ' := [⟨0, none⟩, ⟨0, none⟩]) rfl (n := 17) rfl (g := 0) rfl (fun _ => rfl) ?_
  unfold s_ReadWhole at h
  refine RunC.seq ?_
  refine RunC.regionW ?_
  refine ROps.d (r := AV.optr 0 1 0) (fs := [(0, [AV.i64 0, AV.i64 0, AV.nilsl])]) (Γ' := [⟨1, some [AV.i64 0, AV.i64 0, AV.nilsl]⟩, ⟨0, none⟩]) rfl rfl rfl (TOp.alloc_o (g := ⟨0, none⟩) 0 rfl zer24 zok24 rfl) rfl ?_
  refine ROps.l (r := AV.b false) rfl rfl rfl (LOp.assign rfl rfl) ?_
  refine ROps.nil ?_
  refine RunC.seq ?_
  obtain ⟨r1, r2, r3, r4, hf1, h⟩ := obind4_some h
  refine RunC.regionW ?_
  refine ROps.l (r := AV.str a0) rfl rfl rfl (LOp.move rfl rfl) ?_
  refine ROps.d (r := AV.tup [AV.agg [AV.i64 r1, AV.i64 r2, AV.oref 1 1 0 r4.length], AV.b r3]) (fs := [(1, (r4.map AV.i64))]) (Γ' := [⟨1, some [AV.i64 0, AV.i64 0, AV.nilsl]⟩, ⟨1, some (r4.map AV.i64)⟩]) rfl rfl rfl (TOp.callBN (ls := [(r4.map AV.i64)]) [1] (CallAs.func ent9 rfl rfl) (Bors.cons (Bor.pure rfl) Bors.nil) rfl (s_l08ReadWhole_ok a0 r1 r2 r3 r4 hf1) (and_all (lts0_map (f := AV.i64) (fun _ => rfl) _) rfl) (and_all (noss_map (f := AV.i64) (fun _ => rfl) _) rfl) rfl (by decide) (ns_of ⟨⟨_, rfl⟩, trivial⟩)) rfl ?_
  refine ROps.l (r := AV.agg [AV.i64 r1, AV.i64 r2, AV.oref 1 1 0 r4.length]) rfl rfl rfl (LOp.extract rfl rfl rfl) ?_
  refine ROps.l (r := AV.b r3) rfl rfl rfl (LOp.extract rfl rfl rfl) ?_
  refine ROps.store_le (r := AV.agg [AV.i64 r1, AV.i64 r2, AV.oref 1 1 0 r4.length]) (l' := [AV.i64 r1, AV.i64 r2, AV.oref 1 1 0 r4.length]) (Γ' := [⟨1, some [AV.i64 r1, AV.i64 r2, AV.oref 1 1 0 r4.length]⟩, ⟨1, some (r4.map AV.i64)⟩]) rfl siz24 rfl rfl rfl (ALe.refl _) rfl rfl rfl rfl (Nat.le_of_ble_eq_true rfl) rfl rfl ?_
  refine ROps.l (r := AV.b r3) rfl rfl rfl (LOp.assign rfl rfl) ?_
  refine ROps.nil ?_
  refine RunC.ret ?_
  have hq := Option.some.inj h
  obtain ⟨hq0, hq⟩ := Prod.mk.inj hq
  obtain ⟨hq1, hq⟩ := Prod.mk.inj hq
  obtain ⟨hq2, hq⟩ := Prod.mk.inj hq
  subst q0
  subst q1
  subst q2
  subst q3
  exact bodyQ.mk (r' := AV.tup [AV.agg [AV.i64 r1, AV.i64 r2, AV.oref 1 1 0 r4.length], AV.b r3]) [(1, 1)] (.inr rfl) rfl (show List.Nodup [1] from by decide) rfl rfl (Res.two rfl (RV.cell agg24 siz24 rfl rfl rfl rfl) (RV.tmp rfl)) (SelL.arr0 (f := AV.i64) (fun _ => rfl) rfl trivial)
noncomputable def x_internal_stringslite_IndexByte (a0 : ByteArray) (a1 : Int) : Option (Int) :=
  some (idxB a0 a1)
theorem x_internal_stringslite_IndexByte_ok (a0 : ByteArray) (a1 : Int) (q0 : Int) (h : x_internal_stringslite_IndexByte a0 a1 = some q0) : Ev Tryd.prog 44 [AV.str a0, AV.ik .u8 a1] [] (AV.i64 q0) [] := by
  refine Ev.start Tryd.func44 rfl rfl 0 (τ := [(0, AV.str a0), (1, AV.ik .u8 a1)]) rfl (Γ' := []) rfl (n := 17) rfl (g := 0) rfl (fun _ => rfl) ?_
  unfold x_internal_stringslite_IndexByte at h
  refine RunC.seq ?_
  refine RunC.regionW ?_
  refine ROps.l (r := AV.i64 0) rfl rfl rfl (LOp.assign rfl rfl) ?_
  refine ROps.nil ?_
  refine RunC.seq ?_
  refine RunC.regionW ?_
  refine ROps.l (r := AV.str a0) rfl rfl rfl (LOp.move rfl rfl) ?_
  refine ROps.l (r := AV.ik .u8 a1) rfl rfl rfl (LOp.move rfl rfl) ?_
  refine ROps.l (r := AV.i64 (idxB a0 a1)) rfl rfl rfl (LOp.idxB ext59 rfl rfl rfl) ?_
  refine ROps.l (r := AV.i64 (idxB a0 a1)) rfl rfl rfl (LOp.assign rfl rfl) ?_
  refine ROps.nil ?_
  refine RunC.ret ?_
  have hq := Option.some.inj h
  subst q0
  exact bodyQ.pure (.inr rfl) rfl (Res.one rfl (RV.tmp rfl))
noncomputable def x_internal_stringslite_Index (a0 : ByteArray) (a1 : ByteArray) : Option (Int) :=
  bsel (decide ((a1.size : Int) = 0)) (
    some 0) (
    bsel (eqs a1 a0) (
      some 0) (
      bsel (decide ((a1.size : Int) = 1)) (
        obind (sat? a1 0) fun (e1 : Int) =>
        obind (x_internal_stringslite_IndexByte a0 e1) fun (r2 : Int) =>
        some r2) (
        bsel (decide ((a0.size : Int) ≤ (a1.size : Int))) (
          some (-1)) (
          none))))
theorem x_internal_stringslite_Index_ok (a0 : ByteArray) (a1 : ByteArray) (q0 : Int) (h : x_internal_stringslite_Index a0 a1 = some q0) : Ev Tryd.prog 35 [AV.str a0, AV.str a1] [] (AV.i64 q0) [] := by
  refine Ev.start Tryd.func35 rfl rfl 0 (τ := [(0, AV.str a0), (1, AV.str a1)]) rfl (Γ' := []) rfl (n := 287) rfl (g := 0) rfl (fun _ => rfl) ?_
  unfold x_internal_stringslite_Index at h
  refine RunC.seq ?_
  refine RunC.regionW ?_
  refine ROps.l (r := AV.i64 0) rfl rfl rfl (LOp.assign rfl rfl) ?_
  refine ROps.nil ?_
  refine RunC.seq ?_
  refine RunC.regionW ?_
  refine ROps.l (r := AV.str a1) rfl rfl rfl (LOp.move rfl rfl) ?_
  refine ROps.l (r := AV.i64 (a1.size : Int)) rfl rfl rfl (LOp.len_str und9 rfl rfl) ?_
  refine ROps.l (r := AV.i64 (a1.size : Int)) rfl rfl rfl (LOp.assign rfl rfl) ?_
  refine ROps.nil ?_
  refine RunC.seq ?_
  refine RunC.block ?_
  refine RunC.seq ?_
  rcases bsel_some h with ⟨hc1, h⟩ | ⟨hc1, h⟩
  · refine RunC.regionW ?_
    refine ROps.l (r := AV.i64 (a1.size : Int)) rfl rfl rfl (LOp.move rfl rfl) ?_
    refine ROps.l (r := AV.b true) rfl rfl rfl (LOp.eqb (LOp.eql rfl rfl rfl) hc1) ?_
    refine ROps.l (r := AV.b true) rfl rfl rfl (LOp.move rfl rfl) ?_
    refine ROps.s rfl rfl rfl ?_
    refine ROps.s rfl rfl rfl ?_
    refine ROps.s rfl rfl rfl ?_
    refine ROps.l (r := AV.b true) rfl rfl rfl (LOp.pick_true rfl rfl rfl) ?_
    refine ROps.l (r := AV.b true) rfl rfl rfl (LOp.assign rfl rfl) ?_
    refine ROps.nil ?_
    refine RunC.cond_true rfl rfl ?_
    refine RunC.seq ?_
    refine RunC.regionW ?_
    refine ROps.l (r := AV.i64 0) rfl rfl rfl (LOp.assign rfl rfl) ?_
    refine ROps.nil ?_
    refine RunC.ret ?_
    have hq := Option.some.inj h
    subst q0
    exact bodyQ.pure (.inr rfl) rfl (Res.one rfl (RV.tmp rfl))
  · rcases bsel_some h with ⟨hc2, h⟩ | ⟨hc2, h⟩
    · refine RunC.regionW ?_
      refine ROps.l (r := AV.i64 (a1.size : Int)) rfl rfl rfl (LOp.move rfl rfl) ?_
      refine ROps.l (r := AV.b false) rfl rfl rfl (LOp.eqb (LOp.eql rfl rfl rfl) hc1) ?_
      refine ROps.l (r := AV.b false) rfl rfl rfl (LOp.move rfl rfl) ?_
      refine ROps.l (r := AV.str a1) rfl rfl rfl (LOp.move rfl rfl) ?_
      refine ROps.l (r := AV.str a0) rfl rfl rfl (LOp.move rfl rfl) ?_
      refine ROps.l (r := AV.b true) rfl rfl rfl (LOp.eqb (LOp.eqs rfl rfl rfl) hc2) ?_
      refine ROps.l (r := AV.b true) rfl rfl rfl (LOp.pick_false rfl rfl rfl) ?_
      refine ROps.l (r := AV.b true) rfl rfl rfl (LOp.assign rfl rfl) ?_
      refine ROps.nil ?_
      refine RunC.cond_true rfl rfl ?_
      refine RunC.seq ?_
      refine RunC.regionW ?_
      refine ROps.l (r := AV.i64 0) rfl rfl rfl (LOp.assign rfl rfl) ?_
      refine ROps.nil ?_
      refine RunC.ret ?_
      have hq := Option.some.inj h
      subst q0
      exact bodyQ.pure (.inr rfl) rfl (Res.one rfl (RV.tmp rfl))
    · refine RunC.regionW ?_
      refine ROps.l (r := AV.i64 (a1.size : Int)) rfl rfl rfl (LOp.move rfl rfl) ?_
      refine ROps.l (r := AV.b false) rfl rfl rfl (LOp.eqb (LOp.eql rfl rfl rfl) hc1) ?_
      refine ROps.l (r := AV.b false) rfl rfl rfl (LOp.move rfl rfl) ?_
      refine ROps.l (r := AV.str a1) rfl rfl rfl (LOp.move rfl rfl) ?_
      refine ROps.l (r := AV.str a0) rfl rfl rfl (LOp.move rfl rfl) ?_
      refine ROps.l (r := AV.b false) rfl rfl rfl (LOp.eqb (LOp.eqs rfl rfl rfl) hc2) ?_
      refine ROps.l (r := AV.b false) rfl rfl rfl (LOp.pick_false rfl rfl rfl) ?_
      refine ROps.l (r := AV.b false) rfl rfl rfl (LOp.assign rfl rfl) ?_
      refine ROps.nil ?_
      refine RunC.cond_false rfl rfl ?_
      refine RunC.seq ?_
      rcases bsel_some h with ⟨hc3, h⟩ | ⟨hc3, h⟩
      · refine RunC.regionW ?_
        refine ROps.l (r := AV.i64 (a1.size : Int)) rfl rfl rfl (LOp.move rfl rfl) ?_
        refine ROps.l (r := AV.b true) rfl rfl rfl (LOp.eqb (LOp.eql rfl rfl rfl) hc3) ?_
        refine ROps.l (r := AV.b true) rfl rfl rfl (LOp.assign rfl rfl) ?_
        refine ROps.nil ?_
        refine RunC.cond_true rfl rfl ?_
        refine RunC.seq ?_
        obtain ⟨e1, he4, h⟩ := obind_some h
        obtain ⟨r2, hf5, h⟩ := obind_some h
        refine RunC.regionW ?_
        refine ROps.l (r := AV.str a0) rfl rfl rfl (LOp.move rfl rfl) ?_
        refine ROps.l (r := AV.str a1) rfl rfl rfl (LOp.move rfl rfl) ?_
        refine ROps.l (r := AV.ik .u8 e1) rfl rfl rfl (LOp.index_str und9 rfl rfl rfl he4) ?_
        refine ROps.d (r := AV.i64 r2) (fs := []) (Γ' := []) rfl rfl rfl (TOp.callB (CallAs.func ent44 rfl rfl) (Bors.cons (Bor.pure rfl) (Bors.cons (Bor.pure rfl) Bors.nil)) rfl rfl (x_internal_stringslite_IndexByte_ok a0 e1 r2 hf5)) rfl ?_
        refine ROps.l (r := AV.i64 r2) rfl rfl rfl (LOp.assign rfl rfl) ?_
        refine ROps.nil ?_
        refine RunC.ret ?_
        have hq := Option.some.inj h
        subst q0
        exact bodyQ.pure (.inr rfl) rfl (Res.one rfl (RV.tmp rfl))
      · refine RunC.regionW ?_
        refine ROps.l (r := AV.i64 (a1.size : Int)) rfl rfl rfl (LOp.move rfl rfl) ?_
        refine ROps.l (r := AV.b false) rfl rfl rfl (LOp.eqb (LOp.eql rfl rfl rfl) hc3) ?_
        refine ROps.l (r := AV.b false) rfl rfl rfl (LOp.assign rfl rfl) ?_
        refine ROps.nil ?_
        refine RunC.cond_false rfl rfl ?_
        refine RunC.seq ?_
        rcases bsel_some h with ⟨hc6, h⟩ | ⟨hc6, h⟩
        · refine RunC.regionW ?_
          refine ROps.l (r := AV.i64 (a1.size : Int)) rfl rfl rfl (LOp.move rfl rfl) ?_
          refine ROps.l (r := AV.str a0) rfl rfl rfl (LOp.move rfl rfl) ?_
          refine ROps.l (r := AV.i64 (a0.size : Int)) rfl rfl rfl (LOp.len_str und9 rfl rfl) ?_
          refine ROps.l (r := AV.b true) rfl rfl rfl (LOp.eqb (LOp.geq rfl rfl rfl) hc6) ?_
          refine ROps.l (r := AV.b true) rfl rfl rfl (LOp.assign rfl rfl) ?_
          refine ROps.nil ?_
          refine RunC.cond_true rfl rfl ?_
          refine RunC.seq ?_
          refine RunC.regionW ?_
          refine ROps.l (r := AV.i64 (-1)) rfl rfl rfl (LOp.assign rfl rfl) ?_
          refine ROps.nil ?_
          refine RunC.ret ?_
          have hq := Option.some.inj h
          subst q0
          exact bodyQ.pure (.inr rfl) rfl (Res.one rfl (RV.tmp rfl))
        · refine RunC.regionW ?_
          refine ROps.l (r := AV.i64 (a1.size : Int)) rfl rfl rfl (LOp.move rfl rfl) ?_
          refine ROps.l (r := AV.str a0) rfl rfl rfl (LOp.move rfl rfl) ?_
          refine ROps.l (r := AV.i64 (a0.size : Int)) rfl rfl rfl (LOp.len_str und9 rfl rfl) ?_
          refine ROps.l (r := AV.b false) rfl rfl rfl (LOp.eqb (LOp.geq rfl rfl rfl) hc6) ?_
          refine ROps.l (r := AV.b false) rfl rfl rfl (LOp.assign rfl rfl) ?_
          refine ROps.nil ?_
          refine RunC.cond_false rfl rfl ?_
          refine RunC.seq ?_
          cases h
noncomputable def x_internal_stringslite_Cut (a0 : ByteArray) (a1 : ByteArray) : Option (ByteArray × ByteArray × Bool) :=
  obind (x_internal_stringslite_Index a0 a1) fun (r1 : Int) =>
  bsel (decide (0 ≤ r1)) (
    obind (subs? a0 0 r1) fun (t2 : ByteArray) =>
    olet (IntKind.i64.wrap (r1 + (a1.size : Int))) fun (x3 : Int) =>
    obind (subs? a0 x3 (a0.size : Int)) fun (t4 : ByteArray) =>
    some (t2, t4, true)) (
    some (a0, lit_99ba06bc, false))
theorem x_internal_stringslite_Cut_ok (a0 : ByteArray) (a1 : ByteArray) (q0 : ByteArray) (q1 : ByteArray) (q2 : Bool) (h : x_internal_stringslite_Cut a0 a1 = some (q0, q1, q2)) : Ev Tryd.prog 26 [AV.str a0, AV.str a1] [] (AV.tup [AV.str q0, AV.str q1, AV.b q2]) [] := by
  refine Ev.start Tryd.func26 rfl rfl 0 (τ := [(0, AV.str a0), (1, AV.str a1)]) rfl (Γ' := []) rfl (n := 47) rfl (g := 0) rfl (fun _ => rfl) ?_
  unfold x_internal_stringslite_Cut at h
  refine RunC.seq ?_
  refine RunC.regionW ?_
  refine ROps.l (r := AV.str lit_99ba06bc) rfl rfl rfl (LOp.assign rfl rfl) ?_
  refine ROps.l (r := AV.str lit_99ba06bc) rfl rfl rfl (LOp.assign rfl rfl) ?_
  refine ROps.l (r := AV.b false) rfl rfl rfl (LOp.assign rfl rfl) ?_
  refine ROps.nil ?_
  refine RunC.seq ?_
  refine RunC.seq ?_
  obtain ⟨r1, hf1, h⟩ := obind_some h
  refine RunC.regionW ?_
  refine ROps.l (r := AV.str a0) rfl rfl rfl (LOp.move rfl rfl) ?_
  refine ROps.l (r := AV.str a1) rfl rfl rfl (LOp.move rfl rfl) ?_
  refine ROps.d (r := AV.i64 r1) (fs := []) (Γ' := []) rfl rfl rfl (TOp.callB (CallAs.func ent35 rfl rfl) (Bors.cons (Bor.pure rfl) (Bors.cons (Bor.pure rfl) Bors.nil)) rfl rfl (x_internal_stringslite_Index_ok a0 a1 r1 hf1)) rfl ?_
  refine ROps.l (r := AV.i64 r1) rfl rfl rfl (LOp.assign rfl rfl) ?_
  refine ROps.nil ?_
  refine RunC.seq ?_
  rcases bsel_some h with ⟨hc2, h⟩ | ⟨hc2, h⟩
  · refine RunC.regionW ?_
    refine ROps.l (r := AV.i64 r1) rfl rfl rfl (LOp.move rfl rfl) ?_
    refine ROps.l (r := AV.b true) rfl rfl rfl (LOp.eqb (LOp.geq rfl rfl rfl) hc2) ?_
    refine ROps.nil ?_
    refine RunC.cond_true rfl rfl ?_
    refine RunC.seq ?_
    obtain ⟨t2, hs3, h⟩ := obind_some h
    obtain ⟨x3, hx4, h⟩ := olet_some h
    obtain ⟨t4, hs5, h⟩ := obind_some h
    refine RunC.region_draw (Γ' := []) 12 mixed 
      (TR.l (r := AV.str a0) rfl rfl (LOp.move rfl rfl) <|
      (TR.l (r := AV.i64 r1) rfl rfl (LOp.move rfl rfl) <|
      (TR.l (r := AV.str t2) rfl rfl (LOp.subs_hi und9 rfl rfl rfl hs3) <|
      (TR.l (r := AV.str a0) rfl rfl (LOp.move rfl rfl) <|
      (TR.l (r := AV.i64 r1) rfl rfl (LOp.move rfl rfl) <|
      (TR.l (r := AV.str a1) rfl rfl (LOp.move rfl rfl) <|
      (TR.l (r := AV.i64 (a1.size : Int)) rfl rfl (LOp.len_str und9 rfl rfl) <|
      (TR.l (r := AV.i64 x3) rfl rfl (LOp.eqr (LOp.add rfl rfl rfl) (congrArg (AV.ik .i64) hx4)) <|
      (TR.l (r := AV.str t4) rfl rfl (LOp.subs_lo und9 rfl rfl rfl hs5) <|
      (TR.l (r := AV.str t2) rfl rfl (LOp.assign rfl rfl) <|
      (TR.l (r := AV.str t4) rfl rfl (LOp.assign rfl rfl) <|
      (TR.l (r := AV.b true) rfl rfl (LOp.assign rfl rfl) <|
      TR.nil)))))))))))) rfl (by kernel_rfl) rfl fills_nil rfl ?_
    iterate 12 refine ROps.dropS ?_
    refine ROps.drop0 ?_
    refine ROps.nil ?_
    refine RunC.ret ?_
    have hq := Option.some.inj h
    obtain ⟨hq0, hq⟩ := Prod.mk.inj hq
    obtain ⟨hq1, hq⟩ := Prod.mk.inj hq
    subst q0
    subst q1
    subst q2
    exact bodyQ.pure (.inr rfl) rfl (Res.three rfl (RV.tmp rfl) (RV.tmp rfl) (RV.tmp rfl))
  · refine RunC.regionW ?_
    refine ROps.l (r := AV.i64 r1) rfl rfl rfl (LOp.move rfl rfl) ?_
    refine ROps.l (r := AV.b false) rfl rfl rfl (LOp.eqb (LOp.geq rfl rfl rfl) hc2) ?_
    refine ROps.nil ?_
    refine RunC.cond_false rfl rfl ?_
    refine RunC.skip ?_
    refine RunC.seq ?_
    refine RunC.regionW ?_
    refine ROps.l (r := AV.str a0) rfl rfl rfl (LOp.move rfl rfl) ?_
    refine ROps.l (r := AV.str a0) rfl rfl rfl (LOp.assign rfl rfl) ?_
    refine ROps.l (r := AV.str lit_99ba06bc) rfl rfl rfl (LOp.assign rfl rfl) ?_
    refine ROps.l (r := AV.b false) rfl rfl rfl (LOp.assign rfl rfl) ?_
    refine ROps.nil ?_
    refine RunC.ret ?_
    have hq := Option.some.inj h
    obtain ⟨hq0, hq⟩ := Prod.mk.inj hq
    obtain ⟨hq1, hq⟩ := Prod.mk.inj hq
    subst q0
    subst q1
    subst q2
    exact bodyQ.pure (.inr rfl) rfl (Res.three rfl (RV.tmp rfl) (RV.tmp rfl) (RV.tmp rfl))
noncomputable def x_strings_Cut (a0 : ByteArray) (a1 : ByteArray) : Option (ByteArray × ByteArray × Bool) :=
  obind3 (x_internal_stringslite_Cut a0 a1) fun (r1 : ByteArray) (r2 : ByteArray) (r3 : Bool) =>
  some (r1, r2, r3)
theorem x_strings_Cut_ok (a0 : ByteArray) (a1 : ByteArray) (q0 : ByteArray) (q1 : ByteArray) (q2 : Bool) (h : x_strings_Cut a0 a1 = some (q0, q1, q2)) : Ev Tryd.prog 19 [AV.str a0, AV.str a1] [] (AV.tup [AV.str q0, AV.str q1, AV.b q2]) [] := by
  refine Ev.start Tryd.func19 rfl rfl 0 (τ := [(0, AV.str a0), (1, AV.str a1)]) rfl (Γ' := []) rfl (n := 27) rfl (g := 0) rfl (fun _ => rfl) ?_
  unfold x_strings_Cut at h
  refine RunC.seq ?_
  refine RunC.regionW ?_
  refine ROps.l (r := AV.str lit_99ba06bc) rfl rfl rfl (LOp.assign rfl rfl) ?_
  refine ROps.l (r := AV.str lit_99ba06bc) rfl rfl rfl (LOp.assign rfl rfl) ?_
  refine ROps.l (r := AV.b false) rfl rfl rfl (LOp.assign rfl rfl) ?_
  refine ROps.nil ?_
  refine RunC.seq ?_
  obtain ⟨r1, r2, r3, hf1, h⟩ := obind3_some h
  refine RunC.regionW ?_
  refine ROps.l (r := AV.str a0) rfl rfl rfl (LOp.move rfl rfl) ?_
  refine ROps.l (r := AV.str a1) rfl rfl rfl (LOp.move rfl rfl) ?_
  refine ROps.d (r := AV.tup [AV.str r1, AV.str r2, AV.b r3]) (fs := []) (Γ' := []) rfl rfl rfl (TOp.callB (CallAs.func ent26 rfl rfl) (Bors.cons (Bor.pure rfl) (Bors.cons (Bor.pure rfl) Bors.nil)) rfl rfl (x_internal_stringslite_Cut_ok a0 a1 r1 r2 r3 hf1)) rfl ?_
  refine ROps.l (r := AV.str r1) rfl rfl rfl (LOp.extract rfl rfl rfl) ?_
  refine ROps.l (r := AV.str r2) rfl rfl rfl (LOp.extract rfl rfl rfl) ?_
  refine ROps.l (r := AV.b r3) rfl rfl rfl (LOp.extract rfl rfl rfl) ?_
  refine ROps.l (r := AV.str r1) rfl rfl rfl (LOp.assign rfl rfl) ?_
  refine ROps.l (r := AV.str r2) rfl rfl rfl (LOp.assign rfl rfl) ?_
  refine ROps.l (r := AV.b r3) rfl rfl rfl (LOp.assign rfl rfl) ?_
  refine ROps.nil ?_
  refine RunC.ret ?_
  have hq := Option.some.inj h
  obtain ⟨hq0, hq⟩ := Prod.mk.inj hq
  obtain ⟨hq1, hq⟩ := Prod.mk.inj hq
  subst q0
  subst q1
  subst q2
  exact bodyQ.pure (.inr rfl) rfl (Res.three rfl (RV.tmp rfl) (RV.tmp rfl) (RV.tmp rfl))
noncomputable def x_strings_Index (a0 : ByteArray) (a1 : ByteArray) : Option (Int) :=
  obind (x_internal_stringslite_Index a0 a1) fun (r1 : Int) =>
  some r1
theorem x_strings_Index_ok (a0 : ByteArray) (a1 : ByteArray) (q0 : Int) (h : x_strings_Index a0 a1 = some q0) : Ev Tryd.prog 38 [AV.str a0, AV.str a1] [] (AV.i64 q0) [] := by
  refine Ev.start Tryd.func38 rfl rfl 0 (τ := [(0, AV.str a0), (1, AV.str a1)]) rfl (Γ' := []) rfl (n := 17) rfl (g := 0) rfl (fun _ => rfl) ?_
  unfold x_strings_Index at h
  refine RunC.seq ?_
  refine RunC.regionW ?_
  refine ROps.l (r := AV.i64 0) rfl rfl rfl (LOp.assign rfl rfl) ?_
  refine ROps.nil ?_
  refine RunC.seq ?_
  obtain ⟨r1, hf1, h⟩ := obind_some h
  refine RunC.regionW ?_
  refine ROps.l (r := AV.str a0) rfl rfl rfl (LOp.move rfl rfl) ?_
  refine ROps.l (r := AV.str a1) rfl rfl rfl (LOp.move rfl rfl) ?_
  refine ROps.d (r := AV.i64 r1) (fs := []) (Γ' := []) rfl rfl rfl (TOp.callB (CallAs.func ent35 rfl rfl) (Bors.cons (Bor.pure rfl) (Bors.cons (Bor.pure rfl) Bors.nil)) rfl rfl (x_internal_stringslite_Index_ok a0 a1 r1 hf1)) rfl ?_
  refine ROps.l (r := AV.i64 r1) rfl rfl rfl (LOp.assign rfl rfl) ?_
  refine ROps.nil ?_
  refine RunC.ret ?_
  have hq := Option.some.inj h
  subst q0
  exact bodyQ.pure (.inr rfl) rfl (Res.one rfl (RV.tmp rfl))
noncomputable def x_strings_Count_b1 (a1 : ByteArray) (s2 : ByteArray) (v3 : Int) : Option (LR (ByteArray × Int) (Unit) (Int)) :=
  obind (x_strings_Index s2 a1) fun (r4 : Int) =>
  bsel (decide (r4 = (-1))) (
    some (LR.ret v3)) (
    olet (IntKind.i64.wrap (v3 + 1)) fun (x5 : Int) =>
    olet (IntKind.i64.wrap (r4 + (a1.size : Int))) fun (x6 : Int) =>
    obind (subs? s2 x6 (s2.size : Int)) fun (t7 : ByteArray) =>
    some (LR.next (t7, x5)))
noncomputable def x_strings_Count_s1 (a1 : ByteArray) : (ByteArray × Int) → Option (LR (ByteArray × Int) (Unit) (Int)) := fun s => x_strings_Count_b1 a1 s.1 s.2
noncomputable def x_strings_Count (a0 : ByteArray) (a1 : ByteArray) : Option (Int) :=
  bsel (decide ((a1.size : Int) = 0)) (
    none) (
    bsel (decide ((a1.size : Int) = 1)) (
      obind (sat? a1 0) fun (e1 : Int) =>
      some (cntB a0 e1)) (
      obind (loopM (x_strings_Count_s1 a1) (a0, 0)) fun z => osum z (fun _ => none) (fun r => some r)))
theorem x_strings_Count_ok (a0 : ByteArray) (a1 : ByteArray) (q0 : Int) (h : x_strings_Count a0 a1 = some q0) : Ev Tryd.prog 37 [AV.str a0, AV.str a1] [] (AV.i64 q0) [] := by
  refine Ev.start Tryd.func37 rfl rfl 0 (τ := [(0, AV.str a0), (1, AV.str a1)]) rfl (Γ' := []) rfl (n := 69) rfl (g := 0) rfl (fun _ => rfl) ?_
  unfold x_strings_Count at h
  refine RunC.seq ?_
  refine RunC.regionW ?_
  refine ROps.l (r := AV.i64 0) rfl rfl rfl (LOp.assign rfl rfl) ?_
  refine ROps.nil ?_
  refine RunC.seq ?_
  refine RunC.seq ?_
  rcases bsel_some h with ⟨hc1, h⟩ | ⟨hc1, h⟩
  · refine RunC.regionW ?_
    refine ROps.l (r := AV.str a1) rfl rfl rfl (LOp.move rfl rfl) ?_
    refine ROps.l (r := AV.i64 (a1.size : Int)) rfl rfl rfl (LOp.len_str und9 rfl rfl) ?_
    refine ROps.l (r := AV.b true) rfl rfl rfl (LOp.eqb (LOp.eql rfl rfl rfl) hc1) ?_
    refine ROps.nil ?_
    refine RunC.cond_true rfl rfl ?_
    refine RunC.seq ?_
    cases h
  · refine RunC.regionW ?_
    refine ROps.l (r := AV.str a1) rfl rfl rfl (LOp.move rfl rfl) ?_
    refine ROps.l (r := AV.i64 (a1.size : Int)) rfl rfl rfl (LOp.len_str und9 rfl rfl) ?_
    refine ROps.l (r := AV.b false) rfl rfl rfl (LOp.eqb (LOp.eql rfl rfl rfl) hc1) ?_
    refine ROps.nil ?_
    refine RunC.cond_false rfl rfl ?_
    refine RunC.skip ?_
    refine RunC.seq ?_
    refine RunC.seq ?_
    rcases bsel_some h with ⟨hc2, h⟩ | ⟨hc2, h⟩
    · refine RunC.regionW ?_
      refine ROps.l (r := AV.str a1) rfl rfl rfl (LOp.move rfl rfl) ?_
      refine ROps.l (r := AV.i64 (a1.size : Int)) rfl rfl rfl (LOp.len_str und9 rfl rfl) ?_
      refine ROps.l (r := AV.b true) rfl rfl rfl (LOp.eqb (LOp.eql rfl rfl rfl) hc2) ?_
      refine ROps.nil ?_
      refine RunC.cond_true rfl rfl ?_
      refine RunC.seq ?_
      obtain ⟨e1, he3, h⟩ := obind_some h
      refine RunC.regionW ?_
      refine ROps.l (r := AV.str a0) rfl rfl rfl (LOp.move rfl rfl) ?_
      refine ROps.l (r := AV.str a1) rfl rfl rfl (LOp.move rfl rfl) ?_
      refine ROps.l (r := AV.ik .u8 e1) rfl rfl rfl (LOp.index_str und9 rfl rfl rfl he3) ?_
      refine ROps.l (r := AV.i64 (cntB a0 e1)) rfl rfl rfl (LOp.cntB ext50 rfl rfl rfl) ?_
      refine ROps.l (r := AV.i64 (cntB a0 e1)) rfl rfl rfl (LOp.assign rfl rfl) ?_
      refine ROps.nil ?_
      refine RunC.ret ?_
      have hq := Option.some.inj h
      subst q0
      exact bodyQ.pure (.inr rfl) rfl (Res.one rfl (RV.tmp rfl))
    · refine RunC.regionW ?_
      refine ROps.l (r := AV.str a1) rfl rfl rfl (LOp.move rfl rfl) ?_
      refine ROps.l (r := AV.i64 (a1.size : Int)) rfl rfl rfl (LOp.len_str und9 rfl rfl) ?_
      refine ROps.l (r := AV.b false) rfl rfl rfl (LOp.eqb (LOp.eql rfl rfl rfl) hc2) ?_
      refine ROps.nil ?_
      refine RunC.cond_false rfl rfl ?_
      refine RunC.skip ?_
      refine RunC.seq ?_
      refine RunC.regionW ?_
      refine ROps.l (r := AV.i64 0) rfl rfl rfl (LOp.assign rfl rfl) ?_
      refine ROps.nil ?_
      obtain ⟨z2, hz_2, h⟩ := obind_some h
      refine RunC.block (RunC.loop (RunL.loopM (x := z2) (x_strings_Count_s1 a1) (fun (s : ByteArray × Int) τ Γ => WeakLe τ [(0, AV.str s.1), (1, AV.str a1), (5, AV.i64 s.2)] ∧ DeadLe Γ []) ?_ _ _ _ hz_2 ⟨⟨(ALe.refl _), (ALe.refl _), (ALe.refl _), trivial⟩, trivial⟩))
      rintro ⟨s2, v3⟩ τ2 Γ2 y2_ ⟨hw2, hd2⟩ h2_ ho2 hr2
      refine RunC.wl (τ' := [(0, AV.str s2), (1, AV.str a1), (5, AV.i64 v3)]) (Γ' := []) hw2 hd2 ?_
      replace h2_ : x_strings_Count_b1 a1 s2 v3 = some y2_ := h2_
      unfold x_strings_Count_b1 at h2_
      refine RunC.block ?_
      refine RunC.seq ?_
      obtain ⟨r4, hf4, h2_⟩ := obind_some h2_
      refine RunC.regionW ?_
      refine ROps.l (r := AV.str s2) rfl rfl rfl (LOp.move rfl rfl) ?_
      refine ROps.l (r := AV.str a1) rfl rfl rfl (LOp.move rfl rfl) ?_
      refine ROps.d (r := AV.i64 r4) (fs := []) (Γ' := []) rfl rfl rfl (TOp.callB (CallAs.func ent38 rfl rfl) (Bors.cons (Bor.pure rfl) (Bors.cons (Bor.pure rfl) Bors.nil)) rfl rfl (x_strings_Index_ok s2 a1 r4 hf4)) rfl ?_
      refine ROps.l (r := AV.i64 r4) rfl rfl rfl (LOp.assign rfl rfl) ?_
      refine ROps.nil ?_
      refine RunC.seq ?_
      refine RunC.seq ?_
      rcases bsel_some h2_ with ⟨hc5, h2_⟩ | ⟨hc5, h2_⟩
      · refine RunC.regionW ?_
        refine ROps.l (r := AV.i64 r4) rfl rfl rfl (LOp.move rfl rfl) ?_
        refine ROps.l (r := AV.b true) rfl rfl rfl (LOp.eqb (LOp.eql rfl rfl rfl) hc5) ?_
        refine ROps.nil ?_
        refine RunC.cond_true rfl rfl ?_
        refine RunC.seq ?_
        refine RunC.regionW ?_
        refine ROps.l (r := AV.i64 v3) rfl rfl rfl (LOp.move rfl rfl) ?_
        refine ROps.l (r := AV.i64 v3) rfl rfl rfl (LOp.assign rfl rfl) ?_
        refine ROps.nil ?_
        refine RunC.ret ?_
        cases Option.some.inj h2_
        have hx3_ := hr2 _ rfl
        subst hx3_
        have hq := Option.some.inj h
        subst q0
        exact bodyQ.pure (.inr rfl) rfl (Res.one rfl (RV.tmp rfl))
      · refine RunC.regionW ?_
        refine ROps.l (r := AV.i64 r4) rfl rfl rfl (LOp.move rfl rfl) ?_
        refine ROps.l (r := AV.b false) rfl rfl rfl (LOp.eqb (LOp.eql rfl rfl rfl) hc5) ?_
        refine ROps.nil ?_
        refine RunC.cond_false rfl rfl ?_
        refine RunC.skip ?_
        refine RunC.seq ?_
        obtain ⟨x5, hx6, h2_⟩ := olet_some h2_
        refine RunC.regionW ?_
        refine ROps.l (r := AV.i64 v3) rfl rfl rfl (LOp.move rfl rfl) ?_
        refine ROps.l (r := AV.i64 x5) rfl rfl rfl (LOp.eqr (LOp.add rfl rfl rfl) (congrArg (AV.ik .i64) hx6)) ?_
        refine ROps.l (r := AV.i64 x5) rfl rfl rfl (LOp.assign rfl rfl) ?_
        refine ROps.nil ?_
        obtain ⟨x6, hx7, h2_⟩ := olet_some h2_
        obtain ⟨t7, hs8, h2_⟩ := obind_some h2_
        refine RunC.regionW ?_
        refine ROps.l (r := AV.str s2) rfl rfl rfl (LOp.move rfl rfl) ?_
        refine ROps.l (r := AV.i64 r4) rfl rfl rfl (LOp.move rfl rfl) ?_
        refine ROps.l (r := AV.str a1) rfl rfl rfl (LOp.move rfl rfl) ?_
        refine ROps.l (r := AV.i64 (a1.size : Int)) rfl rfl rfl (LOp.len_str und9 rfl rfl) ?_
        refine ROps.l (r := AV.i64 x6) rfl rfl rfl (LOp.eqr (LOp.add rfl rfl rfl) (congrArg (AV.ik .i64) hx7)) ?_
        refine ROps.l (r := AV.str t7) rfl rfl rfl (LOp.subs_lo und9 rfl rfl rfl hs8) ?_
        refine ROps.l (r := AV.str t7) rfl rfl rfl (LOp.assign rfl rfl) ?_
        refine ROps.nil ?_
        cases Option.some.inj h2_
        exact ⟨_, rfl, ⟨(ALe.refl _), (ALe.refl _), (ALe.refl _), trivial⟩, trivial⟩
noncomputable def x_strings_genSplit_b2 (a1 : ByteArray) (a2 : Int) (x5 : Int) (L6 : List ByteArray) (s8 : ByteArray) (v9 : Int) : Option (LR ((List ByteArray) × ByteArray × Int) ((List ByteArray) × ByteArray × Int) ((List ByteArray))) :=
  bsel (decide (v9 < x5)) (
    obind (x_strings_Index s8 a1) fun (r10 : Int) =>
    bsel (decide (r10 < 0)) (
      some (LR.out (L6, s8, v9))) (
      olet (IntKind.i64.wrap (r10 + a2)) fun (x11 : Int) =>
      obind (subs? s8 0 x11) fun (t12 : ByteArray) =>
      obind (setAt? L6 v9 t12) fun (L13 : List ByteArray) =>
      olet (IntKind.i64.wrap (r10 + (a1.size : Int))) fun (x14 : Int) =>
      obind (subs? s8 x14 (s8.size : Int)) fun (t15 : ByteArray) =>
      olet (IntKind.i64.wrap (v9 + 1)) fun (x16 : Int) =>
      some (LR.next (L13, t15, x16)))) (
    some (LR.out (L6, s8, v9)))
noncomputable def x_strings_genSplit_s2 (a1 : ByteArray) (a2 : Int) (x5 : Int) : ((List ByteArray) × ByteArray × Int) → Option (LR ((List ByteArray) × ByteArray × Int) ((List ByteArray) × ByteArray × Int) ((List ByteArray))) := fun s => x_strings_genSplit_b2 a1 a2 x5 s.1 s.2.1 s.2.2
noncomputable def x_strings_genSplit_k2 (L17 : List ByteArray) (s19 : ByteArray) (v20 : Int) : Option ((List ByteArray)) :=
  obind (setAt? L17 v20 s19) fun (L21 : List ByteArray) =>
  olet (IntKind.i64.wrap (v20 + 1)) fun (x22 : Int) =>
  obind (sub? L21 0 x22) fun (L23 : List ByteArray) =>
  some L23
noncomputable def x_strings_genSplit_k1 (a0 : ByteArray) (a1 : ByteArray) (a2 : Int) (v3 : Int) : Option ((List ByteArray)) :=
  olet (IntKind.i64.wrap ((a0.size : Int) + 1)) fun (x4 : Int) =>
  need (mkok 16 (imin v3 x4)) <|
  olet (IntKind.i64.wrap ((imin v3 x4) - 1)) fun (x5 : Int) =>
  obind (loopM (x_strings_genSplit_s2 a1 a2 x5) ((List.replicate (imin v3 x4).toNat lit_99ba06bc), a0, 0)) fun z => osum z (fun e => x_strings_genSplit_k2 e.1 e.2.1 e.2.2) (fun r => some r)
noncomputable def x_strings_genSplit (a0 : ByteArray) (a1 : ByteArray) (a2 : Int) (a3 : Int) : Option ((List ByteArray)) :=
  bsel (decide (a3 = 0)) (
    some ([] : List ByteArray)) (
    bsel (eqs a1 lit_99ba06bc) (
      none) (
      bsel (decide (a3 < 0)) (
        obind (x_strings_Count a0 a1) fun (r1 : Int) =>
        olet (IntKind.i64.wrap (r1 + 1)) fun (x2 : Int) =>
        x_strings_genSplit_k1 a0 a1 a2 x2) (
        x_strings_genSplit_k1 a0 a1 a2 a3)))
theorem x_strings_genSplit_ok (a0 : ByteArray) (a1 : ByteArray) (a2 : Int) (a3 : Int) (q0 : List ByteArray) (h : x_strings_genSplit a0 a1 a2 a3 = some q0) : Ev Tryd.prog 27 [AV.str a0, AV.str a1, AV.i64 a2, AV.i64 a3] [] (AV.oref 0 0 0 q0.length) [⟨0, some (q0.map AV.str)⟩] := by
  refine Ev.start Tryd.func27 rfl rfl 1 (τ := [(0, AV.str a0), (1, AV.str a1), (2, AV.i64 a2), (3, AV.i64 a3)]) rfl (Γ' := [⟨0, none⟩]) rfl (n := 133) rfl (g := 0) rfl (fun _ => rfl) ?_
  unfold x_strings_genSplit at h
  refine RunC.seq ?_
  refine RunC.regionW ?_
  refine ROps.l (r := AV.nilsl) rfl rfl rfl (LOp.assign rfl rfl) ?_
  refine ROps.nil ?_
  refine RunC.seq ?_
  refine RunC.seq ?_
  rcases bsel_some h with ⟨hc1, h⟩ | ⟨hc1, h⟩
  · refine RunC.regionW ?_
    refine ROps.l (r := AV.i64 a3) rfl rfl rfl (LOp.move rfl rfl) ?_
    refine ROps.l (r := AV.b true) rfl rfl rfl (LOp.eqb (LOp.eql rfl rfl rfl) hc1) ?_
    refine ROps.nil ?_
    refine RunC.cond_true rfl rfl ?_
    refine RunC.seq ?_
    refine RunC.regionW ?_
    refine ROps.l (r := AV.nilsl) rfl rfl rfl (LOp.assign rfl rfl) ?_
    refine ROps.nil ?_
    refine RunC.nil_slot (Γ' := [⟨1, some (([] : List ByteArray).map AV.str)⟩]) 8 0 rfl rfl rfl ?_
    refine RunC.ret ?_
    have hq := Option.some.inj h
    subst q0
    exact bodyQ.mk (r' := AV.oref 0 1 0 (([] : List ByteArray).length)) [(0, 1)] (.inr rfl) rfl (show List.Nodup [0] from by decide) rfl rfl (Res.eq (Res.one rfl (RV.tmp rfl)) (by rw [(show ([] : List ByteArray).length = 0 from rfl)] <;> rfl)) (SelL.arr0 (f := AV.str) (fun _ => rfl) rfl trivial)
  · refine RunC.regionW ?_
    refine ROps.l (r := AV.i64 a3) rfl rfl rfl (LOp.move rfl rfl) ?_
    refine ROps.l (r := AV.b false) rfl rfl rfl (LOp.eqb (LOp.eql rfl rfl rfl) hc1) ?_
    refine ROps.nil ?_
    refine RunC.cond_false rfl rfl ?_
    refine RunC.skip ?_
    refine RunC.seq ?_
    refine RunC.seq ?_
    rcases bsel_some h with ⟨hc2, h⟩ | ⟨hc2, h⟩
    · refine RunC.regionW ?_
      refine ROps.l (r := AV.str a1) rfl rfl rfl (LOp.move rfl rfl) ?_
      refine ROps.l (r := AV.b true) rfl rfl rfl (LOp.eqb (LOp.eqs rfl rfl rfl) hc2) ?_
      refine ROps.nil ?_
      refine RunC.cond_true rfl rfl ?_
      refine RunC.seq ?_
      cases h
    · refine RunC.regionW ?_
      refine ROps.l (r := AV.str a1) rfl rfl rfl (LOp.move rfl rfl) ?_
      refine ROps.l (r := AV.b false) rfl rfl rfl (LOp.eqb (LOp.eqs rfl rfl rfl) hc2) ?_
      refine ROps.nil ?_
      refine RunC.cond_false rfl rfl ?_
      refine RunC.skip ?_
      refine RunC.seq ?_
      refine RunC.cutN (fun τ Γ => ∃ (v3 : Int), WeakLe τ [(0, AV.str a0), (1, AV.str a1), (2, AV.i64 a2), (3, AV.i64 v3)] ∧ DeadLe Γ [⟨0, none⟩] ∧ x_strings_genSplit_k1 a0 a1 a2 v3 = some q0) ?_ ?_
      · refine RunC.seq ?_
        rcases bsel_some h with ⟨hc3, h⟩ | ⟨hc3, h⟩
        · refine RunC.regionW ?_
          refine ROps.l (r := AV.i64 a3) rfl rfl rfl (LOp.move rfl rfl) ?_
          refine ROps.l (r := AV.b true) rfl rfl rfl (LOp.eqb (LOp.lss rfl rfl rfl) hc3) ?_
          refine ROps.nil ?_
          refine RunC.cond_true rfl rfl ?_
          obtain ⟨r1, hf4, h⟩ := obind_some h
          obtain ⟨x2, hx5, h⟩ := olet_some h
          refine RunC.regionW ?_
          refine ROps.l (r := AV.str a0) rfl rfl rfl (LOp.move rfl rfl) ?_
          refine ROps.l (r := AV.str a1) rfl rfl rfl (LOp.move rfl rfl) ?_
          refine ROps.d (r := AV.i64 r1) (fs := []) (Γ' := [⟨0, none⟩]) rfl rfl rfl (TOp.callB (CallAs.func ent37 rfl rfl) (Bors.cons (Bor.pure rfl) (Bors.cons (Bor.pure rfl) Bors.nil)) rfl rfl (x_strings_Count_ok a0 a1 r1 hf4)) rfl ?_
          refine ROps.l (r := AV.i64 x2) rfl rfl rfl (LOp.eqr (LOp.add rfl rfl rfl) (congrArg (AV.ik .i64) hx5)) ?_
          refine ROps.l (r := AV.i64 x2) rfl rfl rfl (LOp.assign rfl rfl) ?_
          refine ROps.nil ?_
          exact ⟨x2, ⟨(ALe.refl _), (ALe.refl _), (ALe.refl _), (ALe.refl _), trivial⟩, ⟨⟨rfl, .inr rfl⟩, trivial⟩, h⟩
        · refine RunC.regionW ?_
          refine ROps.l (r := AV.i64 a3) rfl rfl rfl (LOp.move rfl rfl) ?_
          refine ROps.l (r := AV.b false) rfl rfl rfl (LOp.eqb (LOp.lss rfl rfl rfl) hc3) ?_
          refine ROps.nil ?_
          refine RunC.cond_false rfl rfl ?_
          refine RunC.skip ?_
          exact ⟨a3, ⟨(ALe.refl _), (ALe.refl _), (ALe.refl _), (ALe.refl _), trivial⟩, ⟨⟨rfl, .inr rfl⟩, trivial⟩, h⟩
      · rintro τ3 Γ3 ⟨v3, hw3, hd3, h⟩
        refine RunC.wl (τ' := [(0, AV.str a0), (1, AV.str a1), (2, AV.i64 a2), (3, AV.i64 v3)]) (Γ' := [⟨0, none⟩]) hw3 hd3 ?_
        unfold x_strings_genSplit_k1 at h
        refine RunC.seq ?_
        obtain ⟨x4, hx6, h⟩ := olet_some h
        refine RunC.regionW ?_
        refine ROps.l (r := AV.i64 v3) rfl rfl rfl (LOp.move rfl rfl) ?_
        refine ROps.l (r := AV.str a0) rfl rfl rfl (LOp.move rfl rfl) ?_
        refine ROps.l (r := AV.i64 (a0.size : Int)) rfl rfl rfl (LOp.len_str und9 rfl rfl) ?_
        refine ROps.l (r := AV.i64 x4) rfl rfl rfl (LOp.eqr (LOp.add rfl rfl rfl) (congrArg (AV.ik .i64) hx6)) ?_
        refine ROps.l (r := AV.i64 (imin v3 x4)) rfl rfl rfl (LOp.min2 rfl rfl rfl) ?_
        refine ROps.l (r := AV.i64 (imin v3 x4)) rfl rfl rfl (LOp.assign rfl rfl) ?_
        refine ROps.nil ?_
        refine RunC.seq ?_
        obtain ⟨hm7, h⟩ := need_some h
        refine RunC.regionW ?_
        refine ROps.l (r := AV.i64 (imin v3 x4)) rfl rfl rfl (LOp.move rfl rfl) ?_
        refine ROps.d (r := AV.oref 0 1 0 ((imin v3 x4).toNat)) (fs := [(0, ((List.replicate (imin v3 x4).toNat lit_99ba06bc).map AV.str))]) (Γ' := [⟨1, some ((List.replicate (imin v3 x4).toNat lit_99ba06bc).map AV.str)⟩]) rfl rfl rfl (TOp.mkS (g := ⟨0, none⟩) (t := 40) (e := 9) (by_ := 16) (f := AV.str) (zv := lit_99ba06bc) 0 rfl und40 tin9 rfl siz9 zer9 rfl zel9 rfl rfl rfl hm7) rfl ?_
        refine ROps.l (r := AV.oref 0 1 0 ((imin v3 x4).toNat)) rfl rfl rfl (LOp.assign rfl rfl) ?_
        refine ROps.nil ?_
        refine RunC.seq ?_
        obtain ⟨x5, hx8, h⟩ := olet_some h
        refine RunC.regionW ?_
        refine ROps.l (r := AV.i64 (imin v3 x4)) rfl rfl rfl (LOp.move rfl rfl) ?_
        refine ROps.l (r := AV.i64 x5) rfl rfl rfl (LOp.eqr (LOp.sub rfl rfl rfl) (congrArg (AV.ik .i64) hx8)) ?_
        refine ROps.l (r := AV.i64 x5) rfl rfl rfl (LOp.assign rfl rfl) ?_
        refine ROps.nil ?_
        refine RunC.seq ?_
        refine RunC.regionW ?_
        refine ROps.l (r := AV.i64 0) rfl rfl rfl (LOp.assign rfl rfl) ?_
        refine ROps.nil ?_
        refine RunC.seq ?_
        obtain ⟨z4, hz_4, h⟩ := obind_some h
        refine RunC.cutN (fun τ Γ => ∃ (L17 : List ByteArray) (s19 : ByteArray) (v20 : Int), L17.length = (imin v3 x4).toNat ∧ WeakLe τ [(0, AV.str s19), (9, AV.oref 0 1 0 ((imin v3 x4).toNat)), (10, AV.i64 v20)] ∧ DeadLe Γ [⟨1, some (L17.map AV.str)⟩] ∧ z4 = .inl (L17, s19, v20)) ?_ ?_
        · refine RunC.block (RunC.loop (RunL.loopM (x := z4) (x_strings_genSplit_s2 a1 a2 x5) (fun (s : (List ByteArray) × ByteArray × Int) τ Γ => s.1.length = (imin v3 x4).toNat ∧ WeakLe τ [(0, AV.str s.2.1), (1, AV.str a1), (2, AV.i64 a2), (3, AV.i64 x5), (9, AV.oref 0 1 0 ((imin v3 x4).toNat)), (10, AV.i64 s.2.2)] ∧ DeadLe Γ [⟨1, some (s.1.map AV.str)⟩]) ?_ _ _ _ hz_4 ⟨List.length_replicate, ⟨(ALe.refl _), (ALe.refl _), (ALe.refl _), (ALe.refl _), (ALe.refl _), (ALe.refl _), trivial⟩, ⟨⟨rfl, .inr rfl⟩, trivial⟩⟩))
          rintro ⟨L6, s8, v9⟩ τ4 Γ4 y4_ ⟨hl7, hw4, hd4⟩ h4_ ho4 hr4
          refine RunC.wl (τ' := [(0, AV.str s8), (1, AV.str a1), (2, AV.i64 a2), (3, AV.i64 x5), (9, AV.oref 0 1 0 ((imin v3 x4).toNat)), (10, AV.i64 v9)]) (Γ' := [⟨1, some (L6.map AV.str)⟩]) hw4 hd4 ?_
          replace hl7 : L6.length = (imin v3 x4).toNat := hl7
          replace h4_ : x_strings_genSplit_b2 a1 a2 x5 L6 s8 v9 = some y4_ := h4_
          unfold x_strings_genSplit_b2 at h4_
          refine RunC.seq ?_
          refine RunC.seq ?_
          rcases bsel_some h4_ with ⟨hc9, h4_⟩ | ⟨hc9, h4_⟩
          · refine RunC.regionW ?_
            refine ROps.l (r := AV.i64 v9) rfl rfl rfl (LOp.move rfl rfl) ?_
            refine ROps.l (r := AV.i64 x5) rfl rfl rfl (LOp.move rfl rfl) ?_
            refine ROps.l (r := AV.b true) rfl rfl rfl (LOp.eqb (LOp.lss rfl rfl rfl) hc9) ?_
            refine ROps.nil ?_
            refine RunC.cond_true rfl rfl ?_
            refine RunC.skip ?_
            refine RunC.block ?_
            refine RunC.seq ?_
            obtain ⟨r10, hf10, h4_⟩ := obind_some h4_
            refine RunC.regionW ?_
            refine ROps.l (r := AV.str s8) rfl rfl rfl (LOp.move rfl rfl) ?_
            refine ROps.l (r := AV.str a1) rfl rfl rfl (LOp.move rfl rfl) ?_
            refine ROps.d (r := AV.i64 r10) (fs := []) (Γ' := [⟨1, some (L6.map AV.str)⟩]) rfl rfl rfl (TOp.callB (CallAs.func ent38 rfl rfl) (Bors.cons (Bor.pure rfl) (Bors.cons (Bor.pure rfl) Bors.nil)) rfl rfl (x_strings_Index_ok s8 a1 r10 hf10)) rfl ?_
            refine ROps.l (r := AV.i64 r10) rfl rfl rfl (LOp.assign rfl rfl) ?_
            refine ROps.nil ?_
            refine RunC.seq ?_
            refine RunC.seq ?_
            rcases bsel_some h4_ with ⟨hc11, h4_⟩ | ⟨hc11, h4_⟩
            · refine RunC.regionW ?_
              refine ROps.l (r := AV.i64 r10) rfl rfl rfl (LOp.move rfl rfl) ?_
              refine ROps.l (r := AV.b true) rfl rfl rfl (LOp.eqb (LOp.lss rfl rfl rfl) hc11) ?_
              refine ROps.nil ?_
              refine RunC.cond_true rfl rfl ?_
              refine RunC.exit ?_
              cases Option.some.inj h4_
              have hx := ho4 _ rfl
              exact ⟨L6, s8, v9, hl7, ⟨(ALe.refl _), (ALe.refl _), (ALe.refl _), trivial⟩, ⟨⟨rfl, .inr rfl⟩, trivial⟩, hx⟩
            · refine RunC.regionW ?_
              refine ROps.l (r := AV.i64 r10) rfl rfl rfl (LOp.move rfl rfl) ?_
              refine ROps.l (r := AV.b false) rfl rfl rfl (LOp.eqb (LOp.lss rfl rfl rfl) hc11) ?_
              refine ROps.nil ?_
              refine RunC.cond_false rfl rfl ?_
              refine RunC.skip ?_
              refine RunC.seq ?_
              obtain ⟨x11, hx12, h4_⟩ := olet_some h4_
              obtain ⟨t12, hs13, h4_⟩ := obind_some h4_
              obtain ⟨L13, he14, h4_⟩ := obind_some h4_
              refine RunC.regionW ?_
              refine ROps.l (r := AV.oref 0 1 0 ((imin v3 x4).toNat)) rfl rfl rfl (LOp.move rfl rfl) ?_
              refine ROps.l (r := AV.i64 v9) rfl rfl rfl (LOp.move rfl rfl) ?_
              refine ROps.l (r := AV.str s8) rfl rfl rfl (LOp.move rfl rfl) ?_
              refine ROps.l (r := AV.i64 r10) rfl rfl rfl (LOp.move rfl rfl) ?_
              refine ROps.l (r := AV.i64 a2) rfl rfl rfl (LOp.move rfl rfl) ?_
              refine ROps.l (r := AV.i64 x11) rfl rfl rfl (LOp.eqr (LOp.add rfl rfl rfl) (congrArg (AV.ik .i64) hx12)) ?_
              refine ROps.l (r := AV.str t12) rfl rfl rfl (LOp.subs_hi und9 rfl rfl rfl hs13) ?_
              refine ROps.d (r := AV.optr 0 1 v9.toNat) (fs := []) (Γ' := [⟨1, some (L6.map AV.str)⟩]) rfl rfl rfl (TOp.ixo und40 siz9 rfl rfl rfl (set_in he14 hl7) rfl) rfl ?_
              refine ROps.st (f := AV.str) (i := v9) (Γ' := [⟨1, some (L13.map AV.str)⟩]) rfl siz9 rfl rfl rfl (ALe.refl _) rfl rfl rfl he14 rfl ?_
              refine ROps.nil ?_
              refine RunC.wl (τ' := [(0, AV.str s8), (1, AV.str a1), (2, AV.i64 a2), (3, AV.i64 x5), (9, AV.oref 0 1 0 ((imin v3 x4).toNat)), (10, AV.i64 v9), (11, AV.i64 r10)]) (Γ' := [⟨1, some (L13.map AV.str)⟩]) ⟨(ALe.refl _), (ALe.refl _), (ALe.refl _), (ALe.refl _), (ALe.refl _), (ALe.refl _), (ALe.refl _), trivial⟩ ⟨⟨rfl, .inr rfl⟩, trivial⟩ ?_
              refine RunC.seq ?_
              obtain ⟨x14, hx15, h4_⟩ := olet_some h4_
              obtain ⟨t15, hs16, h4_⟩ := obind_some h4_
              refine RunC.regionW ?_
              refine ROps.l (r := AV.str s8) rfl rfl rfl (LOp.move rfl rfl) ?_
              refine ROps.l (r := AV.i64 r10) rfl rfl rfl (LOp.move rfl rfl) ?_
              refine ROps.l (r := AV.str a1) rfl rfl rfl (LOp.move rfl rfl) ?_
              refine ROps.l (r := AV.i64 (a1.size : Int)) rfl rfl rfl (LOp.len_str und9 rfl rfl) ?_
              refine ROps.l (r := AV.i64 x14) rfl rfl rfl (LOp.eqr (LOp.add rfl rfl rfl) (congrArg (AV.ik .i64) hx15)) ?_
              refine ROps.l (r := AV.str t15) rfl rfl rfl (LOp.subs_lo und9 rfl rfl rfl hs16) ?_
              refine ROps.l (r := AV.str t15) rfl rfl rfl (LOp.assign rfl rfl) ?_
              refine ROps.nil ?_
              obtain ⟨x16, hx17, h4_⟩ := olet_some h4_
              refine RunC.regionW ?_
              refine ROps.l (r := AV.i64 v9) rfl rfl rfl (LOp.move rfl rfl) ?_
              refine ROps.l (r := AV.i64 x16) rfl rfl rfl (LOp.eqr (LOp.add rfl rfl rfl) (congrArg (AV.ik .i64) hx17)) ?_
              refine ROps.l (r := AV.i64 x16) rfl rfl rfl (LOp.assign rfl rfl) ?_
              refine ROps.nil ?_
              cases Option.some.inj h4_
              exact ⟨_, rfl, ((setAt?_len he14).trans hl7), ⟨(ALe.refl _), (ALe.refl _), (ALe.refl _), (ALe.refl _), (ALe.refl _), (ALe.refl _), trivial⟩, ⟨⟨rfl, .inr rfl⟩, trivial⟩⟩
          · refine RunC.regionW ?_
            refine ROps.l (r := AV.i64 v9) rfl rfl rfl (LOp.move rfl rfl) ?_
            refine ROps.l (r := AV.i64 x5) rfl rfl rfl (LOp.move rfl rfl) ?_
            refine ROps.l (r := AV.b false) rfl rfl rfl (LOp.eqb (LOp.lss rfl rfl rfl) hc9) ?_
            refine ROps.nil ?_
            refine RunC.cond_false rfl rfl ?_
            refine RunC.exit ?_
            cases Option.some.inj h4_
            have hx := ho4 _ rfl
            exact ⟨L6, s8, v9, hl7, ⟨(ALe.refl _), (ALe.refl _), (ALe.refl _), trivial⟩, ⟨⟨rfl, .inr rfl⟩, trivial⟩, hx⟩
        · rintro τ5 Γ5 ⟨L17, s19, v20, hl18, hw5, hd5, rfl⟩
          refine RunC.wl (τ' := [(0, AV.str s19), (9, AV.oref 0 1 0 ((imin v3 x4).toNat)), (10, AV.i64 v20)]) (Γ' := [⟨1, some (L17.map AV.str)⟩]) hw5 hd5 ?_
          replace h : x_strings_genSplit_k2 L17 s19 v20 = some q0 := h
          unfold x_strings_genSplit_k2 at h
          refine RunC.seq ?_
          obtain ⟨L21, he18, h⟩ := obind_some h
          refine RunC.regionW ?_
          refine ROps.l (r := AV.oref 0 1 0 ((imin v3 x4).toNat)) rfl rfl rfl (LOp.move rfl rfl) ?_
          refine ROps.l (r := AV.i64 v20) rfl rfl rfl (LOp.move rfl rfl) ?_
          refine ROps.l (r := AV.str s19) rfl rfl rfl (LOp.move rfl rfl) ?_
          refine ROps.d (r := AV.optr 0 1 v20.toNat) (fs := []) (Γ' := [⟨1, some (L17.map AV.str)⟩]) rfl rfl rfl (TOp.ixo und40 siz9 rfl rfl rfl (set_in he18 hl18) rfl) rfl ?_
          refine ROps.st (f := AV.str) (i := v20) (Γ' := [⟨1, some (L21.map AV.str)⟩]) rfl siz9 rfl rfl rfl (ALe.refl _) rfl rfl rfl he18 rfl ?_
          refine ROps.nil ?_
          refine RunC.seq ?_
          obtain ⟨x22, hx19, h⟩ := olet_some h
          obtain ⟨L23, hs20, h⟩ := obind_some h
          refine RunC.regionW ?_
          refine ROps.l (r := AV.oref 0 1 0 ((imin v3 x4).toNat)) rfl rfl rfl (LOp.move rfl rfl) ?_
          refine ROps.l (r := AV.i64 v20) rfl rfl rfl (LOp.move rfl rfl) ?_
          refine ROps.l (r := AV.i64 x22) rfl rfl rfl (LOp.eqr (LOp.add rfl rfl rfl) (congrArg (AV.ik .i64) hx19)) ?_
          refine ROps.slice_hi_o (f := AV.str) (Γ' := [⟨1, some (L23.map AV.str)⟩]) rfl und40 siz9 rfl rfl rfl rfl rfl ((setAt?_len he18).trans hl18) hs20 rfl rfl ?_
          refine ROps.l (r := AV.oref 0 1 0 L23.length) rfl rfl rfl (LOp.assign rfl rfl) ?_
          refine ROps.nil ?_
          refine RunC.ret ?_
          have hq := Option.some.inj h
          subst q0
          exact bodyQ.mk (r' := AV.oref 0 1 0 L23.length) [(0, 1)] (.inr rfl) rfl (show List.Nodup [0] from by decide) rfl rfl (Res.one rfl (RV.tmp rfl)) (SelL.arr0 (f := AV.str) (fun _ => rfl) rfl trivial)
noncomputable def x_strings_Split (a0 : ByteArray) (a1 : ByteArray) : Option ((List ByteArray)) :=
  obind (x_strings_genSplit a0 a1 0 (-1)) fun (r1 : List ByteArray) =>
  some r1
theorem x_strings_Split_ok (a0 : ByteArray) (a1 : ByteArray) (q0 : List ByteArray) (h : x_strings_Split a0 a1 = some q0) : Ev Tryd.prog 20 [AV.str a0, AV.str a1] [] (AV.oref 0 0 0 q0.length) [⟨0, some (q0.map AV.str)⟩] := by
  refine Ev.start Tryd.func20 rfl rfl 1 (τ := [(0, AV.str a0), (1, AV.str a1)]) rfl (Γ' := [⟨0, none⟩]) rfl (n := 17) rfl (g := 0) rfl (fun _ => rfl) ?_
  unfold x_strings_Split at h
  refine RunC.seq ?_
  refine RunC.regionW ?_
  refine ROps.l (r := AV.nilsl) rfl rfl rfl (LOp.assign rfl rfl) ?_
  refine ROps.nil ?_
  refine RunC.seq ?_
  obtain ⟨r1, hf1, h⟩ := obind_some h
  refine RunC.regionW ?_
  refine ROps.l (r := AV.str a0) rfl rfl rfl (LOp.move rfl rfl) ?_
  refine ROps.l (r := AV.str a1) rfl rfl rfl (LOp.move rfl rfl) ?_
  refine ROps.d (r := AV.oref 0 1 0 r1.length) (fs := [(0, (r1.map AV.str))]) (Γ' := [⟨1, some (r1.map AV.str)⟩]) rfl rfl rfl (TOp.callBN (ls := [(r1.map AV.str)]) [0] (CallAs.func ent27 rfl rfl) (Bors.cons (Bor.pure rfl) (Bors.cons (Bor.pure rfl) (Bors.cons (Bor.pure rfl) (Bors.cons (Bor.pure rfl) Bors.nil)))) rfl (x_strings_genSplit_ok a0 a1 0 (-1) r1 hf1) (and_all (lts0_map (f := AV.str) (fun _ => rfl) _) rfl) (and_all (noss_map (f := AV.str) (fun _ => rfl) _) rfl) rfl (by decide) (ns_of ⟨⟨_, rfl⟩, trivial⟩)) rfl ?_
  refine ROps.l (r := AV.oref 0 1 0 r1.length) rfl rfl rfl (LOp.assign rfl rfl) ?_
  refine ROps.nil ?_
  refine RunC.ret ?_
  have hq := Option.some.inj h
  subst q0
  exact bodyQ.mk (r' := AV.oref 0 1 0 r1.length) [(0, 1)] (.inr rfl) rfl (show List.Nodup [0] from by decide) rfl rfl (Res.one rfl (RV.tmp rfl)) (SelL.arr0 (f := AV.str) (fun _ => rfl) rfl trivial)
noncomputable def x_strconv_ParseInt (a0 : ByteArray) (a1 a2 : Int) : Option (Int ⊕ Int) :=
  need (decide (a1 = 10)) <|
  need (decide (a2 = 64)) <|
  need (decide (a0.size ≤ 281474976710656)) <|
  match Go.Lib.parseIntB 64 a0.data.toList with
  | .ok v => some (.inl v)
  | .range => some (.inr (Go.Lib.intSat 64 a0.data.toList))
  | _ => some (.inr 0)
def pint_ren : Go.Shelf.Ren :=
{
  f := fun x =>
    match x with
    | 174 => 28
    | 247 => 39
    | 245 => 40
    | 287 => 51
    | 279 => 52
    | 280 => 53
    | 281 => 54
    | 282 => 55
    | 321 => 62
    | 322 => 63
    | 316 => 64
    | 171 => 66
    | 205 => 65
    | 243 => 72
    | 246 => 56
    | 283 => 67
    | 284 => 68
    | 285 => 69
    | 286 => 70
    | 129 => 74
    | 317 => 73
    | 318 => 75
    | 319 => 76
    | 320 => 77
    | 337 => 78
    | 338 => 79
    | n => n,
  t := fun x =>
    match x with
    | 9 => 9
    | 3 => 3
    | 2 => 2
    | 75 => 50
    | 85 => 51
    | 4 => 4
    | 167 => 70
    | 5 => 5
    | 53 => 71
    | 175 => 72
    | 46 => 66
    | 168 => 74
    | 37 => 63
    | 0 => 0
    | 210 => 85
    | 21 => 21
    | 127 => 98
    | 145 => 101
    | 143 => 99
    | 171 => 88
    | 173 => 91
    | 212 => 103
    | 51 => 79
    | 20 => 20
    | 213 => 104
    | 232 => 108
    | 233 => 109
    | 80 => 110
    | n => n,
  g := fun x =>
    match x with
    | 15 => 1
    | 16 => 2
    | 17 => 5
    | 18 => 6
    | 19 => 7
    | n => n }
theorem pint_lays : Go.Proofs.LaysC.n174 Tryd.prog pint_ren :=
  { f129 := (Eq.trans Tryd.func74 (congrArg some (by kernel_rfl))),
    f171 := (Eq.trans Tryd.func66 (congrArg some (by kernel_rfl))),
    f174 := (Eq.trans Tryd.func28 (congrArg some (by kernel_rfl))),
    f205 := (Eq.trans Tryd.func65 (congrArg some (by kernel_rfl))),
    f243 := (Eq.trans Tryd.func72 (congrArg some (by kernel_rfl))),
    f245 := (Eq.trans Tryd.func40 (congrArg some (by kernel_rfl))),
    f246 := (Eq.trans Tryd.func56 (congrArg some (by kernel_rfl))),
    f247 := (Eq.trans Tryd.func39 (congrArg some (by kernel_rfl))),
    f279 := (Eq.trans Tryd.func52 (congrArg some (by kernel_rfl))),
    f280 := (Eq.trans Tryd.func53 (congrArg some (by kernel_rfl))),
    f281 := (Eq.trans Tryd.func54 (congrArg some (by kernel_rfl))),
    f282 := (Eq.trans Tryd.func55 (congrArg some (by kernel_rfl))),
    f283 := (Eq.trans Tryd.func67 (congrArg some (by kernel_rfl))),
    f284 := (Eq.trans Tryd.func68 (congrArg some (by kernel_rfl))),
    f285 := (Eq.trans Tryd.func69 (congrArg some (by kernel_rfl))),
    f286 := (Eq.trans Tryd.func70 (congrArg some (by kernel_rfl))),
    f287 := (Eq.trans Tryd.func51 (congrArg some (by kernel_rfl))),
    f316 := (Eq.trans Tryd.func64 (congrArg some (by kernel_rfl))),
    f317 := (Eq.trans Tryd.func73 (congrArg some (by kernel_rfl))),
    f318 := (Eq.trans Tryd.func75 (congrArg some (by kernel_rfl))),
    f319 := (Eq.trans Tryd.func76 (congrArg some (by kernel_rfl))),
    f320 := (Eq.trans Tryd.func77 (congrArg some (by kernel_rfl))),
    f321 := (Eq.trans Tryd.func62 (congrArg some (by kernel_rfl))),
    f322 := (Eq.trans Tryd.func63 (congrArg some (by kernel_rfl))),
    f337 := (Eq.trans Tryd.func78 (congrArg some (by kernel_rfl))),
    f338 := (Eq.trans Tryd.func79 (congrArg some (by kernel_rfl))),
    t0 := Tryd.underlying0,
    a0 := Tryd.isAgg0,
    z0 := Tryd.sizeOf0,
    v0 := Tryd.zeroValue0,
    t2 := Tryd.underlying2,
    a2 := Tryd.isAgg2,
    z2 := Tryd.sizeOf2,
    v2 := Tryd.zeroValue2,
    t3 := Tryd.underlying3,
    a3 := Tryd.isAgg3,
    z3 := Tryd.sizeOf3,
    v3 := Tryd.zeroValue3,
    t4 := Tryd.underlying4,
    a4 := Tryd.isAgg4,
    z4 := Tryd.sizeOf4,
    v4 := Tryd.zeroValue4,
    t5 := Tryd.underlying5,
    a5 := Tryd.isAgg5,
    z5 := Tryd.sizeOf5,
    v5 := Tryd.zeroValue5,
    t9 := Tryd.underlying9,
    a9 := Tryd.isAgg9,
    z9 := Tryd.sizeOf9,
    v9 := Tryd.zeroValue9,
    t20 := Tryd.underlying20,
    a20 := Tryd.isAgg20,
    z20 := Tryd.sizeOf20,
    v20 := Tryd.zeroValue20,
    t21 := Tryd.underlying21,
    a21 := Tryd.isAgg21,
    z21 := Tryd.sizeOf21,
    v21 := Tryd.zeroValue21,
    t37 := Tryd.underlying63,
    a37 := Tryd.isAgg63,
    z37 := Tryd.sizeOf63,
    v37 := Tryd.zeroValue63,
    t46 := Tryd.underlying66,
    a46 := Tryd.isAgg66,
    z46 := Tryd.sizeOf66,
    v46 := Tryd.zeroValue66,
    t51 := Tryd.underlying79,
    a51 := Tryd.isAgg79,
    z51 := Tryd.sizeOf79,
    v51 := Tryd.zeroValue79,
    t53 := Tryd.underlying71,
    a53 := Tryd.isAgg71,
    z53 := Tryd.sizeOf71,
    v53 := Tryd.zeroValue71,
    t75 := Tryd.underlying50,
    a75 := Tryd.isAgg50,
    z75 := Tryd.sizeOf50,
    v75 := Tryd.zeroValue50,
    t85 := Tryd.underlying51,
    a85 := Tryd.isAgg51,
    z85 := Tryd.sizeOf51,
    v85 := Tryd.zeroValue51,
    t127 := Tryd.underlying98,
    a127 := Tryd.isAgg98,
    z127 := Tryd.sizeOf98,
    v127 := Tryd.zeroValue98,
    t143 := Tryd.underlying99,
    a143 := Tryd.isAgg99,
    z143 := Tryd.sizeOf99,
    v143 := Tryd.zeroValue99,
    t145 := Tryd.underlying101,
    a145 := Tryd.isAgg101,
    z145 := Tryd.sizeOf101,
    v145 := Tryd.zeroValue101,
    t167 := Tryd.underlying70,
    a167 := Tryd.isAgg70,
    z167 := Tryd.sizeOf70,
    v167 := Tryd.zeroValue70,
    t168 := Tryd.underlying74,
    a168 := Tryd.isAgg74,
    z168 := Tryd.sizeOf74,
    v168 := Tryd.zeroValue74,
    t171 := Tryd.underlying88,
    a171 := Tryd.isAgg88,
    z171 := Tryd.sizeOf88,
    v171 := Tryd.zeroValue88,
    t173 := Tryd.underlying91,
    a173 := Tryd.isAgg91,
    z173 := Tryd.sizeOf91,
    v173 := Tryd.zeroValue91,
    t175 := Tryd.underlying72,
    a175 := Tryd.isAgg72,
    z175 := Tryd.sizeOf72,
    v175 := Tryd.zeroValue72,
    t210 := Tryd.underlying85,
    a210 := Tryd.isAgg85,
    z210 := Tryd.sizeOf85,
    v210 := Tryd.zeroValue85,
    t212 := Tryd.underlying103,
    a212 := Tryd.isAgg103,
    z212 := Tryd.sizeOf103,
    v212 := Tryd.zeroValue103,
    t213 := Tryd.underlying104,
    a213 := Tryd.isAgg104,
    z213 := Tryd.sizeOf104,
    t232 := Tryd.underlying108,
    a232 := Tryd.isAgg108,
    z232 := Tryd.sizeOf108,
    v232 := Tryd.zeroValue108,
    t233 := Tryd.underlying109,
    a233 := Tryd.isAgg109,
    z233 := Tryd.sizeOf109,
    v233 := Tryd.zeroValue109,
    t80 := Tryd.underlying110,
    a80 := Tryd.isAgg110,
    z80 := Tryd.sizeOf110,
    v80 := Tryd.zeroValue110,
    mixed := (by kernel_rfl),
    g15 := (by kernel_rfl),
    g16 := (by kernel_rfl),
    g17 := (by kernel_rfl),
    g18 := (by kernel_rfl),
    g19 := (by kernel_rfl),
    i0 := (by kernel_rfl),
    i2 := (by kernel_rfl),
    i3 := (by kernel_rfl),
    i4 := (by kernel_rfl),
    i5 := (by kernel_rfl),
    i9 := (by kernel_rfl),
    i20 := (by kernel_rfl),
    i21 := (by kernel_rfl),
    i37 := (by kernel_rfl),
    i46 := (by kernel_rfl),
    i51 := (by kernel_rfl),
    i53 := (by kernel_rfl),
    i75 := (by kernel_rfl),
    i80 := (by kernel_rfl),
    i85 := (by kernel_rfl),
    i127 := (by kernel_rfl),
    i143 := (by kernel_rfl),
    i145 := (by kernel_rfl),
    i167 := (by kernel_rfl),
    i168 := (by kernel_rfl),
    i171 := (by kernel_rfl),
    i173 := (by kernel_rfl),
    i175 := (by kernel_rfl),
    i210 := (by kernel_rfl),
    i212 := (by kernel_rfl),
    i232 := (by kernel_rfl),
    i233 := (by kernel_rfl),
    m15 := (by kernel_rfl),
    m16 := (by kernel_rfl),
    m17 := (by kernel_rfl),
    m18 := (by kernel_rfl),
    m19 := (by kernel_rfl),
    c0 := (by kernel_rfl),
    c2 := (by kernel_rfl),
    c3 := (by kernel_rfl),
    c4 := (by kernel_rfl),
    c5 := (by kernel_rfl),
    c9 := (by kernel_rfl),
    c20 := (by kernel_rfl),
    c21 := (by kernel_rfl),
    c37 := (by kernel_rfl),
    c46 := (by kernel_rfl),
    c51 := (by kernel_rfl),
    c53 := (by kernel_rfl),
    c75 := (by kernel_rfl),
    c80 := (by kernel_rfl),
    c85 := (by kernel_rfl),
    c127 := (by kernel_rfl),
    c143 := (by kernel_rfl),
    c145 := (by kernel_rfl),
    c167 := (by kernel_rfl),
    c168 := (by kernel_rfl),
    c171 := (by kernel_rfl),
    c173 := (by kernel_rfl),
    c175 := (by kernel_rfl),
    c210 := (by kernel_rfl),
    c212 := (by kernel_rfl),
    c213 := (by kernel_rfl),
    c232 := (by kernel_rfl),
    c233 := (by kernel_rfl) }
theorem x_strconv_ParseInt_three {vs : Array Value} {S : Snap} {a0 : ByteArray} {a1 a2 : Int} (ha : VL S [] [AV.str a0, AV.i64 a1, AV.i64 a2] vs.toList) : vs = #[.string a0, .int .i64 a1, .int .i64 a2] := by
  obtain ⟨vl⟩ := vs
  match vl, ha with
  | [v0, v1, v2], ha =>
    simp only [VL, V] at ha
    obtain ⟨rfl, rfl, rfl, _⟩ := ha
    rfl
  | [], ha => simp only [VL] at ha
  | [_], ha => simp only [VL] at ha; exact ha.2.elim
  | [_, _], ha => simp only [VL] at ha; exact ha.2.2.elim
  | _ :: _ :: _ :: _ :: _, ha => simp only [VL] at ha; exact ha.2.2.2.elim
theorem x_strconv_ParseInt_ok0 (a0 : ByteArray) (a1 a2 : Int) (q0 : Int) (h : x_strconv_ParseInt a0 a1 a2 = some (Sum.inl q0)) : Ev Tryd.prog 28 [AV.str a0, AV.i64 a1, AV.i64 a2] [] (AV.tup [AV.i64 q0, AV.x .nilIface]) [] := by
  unfold x_strconv_ParseInt at h
  obtain ⟨h1, k1⟩ := need_some h
  obtain ⟨h2, k2⟩ := need_some k1
  obtain ⟨h3, k3⟩ := need_some k2
  clear h k1 k2
  obtain rfl : a1 = 10 := of_decide_eq_true h1
  obtain rfl : a2 = 64 := of_decide_eq_true h2
  have h3 := of_decide_eq_true h3
  refine Ev.ofGrow fun S w vs hs ha => ?_
  rw [x_strconv_ParseInt_three ha]
  cases hp : Go.Lib.parseIntB 64 a0.data.toList with
  | ok v =>
    rw [hp] at k3
    obtain rfl : v = q0 := Sum.inl.inj (Option.some.inj k3)
    refine (Go.Proofs.Any.strconv_ParseInt_10_at64_ok pint_lays a0 (by omega) v hp w).mono ?_
    rintro e w' ⟨rfl, hw⟩
    refine ⟨_, rfl, by simp only [V]; exact ⟨_, rfl, show VL S [] [_, _] [_, _] from by simp only [VL, V]; exact ⟨trivial, trivial, trivial⟩⟩, ?_⟩
    rcases hw with rfl | ⟨t, rfl⟩
    · exact Grow.refl _
    · have hB := Go.Lib.bytesWorld_below w (pint_ren.t 5) t
      exact ⟨hB.size, fun k hk => hB.block k hk, hB.os, hB.tape, hB.output⟩
  | range => rw [hp] at k3; cases k3
  | _ => rw [hp] at k3; cases k3
theorem x_strconv_ParseInt_ok1 (a0 : ByteArray) (a1 a2 : Int) (q0 : Int) (h : x_strconv_ParseInt a0 a1 a2 = some (Sum.inr q0)) : Ev Tryd.prog 28 [AV.str a0, AV.i64 a1, AV.i64 a2] [] (AV.tup [AV.i64 q0, AV.nni]) [] := by
  unfold x_strconv_ParseInt at h
  obtain ⟨h1, k1⟩ := need_some h
  obtain ⟨h2, k2⟩ := need_some k1
  obtain ⟨h3, k3⟩ := need_some k2
  clear h k1 k2
  obtain rfl : a1 = 10 := of_decide_eq_true h1
  obtain rfl : a2 = 64 := of_decide_eq_true h2
  have h3 := of_decide_eq_true h3
  refine Ev.ofGrow fun S w vs hs ha => ?_
  rw [x_strconv_ParseInt_three ha]
  cases hp : Go.Lib.parseIntB 64 a0.data.toList with
  | ok v => rw [hp] at k3; cases k3
  | range =>
    rw [hp] at k3
    obtain rfl : Go.Lib.intSat 64 a0.data.toList = q0 := Sum.inr.inj (Option.some.inj k3)
    obtain ⟨ev, hv, hev⟩ := globs_err hs (g := 2) (by unfold globsI; simp)
    refine (Go.Proofs.Any.strconv_ParseInt_10_at64_range pint_lays a0 h3 hp ev w hv hev).mono ?_
    rintro e w' ⟨N, rfl, _, _, hB⟩
    exact ⟨_, rfl, by simp only [V]; exact ⟨_, rfl, show VL S [] [_, _] [_, _] from by simp only [VL, V]; exact ⟨trivial, ⟨_, _, rfl⟩, trivial⟩⟩, hB.size, fun k hk => hB.block k hk, hB.os, hB.tape, hB.output⟩
  | _ =>
    rw [hp] at k3
    obtain rfl : (0 : Int) = q0 := Sum.inr.inj (Option.some.inj k3)
    obtain ⟨ev, hv, hev⟩ := globs_err hs (g := 1) (by unfold globsI; simp)
    refine (Go.Proofs.Any.strconv_ParseInt_10_at64_syntax pint_lays a0 h3 hp ev w hv hev).mono ?_
    rintro e w' ⟨N, rfl, _, _, hB⟩
    exact ⟨_, rfl, by simp only [V]; exact ⟨_, rfl, show VL S [] [_, _] [_, _] from by simp only [VL, V]; exact ⟨trivial, ⟨_, _, rfl⟩, trivial⟩⟩, hB.size, fun k hk => hB.block k hk, hB.os, hB.tape, hB.output⟩
noncomputable def i_inRange (a0 : Int) (a1 : Int) (a2 : Int) : Option (Bool) :=
  bsel (decide (a1 ≤ a0)) (
    some (decide (a0 ≤ a2))) (
    some false)
theorem i_inRange_ok (a0 : Int) (a1 : Int) (a2 : Int) (q0 : Bool) (h : i_inRange a0 a1 a2 = some q0) : Ev Tryd.prog 29 [AV.i64 a0, AV.i64 a1, AV.i64 a2] [] (AV.b q0) [] := by
  refine Ev.start Tryd.func29 rfl rfl 0 (τ := [(0, AV.i64 a0), (1, AV.i64 a1), (2, AV.i64 a2)]) rfl (Γ' := []) rfl (n := 31) rfl (g := 0) rfl (fun _ => rfl) ?_
  unfold i_inRange at h
  refine RunC.seq ?_
  refine RunC.regionW ?_
  refine ROps.l (r := AV.b false) rfl rfl rfl (LOp.assign rfl rfl) ?_
  refine ROps.nil ?_
  refine RunC.seq ?_
  rcases bsel_some h with ⟨hc1, h⟩ | ⟨hc1, h⟩
  · refine RunC.regionW ?_
    refine ROps.l (r := AV.i64 a1) rfl rfl rfl (LOp.move rfl rfl) ?_
    refine ROps.l (r := AV.i64 a0) rfl rfl rfl (LOp.move rfl rfl) ?_
    refine ROps.l (r := AV.b true) rfl rfl rfl (LOp.eqb (LOp.leq rfl rfl rfl) hc1) ?_
    refine ROps.l (r := AV.b true) rfl rfl rfl (LOp.move rfl rfl) ?_
    refine ROps.l (r := AV.i64 a0) rfl rfl rfl (LOp.move rfl rfl) ?_
    refine ROps.l (r := AV.i64 a2) rfl rfl rfl (LOp.move rfl rfl) ?_
    refine ROps.l (r := AV.b (decide (a0 ≤ a2))) rfl rfl rfl (LOp.leq rfl rfl rfl) ?_
    refine ROps.l (r := AV.b (decide (a0 ≤ a2))) rfl rfl rfl (LOp.pick_true rfl rfl rfl) ?_
    refine ROps.l (r := AV.b (decide (a0 ≤ a2))) rfl rfl rfl (LOp.assign rfl rfl) ?_
    refine ROps.nil ?_
    refine RunC.ret ?_
    have hq := Option.some.inj h
    subst q0
    exact bodyQ.pure (.inr rfl) rfl (Res.one rfl (RV.tmp rfl))
  · refine RunC.regionW ?_
    refine ROps.l (r := AV.i64 a1) rfl rfl rfl (LOp.move rfl rfl) ?_
    refine ROps.l (r := AV.i64 a0) rfl rfl rfl (LOp.move rfl rfl) ?_
    refine ROps.l (r := AV.b false) rfl rfl rfl (LOp.eqb (LOp.leq rfl rfl rfl) hc1) ?_
    refine ROps.l (r := AV.b false) rfl rfl rfl (LOp.move rfl rfl) ?_
    refine ROps.s rfl rfl rfl ?_
    refine ROps.s rfl rfl rfl ?_
    refine ROps.s rfl rfl rfl ?_
    refine ROps.l (r := AV.b false) rfl rfl rfl (LOp.pick_false rfl rfl rfl) ?_
    refine ROps.l (r := AV.b false) rfl rfl rfl (LOp.assign rfl rfl) ?_
    refine ROps.nil ?_
    refine RunC.ret ?_
    have hq := Option.some.inj h
    subst q0
    exact bodyQ.pure (.inr rfl) rfl (Res.one rfl (RV.tmp rfl))
noncomputable def x_strconv_FormatInt (a0 a1 : Int) : Option ByteArray :=
  need (decide (a1 = 10)) <|
  need (decide (-9223372036854775808 ≤ a0)) <|
  need (decide (a0 ≤ 9223372036854775807)) <|
  some ⟨(Go.Lib.itoa a0).toArray⟩
def fmt_ren : Go.Shelf.Ren :=
{
  f := fun x =>
    match x with
    | 173 => 41
    | 246 => 56
    | 283 => 67
    | 284 => 68
    | 285 => 69
    | 286 => 70
    | 129 => 74
    | 317 => 73
    | 318 => 75
    | 319 => 76
    | 320 => 77
    | 337 => 78
    | 338 => 79
    | n => n,
  t := fun x =>
    match x with
    | 2 => 2
    | 3 => 3
    | 9 => 9
    | 4 => 4
    | 171 => 88
    | 0 => 0
    | 53 => 71
    | 37 => 63
    | 5 => 5
    | 173 => 91
    | 212 => 103
    | 51 => 79
    | 20 => 20
    | 213 => 104
    | 46 => 66
    | 232 => 108
    | 233 => 109
    | n => n,
  g := fun x =>
    match x with
    | 17 => 5
    | 18 => 6
    | 19 => 7
    | n => n }
theorem fmt_lays : Go.Proofs.LaysM.n173 Tryd.prog fmt_ren :=
  { f129 := (Eq.trans Tryd.func74 (congrArg some (by kernel_rfl))),
    f173 := (Eq.trans Tryd.func41 (congrArg some (by kernel_rfl))),
    f246 := (Eq.trans Tryd.func56 (congrArg some (by kernel_rfl))),
    f283 := (Eq.trans Tryd.func67 (congrArg some (by kernel_rfl))),
    f284 := (Eq.trans Tryd.func68 (congrArg some (by kernel_rfl))),
    f285 := (Eq.trans Tryd.func69 (congrArg some (by kernel_rfl))),
    f286 := (Eq.trans Tryd.func70 (congrArg some (by kernel_rfl))),
    f317 := (Eq.trans Tryd.func73 (congrArg some (by kernel_rfl))),
    f318 := (Eq.trans Tryd.func75 (congrArg some (by kernel_rfl))),
    f319 := (Eq.trans Tryd.func76 (congrArg some (by kernel_rfl))),
    f320 := (Eq.trans Tryd.func77 (congrArg some (by kernel_rfl))),
    f337 := (Eq.trans Tryd.func78 (congrArg some (by kernel_rfl))),
    f338 := (Eq.trans Tryd.func79 (congrArg some (by kernel_rfl))),
    t0 := Tryd.underlying0,
    a0 := Tryd.isAgg0,
    z0 := Tryd.sizeOf0,
    v0 := Tryd.zeroValue0,
    t2 := Tryd.underlying2,
    a2 := Tryd.isAgg2,
    z2 := Tryd.sizeOf2,
    v2 := Tryd.zeroValue2,
    t3 := Tryd.underlying3,
    a3 := Tryd.isAgg3,
    z3 := Tryd.sizeOf3,
    v3 := Tryd.zeroValue3,
    t4 := Tryd.underlying4,
    a4 := Tryd.isAgg4,
    z4 := Tryd.sizeOf4,
    v4 := Tryd.zeroValue4,
    t5 := Tryd.underlying5,
    a5 := Tryd.isAgg5,
    z5 := Tryd.sizeOf5,
    v5 := Tryd.zeroValue5,
    t9 := Tryd.underlying9,
    a9 := Tryd.isAgg9,
    z9 := Tryd.sizeOf9,
    v9 := Tryd.zeroValue9,
    t20 := Tryd.underlying20,
    a20 := Tryd.isAgg20,
    z20 := Tryd.sizeOf20,
    v20 := Tryd.zeroValue20,
    t37 := Tryd.underlying63,
    a37 := Tryd.isAgg63,
    z37 := Tryd.sizeOf63,
    v37 := Tryd.zeroValue63,
    t46 := Tryd.underlying66,
    a46 := Tryd.isAgg66,
    z46 := Tryd.sizeOf66,
    v46 := Tryd.zeroValue66,
    t51 := Tryd.underlying79,
    a51 := Tryd.isAgg79,
    z51 := Tryd.sizeOf79,
    v51 := Tryd.zeroValue79,
    t53 := Tryd.underlying71,
    a53 := Tryd.isAgg71,
    z53 := Tryd.sizeOf71,
    v53 := Tryd.zeroValue71,
    t171 := Tryd.underlying88,
    a171 := Tryd.isAgg88,
    z171 := Tryd.sizeOf88,
    v171 := Tryd.zeroValue88,
    t173 := Tryd.underlying91,
    a173 := Tryd.isAgg91,
    z173 := Tryd.sizeOf91,
    v173 := Tryd.zeroValue91,
    t212 := Tryd.underlying103,
    a212 := Tryd.isAgg103,
    z212 := Tryd.sizeOf103,
    v212 := Tryd.zeroValue103,
    t213 := Tryd.underlying104,
    a213 := Tryd.isAgg104,
    z213 := Tryd.sizeOf104,
    t232 := Tryd.underlying108,
    a232 := Tryd.isAgg108,
    z232 := Tryd.sizeOf108,
    v232 := Tryd.zeroValue108,
    t233 := Tryd.underlying109,
    a233 := Tryd.isAgg109,
    z233 := Tryd.sizeOf109,
    v233 := Tryd.zeroValue109,
    mixed := (by kernel_rfl),
    g17 := (by kernel_rfl),
    g18 := (by kernel_rfl),
    g19 := (by kernel_rfl),
    i0 := (by kernel_rfl),
    i2 := (by kernel_rfl),
    i3 := (by kernel_rfl),
    i4 := (by kernel_rfl),
    i5 := (by kernel_rfl),
    i9 := (by kernel_rfl),
    i20 := (by kernel_rfl),
    i37 := (by kernel_rfl),
    i46 := (by kernel_rfl),
    i51 := (by kernel_rfl),
    i53 := (by kernel_rfl),
    i171 := (by kernel_rfl),
    i173 := (by kernel_rfl),
    i212 := (by kernel_rfl),
    i232 := (by kernel_rfl),
    i233 := (by kernel_rfl),
    m17 := (by kernel_rfl),
    m18 := (by kernel_rfl),
    m19 := (by kernel_rfl) }
theorem x_strconv_FormatInt_tab {S : Snap} {w : World} (h : SnapOK S w) : Go.Lib.TabIs Tryd.prog w "internal/strconv.uint64pow10" .u64 Go.Lib.pow10Tab := by
  obtain ⟨T, m, e⟩ := globs_at h (g := 5) (cs := (Go.Lib.pow10Tab.map fun z => Value.int .u64 z).toArray) (by unfold globs; exact List.mem_cons_self ..)
  unfold Go.Lib.TabIs World.var?
  rw [show Tryd.prog.globalNamed "internal/strconv.uint64pow10" = some 5 by kernel_rfl]
  simp only [Option.bind_some, e]
theorem x_strconv_FormatInt_ok (a0 a1 : Int) (q0 : ByteArray) (h : x_strconv_FormatInt a0 a1 = some q0) : Ev Tryd.prog 41 [AV.i64 a0, AV.i64 a1] [] (AV.str q0) [] := by
  unfold x_strconv_FormatInt at h
  obtain ⟨h1, h⟩ := need_some h
  obtain ⟨h2, h⟩ := need_some h
  obtain ⟨h3, h⟩ := need_some h
  have hq := Option.some.inj h
  subst hq
  have e1 : a1 = 10 := of_decide_eq_true h1
  subst e1
  refine Ev.ofGrow fun S w vs hs ha => ?_
  obtain ⟨vl⟩ := vs
  match vl, ha with
  | [v0, v1], ha =>
    simp only [VL, V] at ha
    obtain ⟨rfl, rfl, _⟩ := ha
    refine (Go.Proofs.Any.strconv_FormatInt_10 fmt_lays a0 (of_decide_eq_true h2) (of_decide_eq_true h3) w (x_strconv_FormatInt_tab hs)).mono ?_
    rintro e w' ⟨rfl, k, os, rfl⟩
    refine ⟨_, rfl, by simp only [V], ?_⟩
    exact ⟨by simp [Go.Sort.grow, World.drewN], fun b hb => by simp [Go.Sort.grow, World.drewN, Array.getElem?_append, hb], rfl, rfl, rfl⟩
  | [], ha => simp only [VL] at ha
  | [_], ha => simp only [VL] at ha; exact ha.2.elim
  | _ :: _ :: _ :: _, ha => simp only [VL] at ha; exact ha.2.2.elim
noncomputable def i_Decimal (a0 : Int) : Option (ByteArray) :=
  obind (x_strconv_FormatInt a0 10) fun (r1 : ByteArray) =>
  some r1
theorem i_Decimal_ok (a0 : Int) (q0 : ByteArray) (h : i_Decimal a0 = some q0) : Ev Tryd.prog 30 [AV.i64 a0] [] (AV.str q0) [] := by
  refine Ev.start Tryd.func30 rfl rfl 0 (τ := [(0, AV.i64 a0)]) rfl (Γ' := []) rfl (n := 11) rfl (g := 0) rfl (fun _ => rfl) ?_
  unfold i_Decimal at h
  refine RunC.seq ?_
  refine RunC.regionW ?_
  refine ROps.l (r := AV.str lit_99ba06bc) rfl rfl rfl (LOp.assign rfl rfl) ?_
  refine ROps.nil ?_
  refine RunC.seq ?_
  obtain ⟨r1, hf1, h⟩ := obind_some h
  refine RunC.regionW ?_
  refine ROps.l (r := AV.i64 a0) rfl rfl rfl (LOp.move rfl rfl) ?_
  refine ROps.d (r := AV.str r1) (fs := []) (Γ' := []) rfl rfl rfl (TOp.callB (CallAs.func ent41 rfl rfl) (Bors.cons (Bor.pure rfl) (Bors.cons (Bor.pure rfl) Bors.nil)) rfl rfl (x_strconv_FormatInt_ok a0 10 r1 hf1)) rfl ?_
  refine ROps.l (r := AV.str r1) rfl rfl rfl (LOp.assign rfl rfl) ?_
  refine ROps.nil ?_
  refine RunC.ret ?_
  have hq := Option.some.inj h
  subst q0
  exact bodyQ.pure (.inr rfl) rfl (Res.one rfl (RV.tmp rfl))
noncomputable def i_ReadDecimal (a0 : ByteArray) : Option (Int × Bool) :=
  obind (x_strconv_ParseInt a0 10 64) (fun z => osum z (fun (r1 : Int) =>
    obind (i_inRange r1 (-1000000000000000) 1000000000000000) fun (r3 : Bool) =>
    bsel r3 (
      obind (i_Decimal r1) fun (r4 : ByteArray) =>
      bsel (!eqs r4 a0) (
        some (0, false)) (
        some (r1, true))) (
      some (0, false))) (fun (r2 : Int) =>
    some (0, false)))
theorem i_ReadDecimal_ok (a0 : ByteArray) (q0 : Int) (q1 : Bool) (h : i_ReadDecimal a0 = some (q0, q1)) : Ev Tryd.prog 21 [AV.str a0] [] (AV.tup [AV.i64 q0, AV.b q1]) [] := by
  refine Ev.start Tryd.func21 rfl rfl 0 (τ := [(0, AV.str a0)]) rfl (Γ' := []) rfl (n := 51) rfl (g := 0) rfl (fun _ => rfl) ?_
  unfold i_ReadDecimal at h
  refine RunC.seq ?_
  refine RunC.regionW ?_
  refine ROps.l (r := AV.i64 0) rfl rfl rfl (LOp.assign rfl rfl) ?_
  refine ROps.l (r := AV.b false) rfl rfl rfl (LOp.assign rfl rfl) ?_
  refine ROps.nil ?_
  refine RunC.seq ?_
  obtain ⟨z1, hf1, h⟩ := obind_some h
  rcases z1 with r1 | r2
  · replace h := (osum_inl _ _ _).symm.trans h
    refine RunC.regionW ?_
    refine ROps.l (r := AV.str a0) rfl rfl rfl (LOp.move rfl rfl) ?_
    refine ROps.d (r := AV.tup [AV.i64 r1, AV.x .nilIface]) (fs := []) (Γ' := []) rfl rfl rfl (TOp.callB (CallAs.func ent28 rfl rfl) (Bors.cons (Bor.pure rfl) (Bors.cons (Bor.pure rfl) (Bors.cons (Bor.pure rfl) Bors.nil))) rfl rfl (x_strconv_ParseInt_ok0 a0 10 64 r1 hf1)) rfl ?_
    refine ROps.l (r := AV.tup [AV.i64 r1, AV.x .nilIface]) rfl rfl rfl (LOp.move rfl rfl) ?_
    refine ROps.l (r := AV.i64 r1) rfl rfl rfl (LOp.extract rfl rfl rfl) ?_
    refine ROps.l (r := AV.x .nilIface) rfl rfl rfl (LOp.extract rfl rfl rfl) ?_
    refine ROps.l (r := AV.i64 r1) rfl rfl rfl (LOp.assign rfl rfl) ?_
    refine ROps.l (r := AV.x .nilIface) rfl rfl rfl (LOp.assign rfl rfl) ?_
    refine ROps.nil ?_
    refine RunC.seq ?_
    refine RunC.seq ?_
    obtain ⟨r3, hf2, h⟩ := obind_some h
    rcases bsel_some h with ⟨hc3, h⟩ | ⟨hc3, h⟩
    · obtain ⟨r4, hf4, h⟩ := obind_some h
      rcases bsel_some h with ⟨hc5, h⟩ | ⟨hc5, h⟩
      · refine RunC.regionW ?_
        refine ROps.l (r := AV.x .nilIface) rfl rfl rfl (LOp.move rfl rfl) ?_
        refine ROps.l (r := AV.b false) rfl rfl rfl (LOp.neq_nil_nil pun50 rfl rfl) ?_
        refine ROps.l (r := AV.b false) rfl rfl rfl (LOp.move rfl rfl) ?_
        refine ROps.l (r := AV.i64 r1) rfl rfl rfl (LOp.move rfl rfl) ?_
        refine ROps.d (r := AV.b true) (fs := []) (Γ' := []) rfl rfl rfl (TOp.eqb (TOp.callB (CallAs.func ent29 rfl rfl) (Bors.cons (Bor.pure rfl) (Bors.cons (Bor.pure rfl) (Bors.cons (Bor.pure rfl) Bors.nil))) rfl rfl (i_inRange_ok r1 (-1000000000000000) 1000000000000000 r3 hf2)) hc3) rfl ?_
        refine ROps.l (r := AV.b false) rfl rfl rfl (LOp.eqb (LOp.not rfl rfl) rfl) ?_
        refine ROps.l (r := AV.b false) rfl rfl rfl (LOp.pick_false rfl rfl rfl) ?_
        refine ROps.l (r := AV.b false) rfl rfl rfl (LOp.move rfl rfl) ?_
        refine ROps.l (r := AV.i64 r1) rfl rfl rfl (LOp.move rfl rfl) ?_
        refine ROps.d (r := AV.str r4) (fs := []) (Γ' := []) rfl rfl rfl (TOp.callB (CallAs.func ent30 rfl rfl) (Bors.cons (Bor.pure rfl) Bors.nil) rfl rfl (i_Decimal_ok r1 r4 hf4)) rfl ?_
        refine ROps.l (r := AV.str a0) rfl rfl rfl (LOp.move rfl rfl) ?_
        refine ROps.l (r := AV.b true) rfl rfl rfl (LOp.eqb (LOp.neqs rfl rfl rfl) hc5) ?_
        refine ROps.l (r := AV.b true) rfl rfl rfl (LOp.pick_false rfl rfl rfl) ?_
        refine ROps.nil ?_
        refine RunC.wl (τ' := [(4, AV.i64 r1), (23, AV.b true)]) (Γ' := []) ⟨(ALe.refl _), (ALe.refl _), trivial⟩ trivial ?_
        refine RunC.cond_true rfl rfl ?_
        refine RunC.seq ?_
        refine RunC.regionW ?_
        refine ROps.l (r := AV.i64 0) rfl rfl rfl (LOp.assign rfl rfl) ?_
        refine ROps.l (r := AV.b false) rfl rfl rfl (LOp.assign rfl rfl) ?_
        refine ROps.nil ?_
        refine RunC.ret ?_
        have hq := Option.some.inj h
        obtain ⟨hq0, hq⟩ := Prod.mk.inj hq
        subst q0
        subst q1
        exact bodyQ.pure (.inr rfl) rfl (Res.two rfl (RV.tmp rfl) (RV.tmp rfl))
      · refine RunC.regionW ?_
        refine ROps.l (r := AV.x .nilIface) rfl rfl rfl (LOp.move rfl rfl) ?_
        refine ROps.l (r := AV.b false) rfl rfl rfl (LOp.neq_nil_nil pun50 rfl rfl) ?_
        refine ROps.l (r := AV.b false) rfl rfl rfl (LOp.move rfl rfl) ?_
        refine ROps.l (r := AV.i64 r1) rfl rfl rfl (LOp.move rfl rfl) ?_
        refine ROps.d (r := AV.b true) (fs := []) (Γ' := []) rfl rfl rfl (TOp.eqb (TOp.callB (CallAs.func ent29 rfl rfl) (Bors.cons (Bor.pure rfl) (Bors.cons (Bor.pure rfl) (Bors.cons (Bor.pure rfl) Bors.nil))) rfl rfl (i_inRange_ok r1 (-1000000000000000) 1000000000000000 r3 hf2)) hc3) rfl ?_
        refine ROps.l (r := AV.b false) rfl rfl rfl (LOp.eqb (LOp.not rfl rfl) rfl) ?_
        refine ROps.l (r := AV.b false) rfl rfl rfl (LOp.pick_false rfl rfl rfl) ?_
        refine ROps.l (r := AV.b false) rfl rfl rfl (LOp.move rfl rfl) ?_
        refine ROps.l (r := AV.i64 r1) rfl rfl rfl (LOp.move rfl rfl) ?_
        refine ROps.d (r := AV.str r4) (fs := []) (Γ' := []) rfl rfl rfl (TOp.callB (CallAs.func ent30 rfl rfl) (Bors.cons (Bor.pure rfl) Bors.nil) rfl rfl (i_Decimal_ok r1 r4 hf4)) rfl ?_
        refine ROps.l (r := AV.str a0) rfl rfl rfl (LOp.move rfl rfl) ?_
        refine ROps.l (r := AV.b false) rfl rfl rfl (LOp.eqb (LOp.neqs rfl rfl rfl) hc5) ?_
        refine ROps.l (r := AV.b false) rfl rfl rfl (LOp.pick_false rfl rfl rfl) ?_
        refine ROps.nil ?_
        refine RunC.wl (τ' := [(4, AV.i64 r1), (23, AV.b false)]) (Γ' := []) ⟨(ALe.refl _), (ALe.refl _), trivial⟩ trivial ?_
        refine RunC.cond_false rfl rfl ?_
        refine RunC.skip ?_
        refine RunC.seq ?_
        refine RunC.regionW ?_
        refine ROps.l (r := AV.i64 r1) rfl rfl rfl (LOp.move rfl rfl) ?_
        refine ROps.l (r := AV.i64 r1) rfl rfl rfl (LOp.assign rfl rfl) ?_
        refine ROps.l (r := AV.b true) rfl rfl rfl (LOp.assign rfl rfl) ?_
        refine ROps.nil ?_
        refine RunC.ret ?_
        have hq := Option.some.inj h
        obtain ⟨hq0, hq⟩ := Prod.mk.inj hq
        subst q0
        subst q1
        exact bodyQ.pure (.inr rfl) rfl (Res.two rfl (RV.tmp rfl) (RV.tmp rfl))
    · refine RunC.regionW ?_
      refine ROps.l (r := AV.x .nilIface) rfl rfl rfl (LOp.move rfl rfl) ?_
      refine ROps.l (r := AV.b false) rfl rfl rfl (LOp.neq_nil_nil pun50 rfl rfl) ?_
      refine ROps.l (r := AV.b false) rfl rfl rfl (LOp.move rfl rfl) ?_
      refine ROps.l (r := AV.i64 r1) rfl rfl rfl (LOp.move rfl rfl) ?_
      refine ROps.d (r := AV.b false) (fs := []) (Γ' := []) rfl rfl rfl (TOp.eqb (TOp.callB (CallAs.func ent29 rfl rfl) (Bors.cons (Bor.pure rfl) (Bors.cons (Bor.pure rfl) (Bors.cons (Bor.pure rfl) Bors.nil))) rfl rfl (i_inRange_ok r1 (-1000000000000000) 1000000000000000 r3 hf2)) hc3) rfl ?_
      refine ROps.l (r := AV.b true) rfl rfl rfl (LOp.eqb (LOp.not rfl rfl) rfl) ?_
      refine ROps.l (r := AV.b true) rfl rfl rfl (LOp.pick_false rfl rfl rfl) ?_
      refine ROps.l (r := AV.b true) rfl rfl rfl (LOp.move rfl rfl) ?_
      refine ROps.s rfl rfl rfl ?_
      refine ROps.s rfl rfl rfl ?_
      refine ROps.s rfl rfl rfl ?_
      refine ROps.s rfl rfl rfl ?_
      refine ROps.l (r := AV.b true) rfl rfl rfl (LOp.pick_true rfl rfl rfl) ?_
      refine ROps.nil ?_
      refine RunC.wl (τ' := [(4, AV.i64 r1), (23, AV.b true)]) (Γ' := []) ⟨(ALe.refl _), (ALe.refl _), trivial⟩ trivial ?_
      refine RunC.cond_true rfl rfl ?_
      refine RunC.seq ?_
      refine RunC.regionW ?_
      refine ROps.l (r := AV.i64 0) rfl rfl rfl (LOp.assign rfl rfl) ?_
      refine ROps.l (r := AV.b false) rfl rfl rfl (LOp.assign rfl rfl) ?_
      refine ROps.nil ?_
      refine RunC.ret ?_
      have hq := Option.some.inj h
      obtain ⟨hq0, hq⟩ := Prod.mk.inj hq
      subst q0
      subst q1
      exact bodyQ.pure (.inr rfl) rfl (Res.two rfl (RV.tmp rfl) (RV.tmp rfl))
  · replace h := (osum_inr _ _ _).symm.trans h
    refine RunC.regionW ?_
    refine ROps.l (r := AV.str a0) rfl rfl rfl (LOp.move rfl rfl) ?_
    refine ROps.d (r := AV.tup [AV.i64 r2, AV.nni]) (fs := []) (Γ' := []) rfl rfl rfl (TOp.callB (CallAs.func ent28 rfl rfl) (Bors.cons (Bor.pure rfl) (Bors.cons (Bor.pure rfl) (Bors.cons (Bor.pure rfl) Bors.nil))) rfl rfl (x_strconv_ParseInt_ok1 a0 10 64 r2 hf1)) rfl ?_
    refine ROps.l (r := AV.tup [AV.i64 r2, AV.nni]) rfl rfl rfl (LOp.move rfl rfl) ?_
    refine ROps.l (r := AV.i64 r2) rfl rfl rfl (LOp.extract rfl rfl rfl) ?_
    refine ROps.l (r := AV.nni) rfl rfl rfl (LOp.extract rfl rfl rfl) ?_
    refine ROps.l (r := AV.i64 r2) rfl rfl rfl (LOp.assign rfl rfl) ?_
    refine ROps.l (r := AV.nni) rfl rfl rfl (LOp.assign rfl rfl) ?_
    refine ROps.nil ?_
    refine RunC.seq ?_
    refine RunC.seq ?_
    refine RunC.regionW ?_
    refine ROps.l (r := AV.nni) rfl rfl rfl (LOp.move rfl rfl) ?_
    refine ROps.l (r := AV.b true) rfl rfl rfl (LOp.neq_nni pun50 rfl rfl rfl) ?_
    refine ROps.l (r := AV.b true) rfl rfl rfl (LOp.move rfl rfl) ?_
    refine ROps.s rfl rfl rfl ?_
    refine ROps.s rfl rfl rfl ?_
    refine ROps.s rfl rfl rfl ?_
    refine ROps.l (r := AV.b true) rfl rfl rfl (LOp.pick_true rfl rfl rfl) ?_
    refine ROps.l (r := AV.b true) rfl rfl rfl (LOp.move rfl rfl) ?_
    refine ROps.s rfl rfl rfl ?_
    refine ROps.s rfl rfl rfl ?_
    refine ROps.s rfl rfl rfl ?_
    refine ROps.s rfl rfl rfl ?_
    refine ROps.l (r := AV.b true) rfl rfl rfl (LOp.pick_true rfl rfl rfl) ?_
    refine ROps.nil ?_
    refine RunC.wl (τ' := [(4, AV.i64 r2), (23, AV.b true)]) (Γ' := []) ⟨(ALe.refl _), (ALe.refl _), trivial⟩ trivial ?_
    refine RunC.cond_true rfl rfl ?_
    refine RunC.seq ?_
    refine RunC.regionW ?_
    refine ROps.l (r := AV.i64 0) rfl rfl rfl (LOp.assign rfl rfl) ?_
    refine ROps.l (r := AV.b false) rfl rfl rfl (LOp.assign rfl rfl) ?_
    refine ROps.nil ?_
    refine RunC.ret ?_
    have hq := Option.some.inj h
    obtain ⟨hq0, hq⟩ := Prod.mk.inj hq
    subst q0
    subst q1
    exact bodyQ.pure (.inr rfl) rfl (Res.two rfl (RV.tmp rfl) (RV.tmp rfl))
noncomputable def i_ReadList_b1 (r1 : List ByteArray) (L4 : List Int) (v5 : Int) : Option (LR ((List Int) × Int) ((List Int)) (Bool × (List Int))) :=
  bsel (decide (v5 < ((r1.length : Nat) : Int))) (
    obind (at? r1 v5) fun (e6 : ByteArray) =>
    obind2 (i_ReadDecimal e6) fun (r7 : Int) (r8 : Bool) =>
    bsel r8 (
      bsel (decide (((L4.length : Nat) : Int) = 64)) (
        some (LR.ret (false, ([] : List Int)))) (
        need (apok 8 L4.length 1) <|
        olet (IntKind.i64.wrap (v5 + 1)) fun (x9 : Int) =>
        some (LR.next ((L4 ++ ([r7] : List Int)), x9)))) (
      some (LR.ret (false, ([] : List Int))))) (
    some (LR.out L4))
noncomputable def i_ReadList_s1 (r1 : List ByteArray) : ((List Int) × Int) → Option (LR ((List Int) × Int) ((List Int)) (Bool × (List Int))) := fun s => i_ReadList_b1 r1 s.1 s.2
noncomputable def i_ReadList_k1 (L12 : List Int) : Option (Bool × (List Int)) :=
  some (true, L12)
noncomputable def i_ReadList (a0 : ByteArray) : Option (Bool × (List Int)) :=
  bsel (eqs a0 lit_5ac87db9) (
    some (true, ([] : List Int))) (
    obind (x_strings_Split a0 lit_be717853) fun (r1 : List ByteArray) =>
    obind (loopM (i_ReadList_s1 r1) (([] : List Int), 0)) fun z => osum z (fun e => i_ReadList_k1 e) (fun r => some r))
theorem i_ReadList_ok (a0 : ByteArray) (q0 : Bool) (q1 : List Int) (h : i_ReadList a0 = some (q0, q1)) : Ev Tryd.prog 11 [AV.str a0] [] (AV.tup [AV.oref 0 0 0 q1.length, AV.b q0]) [⟨0, some (q1.map AV.i64)⟩] := by
  refine Ev.start Tryd.func11 rfl rfl 3 (τ := [(0, AV.str a0)]) rfl (Γ' := [⟨0, none⟩, ⟨0, none⟩, ⟨0, none⟩]) rfl (n := 77) rfl (g := 0) rfl (fun _ => rfl) ?_
  unfold i_ReadList at h
  refine RunC.seq ?_
  refine RunC.regionW ?_
  refine ROps.l (r := AV.nilsl) rfl rfl rfl (LOp.assign rfl rfl) ?_
  refine ROps.l (r := AV.b false) rfl rfl rfl (LOp.assign rfl rfl) ?_
  refine ROps.nil ?_
  refine RunC.seq ?_
  refine RunC.regionW ?_
  refine ROps.d (r := AV.oref 0 1 0 0) (fs := [(0, (([] : List Int).map AV.i64))]) (Γ' := [⟨1, some (([] : List Int).map AV.i64)⟩, ⟨0, none⟩, ⟨0, none⟩]) rfl rfl rfl (TOp.buildSlice_o (g := ⟨0, none⟩) (za := AV.i64 0) (qs := []) 0 rfl und22 siz2 zer2 rfl zel2 rfl rfl trivial rfl) rfl ?_
  refine ROps.l (r := AV.oref 0 1 0 0) rfl rfl rfl (LOp.assign rfl rfl) ?_
  refine ROps.nil ?_
  refine RunC.seq ?_
  refine RunC.seq ?_
  rcases bsel_some h with ⟨hc1, h⟩ | ⟨hc1, h⟩
  · refine RunC.regionW ?_
    refine ROps.l (r := AV.str a0) rfl rfl rfl (LOp.move rfl rfl) ?_
    refine ROps.l (r := AV.b true) rfl rfl rfl (LOp.eqb (LOp.eqs rfl rfl rfl) hc1) ?_
    refine ROps.nil ?_
    refine RunC.cond_true rfl rfl ?_
    refine RunC.seq ?_
    refine RunC.regionW ?_
    refine ROps.l (r := AV.oref 0 1 0 0) rfl rfl rfl (LOp.move rfl rfl) ?_
    refine ROps.l (r := AV.oref 0 1 0 0) rfl rfl rfl (LOp.assign rfl rfl) ?_
    refine ROps.l (r := AV.b true) rfl rfl rfl (LOp.assign rfl rfl) ?_
    refine ROps.nil ?_
    refine RunC.ret ?_
    have hq := Option.some.inj h
    obtain ⟨hq0, hq⟩ := Prod.mk.inj hq
    subst q0
    subst q1
    exact bodyQ.mk (r' := AV.tup [AV.oref 0 1 0 (([] : List Int).length), AV.b true]) [(0, 1)] (.inr rfl) rfl (show List.Nodup [0] from by decide) rfl rfl (Res.eq (Res.two rfl (RV.tmp rfl) (RV.tmp rfl)) (by rw [(show ([] : List Int).length = 0 from rfl)] <;> rfl)) (SelL.arr0 (f := AV.i64) (fun _ => rfl) rfl trivial)
  · refine RunC.regionW ?_
    refine ROps.l (r := AV.str a0) rfl rfl rfl (LOp.move rfl rfl) ?_
    refine ROps.l (r := AV.b false) rfl rfl rfl (LOp.eqb (LOp.eqs rfl rfl rfl) hc1) ?_
    refine ROps.nil ?_
    refine RunC.cond_false rfl rfl ?_
    refine RunC.skip ?_
    refine RunC.seq ?_
    refine RunC.seq ?_
    obtain ⟨r1, hf2, h⟩ := obind_some h
    refine RunC.regionW ?_
    refine ROps.l (r := AV.str a0) rfl rfl rfl (LOp.move rfl rfl) ?_
    refine ROps.d (r := AV.oref 1 1 0 r1.length) (fs := [(1, (r1.map AV.str))]) (Γ' := [⟨1, some (([] : List Int).map AV.i64)⟩, ⟨1, some (r1.map AV.str)⟩, ⟨0, none⟩]) rfl rfl rfl (TOp.callBN (ls := [(r1.map AV.str)]) [1] (CallAs.func ent20 rfl rfl) (Bors.cons (Bor.pure rfl) (Bors.cons (Bor.pure rfl) Bors.nil)) rfl (x_strings_Split_ok a0 lit_be717853 r1 hf2) (and_all (lts0_map (f := AV.str) (fun _ => rfl) _) rfl) (and_all (noss_map (f := AV.str) (fun _ => rfl) _) rfl) rfl (by decide) (ns_of ⟨⟨_, rfl⟩, trivial⟩)) rfl ?_
    refine ROps.l (r := AV.i64 ((r1.length : Nat) : Int)) rfl rfl rfl (LOp.len_oref und40 rfl rfl) ?_
    refine ROps.l (r := AV.i64 0) rfl rfl rfl (LOp.move rfl rfl) ?_
    refine ROps.nil ?_
    obtain ⟨z2, hz_2, h⟩ := obind_some h
    refine RunC.cutN (fun τ Γ => ∃ (L12 : List Int) (u10 : Nat) (u11 : Nat), WeakLe τ [(4, AV.oref 0 u10 0 L12.length)] ∧ DeadLe Γ [⟨u10, some (L12.map AV.i64)⟩, ⟨1, none⟩, ⟨u11, none⟩] ∧ z2 = .inl L12) ?_ ?_
    · refine RunC.block (RunC.loop (RunL.loopM (x := z2) (i_ReadList_s1 r1) (fun (s : (List Int) × Int) τ Γ => ∃ (u2 : Nat) (u3 : Nat), WeakLe τ [(4, AV.oref 0 u2 0 s.1.length), (14, AV.oref 1 1 0 r1.length), (15, AV.i64 ((r1.length : Nat) : Int)), (16, AV.i64 s.2)] ∧ DeadLe Γ [⟨u2, some (s.1.map AV.i64)⟩, ⟨1, some (r1.map AV.str)⟩, ⟨u3, none⟩]) ?_ _ _ _ hz_2 ⟨1, 0, ⟨(ALe.refl _), (ALe.refl _), (ALe.refl _), (ALe.refl _), trivial⟩, ⟨⟨rfl, .inr rfl⟩, ⟨rfl, .inr rfl⟩, ⟨rfl, .inl rfl⟩, trivial⟩⟩))
      rintro ⟨L4, v5⟩ τ2 Γ2 y2_ ⟨u2, u3, hw2, hd2⟩ h2_ ho2 hr2
      refine RunC.wl (τ' := [(4, AV.oref 0 u2 0 L4.length), (14, AV.oref 1 1 0 r1.length), (15, AV.i64 ((r1.length : Nat) : Int)), (16, AV.i64 v5)]) (Γ' := [⟨u2, some (L4.map AV.i64)⟩, ⟨1, some (r1.map AV.str)⟩, ⟨u3, none⟩]) hw2 hd2 ?_
      replace h2_ : i_ReadList_b1 r1 L4 v5 = some y2_ := h2_
      unfold i_ReadList_b1 at h2_
      refine RunC.seq ?_
      rcases bsel_some h2_ with ⟨hc3, h2_⟩ | ⟨hc3, h2_⟩
      · refine RunC.regionW ?_
        refine ROps.l (r := AV.b true) rfl rfl rfl (LOp.eqb (LOp.lss rfl rfl rfl) hc3) ?_
        refine ROps.nil ?_
        refine RunC.seq ?_
        refine RunC.cond_true rfl rfl ?_
        refine RunC.skip ?_
        refine RunC.seq ?_
        refine RunC.block ?_
        refine RunC.seq ?_
        obtain ⟨e6, he4, h2_⟩ := obind_some h2_
        refine RunC.regionW ?_
        refine ROps.d (r := AV.optr 1 1 v5.toNat) (fs := []) (Γ' := [⟨u2, some (L4.map AV.i64)⟩, ⟨1, some (r1.map AV.str)⟩, ⟨u3, none⟩]) rfl rfl rfl (TOp.ixo und40 siz9 rfl rfl rfl (at_in he4 rfl) rfl) rfl ?_
        refine ROps.d (r := AV.str e6) (fs := []) (Γ' := [⟨u2, some (L4.map AV.i64)⟩, ⟨1, some (r1.map AV.str)⟩, ⟨u3, none⟩]) rfl rfl rfl (TOp.load1_o rfl (at_cell he4) agg9 rfl rfl) rfl ?_
        refine ROps.l (r := AV.str e6) rfl rfl rfl (LOp.assign rfl rfl) ?_
        refine ROps.nil ?_
        refine RunC.seq ?_
        obtain ⟨r7, r8, hf5, h2_⟩ := obind2_some h2_
        rcases bsel_some h2_ with ⟨hc6, h2_⟩ | ⟨hc6, h2_⟩
        · refine RunC.regionW ?_
          refine ROps.l (r := AV.str e6) rfl rfl rfl (LOp.move rfl rfl) ?_
          refine ROps.d (r := AV.tup [AV.i64 r7, AV.b r8]) (fs := []) (Γ' := [⟨u2, some (L4.map AV.i64)⟩, ⟨1, some (r1.map AV.str)⟩, ⟨u3, none⟩]) rfl rfl rfl (TOp.callB (CallAs.func ent21 rfl rfl) (Bors.cons (Bor.pure rfl) Bors.nil) rfl rfl (i_ReadDecimal_ok e6 r7 r8 hf5)) rfl ?_
          refine ROps.l (r := AV.tup [AV.i64 r7, AV.b r8]) rfl rfl rfl (LOp.move rfl rfl) ?_
          refine ROps.l (r := AV.i64 r7) rfl rfl rfl (LOp.extract rfl rfl rfl) ?_
          refine ROps.l (r := AV.b true) rfl rfl rfl (LOp.eqb (LOp.extract rfl rfl rfl) hc6) ?_
          refine ROps.l (r := AV.i64 r7) rfl rfl rfl (LOp.assign rfl rfl) ?_
          refine ROps.l (r := AV.b true) rfl rfl rfl (LOp.assign rfl rfl) ?_
          refine ROps.nil ?_
          refine RunC.seq ?_
          refine RunC.seq ?_
          rcases bsel_some h2_ with ⟨hc7, h2_⟩ | ⟨hc7, h2_⟩
          · refine RunC.regionW ?_
            refine ROps.l (r := AV.b true) rfl rfl rfl (LOp.move rfl rfl) ?_
            refine ROps.l (r := AV.b false) rfl rfl rfl (LOp.eqb (LOp.not rfl rfl) rfl) ?_
            refine ROps.l (r := AV.b false) rfl rfl rfl (LOp.move rfl rfl) ?_
            refine ROps.l (r := AV.oref 0 u2 0 L4.length) rfl rfl rfl (LOp.move rfl rfl) ?_
            refine ROps.l (r := AV.i64 ((L4.length : Nat) : Int)) rfl rfl rfl (LOp.len_oref und22 rfl rfl) ?_
            refine ROps.l (r := AV.b true) rfl rfl rfl (LOp.eqb (LOp.eql rfl rfl rfl) hc7) ?_
            refine ROps.l (r := AV.b true) rfl rfl rfl (LOp.pick_false rfl rfl rfl) ?_
            refine ROps.nil ?_
            refine RunC.wl (τ' := [(4, AV.oref 0 u2 0 L4.length), (7, AV.i64 r7), (14, AV.oref 1 1 0 r1.length), (15, AV.i64 ((r1.length : Nat) : Int)), (16, AV.i64 v5), (28, AV.oref 0 u2 0 L4.length), (29, AV.i64 ((L4.length : Nat) : Int)), (30, AV.b true), (31, AV.b true)]) (Γ' := [⟨u2, some (L4.map AV.i64)⟩, ⟨1, some (r1.map AV.str)⟩, ⟨u3, none⟩]) ⟨(ALe.refl _), (ALe.refl _), (ALe.refl _), (ALe.refl _), (ALe.refl _), (ALe.refl _), (ALe.refl _), (ALe.refl _), (ALe.refl _), trivial⟩ ⟨⟨rfl, .inr rfl⟩, ⟨rfl, .inr rfl⟩, ⟨rfl, .inl rfl⟩, trivial⟩ ?_
            refine RunC.cond_true rfl rfl ?_
            refine RunC.seq ?_
            refine RunC.regionW ?_
            refine ROps.l (r := AV.nilsl) rfl rfl rfl (LOp.assign rfl rfl) ?_
            refine ROps.l (r := AV.b false) rfl rfl rfl (LOp.assign rfl rfl) ?_
            refine ROps.nil ?_
            refine RunC.nil_slot (Γ' := [⟨u2, some (L4.map AV.i64)⟩, ⟨1, some (r1.map AV.str)⟩, ⟨(u3 + 1), some (([] : List Int).map AV.i64)⟩]) 2 2 rfl rfl rfl ?_
            refine RunC.ret ?_
            cases Option.some.inj h2_
            have hx3_ := hr2 _ rfl
            subst hx3_
            have hq := Option.some.inj h
            obtain ⟨hq0, hq⟩ := Prod.mk.inj hq
            subst q0
            subst q1
            exact bodyQ.mk (r' := AV.tup [AV.oref 2 (u3 + 1) 0 (([] : List Int).length), AV.b false]) [(2, (u3 + 1))] (.inr rfl) rfl (show List.Nodup [2] from by decide) (by simp [AV.ren, AV.rens, sigma]) rfl (Res.eq (Res.two rfl (RV.tmp rfl) (RV.tmp rfl)) (by rw [(show ([] : List Int).length = 0 from rfl)] <;> rfl)) (SelL.arr0 (f := AV.i64) (fun _ => rfl) rfl trivial)
          · refine RunC.regionW ?_
            refine ROps.l (r := AV.b true) rfl rfl rfl (LOp.move rfl rfl) ?_
            refine ROps.l (r := AV.b false) rfl rfl rfl (LOp.eqb (LOp.not rfl rfl) rfl) ?_
            refine ROps.l (r := AV.b false) rfl rfl rfl (LOp.move rfl rfl) ?_
            refine ROps.l (r := AV.oref 0 u2 0 L4.length) rfl rfl rfl (LOp.move rfl rfl) ?_
            refine ROps.l (r := AV.i64 ((L4.length : Nat) : Int)) rfl rfl rfl (LOp.len_oref und22 rfl rfl) ?_
            refine ROps.l (r := AV.b false) rfl rfl rfl (LOp.eqb (LOp.eql rfl rfl rfl) hc7) ?_
            refine ROps.l (r := AV.b false) rfl rfl rfl (LOp.pick_false rfl rfl rfl) ?_
            refine ROps.nil ?_
            refine RunC.wl (τ' := [(4, AV.oref 0 u2 0 L4.length), (7, AV.i64 r7), (14, AV.oref 1 1 0 r1.length), (15, AV.i64 ((r1.length : Nat) : Int)), (16, AV.i64 v5), (28, AV.oref 0 u2 0 L4.length), (29, AV.i64 ((L4.length : Nat) : Int)), (30, AV.b false), (31, AV.b false)]) (Γ' := [⟨u2, some (L4.map AV.i64)⟩, ⟨1, some (r1.map AV.str)⟩, ⟨u3, none⟩]) ⟨(ALe.refl _), (ALe.refl _), (ALe.refl _), (ALe.refl _), (ALe.refl _), (ALe.refl _), (ALe.refl _), (ALe.refl _), (ALe.refl _), trivial⟩ ⟨⟨rfl, .inr rfl⟩, ⟨rfl, .inr rfl⟩, ⟨rfl, .inl rfl⟩, trivial⟩ ?_
            refine RunC.cond_false rfl rfl ?_
            refine RunC.skip ?_
            obtain ⟨hm8, h2_⟩ := need_some h2_
            refine RunC.regionW ?_
            refine ROps.l (r := AV.oref 0 u2 0 L4.length) rfl rfl rfl (LOp.move rfl rfl) ?_
            refine ROps.l (r := AV.i64 r7) rfl rfl rfl (LOp.move rfl rfl) ?_
            refine ROps.d (r := AV.oref 2 (u3 + 1) 0 1) (fs := [(2, (([r7] : List Int).map AV.i64))]) (Γ' := [⟨u2, some (L4.map AV.i64)⟩, ⟨1, some (r1.map AV.str)⟩, ⟨(u3 + 1), some (([r7] : List Int).map AV.i64)⟩]) rfl rfl rfl (TOp.buildSlice_o (g := ⟨u3, none⟩) (za := AV.i64 0) (qs := [(0, [AV.i64 r7])]) 2 rfl und22 siz2 zer2 rfl zel2 rfl rfl ⟨rfl, ⟨_, ALe.refl _, rfl⟩, trivial⟩ rfl) rfl ?_
            refine ROps.app (f := AV.i64) (xs := L4) (ys := ([r7] : List Int)) (Γ' := [⟨(u2 + 1), some ((L4 ++ ([r7] : List Int)).map AV.i64)⟩, ⟨1, some (r1.map AV.str)⟩, ⟨(u3 + 1), some (([r7] : List Int).map AV.i64)⟩]) rfl pun22 inf2 rfl rfl rfl rfl rfl rfl rfl rfl rfl (by simp) (ReadAs.own rfl (by simp)) (ones_map (fun _ => rfl)) (ap_by hm8) (ap_mx hm8) rfl ?_
            refine ROps.l (r := AV.oref 0 (u2 + 1) 0 (L4.length + 1)) rfl rfl rfl (LOp.assign rfl rfl) ?_
            refine ROps.nil ?_
            refine RunC.wl (τ' := [(4, AV.oref 0 (u2 + 1) 0 (L4.length + 1)), (14, AV.oref 1 1 0 r1.length), (15, AV.i64 ((r1.length : Nat) : Int)), (16, AV.i64 v5), (28, AV.oref 0 u2 0 L4.length), (29, AV.i64 ((L4.length : Nat) : Int)), (30, AV.b false)]) (Γ' := [⟨(u2 + 1), some ((L4 ++ ([r7] : List Int)).map AV.i64)⟩, ⟨1, some (r1.map AV.str)⟩, ⟨(u3 + 1), none⟩]) ⟨(ALe.refl _), (ALe.refl _), (ALe.refl _), (ALe.refl _), (ALe.refl _), (ALe.refl _), (ALe.refl _), trivial⟩ ⟨⟨rfl, .inr rfl⟩, ⟨rfl, .inr rfl⟩, ⟨rfl, .inl rfl⟩, trivial⟩ ?_
            obtain ⟨x9, hx9, h2_⟩ := olet_some h2_
            refine RunC.regionW ?_
            refine ROps.l (r := AV.i64 x9) rfl rfl rfl (LOp.eqr (LOp.add rfl rfl rfl) (congrArg (AV.ik .i64) hx9)) ?_
            refine ROps.l (r := AV.i64 x9) rfl rfl rfl (LOp.move rfl rfl) ?_
            refine ROps.nil ?_
            cases Option.some.inj h2_
            exact ⟨_, rfl, (u2 + 1), (u3 + 1), ⟨(ALe.eq (by rw [(app_len rfl rfl)] <;> rfl)), (ALe.refl _), (ALe.refl _), (ALe.refl _), trivial⟩, ⟨⟨rfl, .inr rfl⟩, ⟨rfl, .inr rfl⟩, ⟨rfl, .inl rfl⟩, trivial⟩⟩
        · refine RunC.regionW ?_
          refine ROps.l (r := AV.str e6) rfl rfl rfl (LOp.move rfl rfl) ?_
          refine ROps.d (r := AV.tup [AV.i64 r7, AV.b r8]) (fs := []) (Γ' := [⟨u2, some (L4.map AV.i64)⟩, ⟨1, some (r1.map AV.str)⟩, ⟨u3, none⟩]) rfl rfl rfl (TOp.callB (CallAs.func ent21 rfl rfl) (Bors.cons (Bor.pure rfl) Bors.nil) rfl rfl (i_ReadDecimal_ok e6 r7 r8 hf5)) rfl ?_
          refine ROps.l (r := AV.tup [AV.i64 r7, AV.b r8]) rfl rfl rfl (LOp.move rfl rfl) ?_
          refine ROps.l (r := AV.i64 r7) rfl rfl rfl (LOp.extract rfl rfl rfl) ?_
          refine ROps.l (r := AV.b false) rfl rfl rfl (LOp.eqb (LOp.extract rfl rfl rfl) hc6) ?_
          refine ROps.l (r := AV.i64 r7) rfl rfl rfl (LOp.assign rfl rfl) ?_
          refine ROps.l (r := AV.b false) rfl rfl rfl (LOp.assign rfl rfl) ?_
          refine ROps.nil ?_
          refine RunC.seq ?_
          refine RunC.seq ?_
          refine RunC.regionW ?_
          refine ROps.l (r := AV.b false) rfl rfl rfl (LOp.move rfl rfl) ?_
          refine ROps.l (r := AV.b true) rfl rfl rfl (LOp.eqb (LOp.not rfl rfl) rfl) ?_
          refine ROps.l (r := AV.b true) rfl rfl rfl (LOp.move rfl rfl) ?_
          refine ROps.s rfl rfl rfl ?_
          refine ROps.s rfl rfl rfl ?_
          refine ROps.s rfl rfl rfl ?_
          refine ROps.l (r := AV.b true) rfl rfl rfl (LOp.pick_true rfl rfl rfl) ?_
          refine ROps.nil ?_
          refine RunC.wl (τ' := [(4, AV.oref 0 u2 0 L4.length), (7, AV.i64 r7), (14, AV.oref 1 1 0 r1.length), (15, AV.i64 ((r1.length : Nat) : Int)), (16, AV.i64 v5), (31, AV.b true)]) (Γ' := [⟨u2, some (L4.map AV.i64)⟩, ⟨1, some (r1.map AV.str)⟩, ⟨u3, none⟩]) ⟨(ALe.refl _), (ALe.refl _), (ALe.refl _), (ALe.refl _), (ALe.refl _), (ALe.refl _), trivial⟩ ⟨⟨rfl, .inr rfl⟩, ⟨rfl, .inr rfl⟩, ⟨rfl, .inl rfl⟩, trivial⟩ ?_
          refine RunC.cond_true rfl rfl ?_
          refine RunC.seq ?_
          refine RunC.regionW ?_
          refine ROps.l (r := AV.nilsl) rfl rfl rfl (LOp.assign rfl rfl) ?_
          refine ROps.l (r := AV.b false) rfl rfl rfl (LOp.assign rfl rfl) ?_
          refine ROps.nil ?_
          refine RunC.nil_slot (Γ' := [⟨u2, some (L4.map AV.i64)⟩, ⟨1, some (r1.map AV.str)⟩, ⟨(u3 + 1), some (([] : List Int).map AV.i64)⟩]) 2 2 rfl rfl rfl ?_
          refine RunC.ret ?_
          cases Option.some.inj h2_
          have hx4_ := hr2 _ rfl
          subst hx4_
          have hq := Option.some.inj h
          obtain ⟨hq0, hq⟩ := Prod.mk.inj hq
          subst q0
          subst q1
          exact bodyQ.mk (r' := AV.tup [AV.oref 2 (u3 + 1) 0 (([] : List Int).length), AV.b false]) [(2, (u3 + 1))] (.inr rfl) rfl (show List.Nodup [2] from by decide) (by simp [AV.ren, AV.rens, sigma]) rfl (Res.eq (Res.two rfl (RV.tmp rfl) (RV.tmp rfl)) (by rw [(show ([] : List Int).length = 0 from rfl)] <;> rfl)) (SelL.arr0 (f := AV.i64) (fun _ => rfl) rfl trivial)
      · refine RunC.regionW ?_
        refine ROps.l (r := AV.b false) rfl rfl rfl (LOp.eqb (LOp.lss rfl rfl rfl) hc3) ?_
        refine ROps.nil ?_
        refine RunC.seq ?_
        refine RunC.cond_false rfl rfl ?_
        refine RunC.exit ?_
        cases Option.some.inj h2_
        have hx := ho2 _ rfl
        exact ⟨L4, u2, u3, ⟨(ALe.refl _), trivial⟩, ⟨⟨rfl, .inr rfl⟩, ⟨rfl, .inl rfl⟩, ⟨rfl, .inl rfl⟩, trivial⟩, hx⟩
    · rintro τ5 Γ5 ⟨L12, u10, u11, hw5, hd5, rfl⟩
      refine RunC.wl (τ' := [(4, AV.oref 0 u10 0 L12.length)]) (Γ' := [⟨u10, some (L12.map AV.i64)⟩, ⟨1, none⟩, ⟨u11, none⟩]) hw5 hd5 ?_
      replace h : i_ReadList_k1 L12 = some (q0, q1) := h
      unfold i_ReadList_k1 at h
      refine RunC.seq ?_
      refine RunC.regionW ?_
      refine ROps.l (r := AV.oref 0 u10 0 L12.length) rfl rfl rfl (LOp.move rfl rfl) ?_
      refine ROps.l (r := AV.oref 0 u10 0 L12.length) rfl rfl rfl (LOp.assign rfl rfl) ?_
      refine ROps.l (r := AV.b true) rfl rfl rfl (LOp.assign rfl rfl) ?_
      refine ROps.nil ?_
      refine RunC.ret ?_
      have hq := Option.some.inj h
      obtain ⟨hq0, hq⟩ := Prod.mk.inj hq
      subst q0
      subst q1
      exact bodyQ.mk (r' := AV.tup [AV.oref 0 u10 0 L12.length, AV.b true]) [(0, u10)] (.inr rfl) rfl (show List.Nodup [0] from by decide) (by simp [AV.ren, AV.rens, sigma]) rfl (Res.two rfl (RV.tmp rfl) (RV.tmp rfl)) (SelL.arr0 (f := AV.i64) (fun _ => rfl) rfl trivial)
end Go.Proofs.YtofhplefkigkfaaDoor
