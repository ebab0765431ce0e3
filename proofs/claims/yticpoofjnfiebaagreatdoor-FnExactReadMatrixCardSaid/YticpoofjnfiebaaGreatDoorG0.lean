/- Generated. -/
import Derived.Test.YticpoofjnfiebaaGreatDoorTys
namespace Go.Proofs.YticpoofjnfiebaaGreatDoor
open Go Go.AM Go.AM.AV
set_option maxRecDepth 20000
set_option maxHeartbeats 4000000
set_option linter.unusedVariables false
set_option linter.unusedSimpArgs false
noncomputable def s_l01Cut_k2 (v5 : Int) (L13 : List ByteArray) (v14 : Int) : Option (LR ((List ByteArray) × Int × Int) ((List ByteArray)) ((List ByteArray))) :=
 olet (IntKind.i64.wrap (v5 + 1)) fun (x15 : Int) =>
 some (LR.next (L13, v14, x15))
noncomputable def s_l01Cut_b3 (a0 : ByteArray) (a1 : Int) (L3 : List ByteArray) (v4 : Int) (v5 : Int) : Option (LR ((List ByteArray) × Int × Int) ((List ByteArray)) ((List ByteArray))) :=
 bsel (decide (v5 ≤ (a0.size : Int))) (
  bsel (decide (v5 = (a0.size : Int))) (
   obind (subs? a0 v4 v5) fun (t7 : ByteArray) =>
   need (apok 16 L3.length 1) <|
   olet (IntKind.i64.wrap (v5 + 1)) fun (x8 : Int) =>
   s_l01Cut_k2 v5 (L3 ++ ([t7] : List ByteArray)) x8) (
   obind (sat? a0 v5) fun (e6 : Int) =>
   bsel (decide (e6 = a1)) (
    obind (subs? a0 v4 v5) fun (t9 : ByteArray) =>
    need (apok 16 L3.length 1) <|
    olet (IntKind.i64.wrap (v5 + 1)) fun (x10 : Int) =>
    s_l01Cut_k2 v5 (L3 ++ ([t9] : List ByteArray)) x10) (
    s_l01Cut_k2 v5 L3 v4))) (
  some (LR.out L3))
noncomputable def s_l01Cut_s3 (a0 : ByteArray) (a1 : Int) : ((List ByteArray) × Int × Int) → Option (LR ((List ByteArray) × Int × Int) ((List ByteArray)) ((List ByteArray))) := fun s => s_l01Cut_b3 a0 a1 s.1 s.2.1 s.2.2
noncomputable def s_l01Cut_k3 (L18 : List ByteArray) : Option ((List ByteArray)) :=
 some L18
noncomputable def s_l01Cut (a0 : ByteArray) (a1 : Int) : Option ((List ByteArray)) :=
 obind (loopM (s_l01Cut_s3 a0 a1) (([] : List ByteArray), 0, 0)) fun z => osum z (fun e => s_l01Cut_k3 e) (fun r => some r)
theorem s_l01Cut_ok (a0 : ByteArray) (a1 : Int) (q0 : List ByteArray) (h : s_l01Cut a0 a1 = some q0) : Ev Tryz.prog 25 [str a0, ik .u8 a1] [] (oref 0 0 0 q0.length) [⟨0, some (q0.map str)⟩] := by
 refine Ev.start Tryz.func25 rfl rfl 2 (τ := [(0, str a0), (1, ik .u8 a1)]) rfl (Γ' := [⟨0, none⟩, ⟨0, none⟩]) rfl (n := 73) rfl (g := 0) rfl (fun _ => rfl) ?_
 unfold s_l01Cut at h
 refine zQ ?_
 refine zA (r := nilsl) rfl rfl rfl rfl rfl ?_
 refine zN ?_
 refine zQ ?_
 refine ROps.d (r := oref 0 1 0 0) (fs := [(0, (([] : List ByteArray).map str))]) (Γ' := [⟨1, some (([] : List ByteArray).map str)⟩, ⟨0, none⟩]) rfl rfl rfl (TOp.buildSlice_o (g := ⟨0, none⟩) (za := str lit_99ba06bc) (qs := []) 0 rfl und46 siz9 zer9 rfl zel9 rfl rfl trivial rfl) rfl ?_
 refine zA (r := oref 0 1 0 0) rfl rfl rfl rfl rfl ?_
 refine zN ?_
 refine zQ ?_
 refine zA (r := i64 0) rfl rfl rfl rfl rfl ?_
 refine zN ?_
 refine RunC.seq ?_
 refine zQ ?_
 refine zA (r := i64 0) rfl rfl rfl rfl rfl ?_
 refine zN ?_
 obtain ⟨z4, hz_4, h⟩ := obind_some h
 refine RunC.cutN (fun τ Γ => ∃ (L18 : List ByteArray) (u16 : Nat) (u17 : Nat), WeakLe τ [(5, oref 0 u16 0 L18.length)] ∧ DeadLe Γ [⟨u16, some (L18.map str)⟩, ⟨u17, none⟩] ∧ z4 = .inl L18) ?_ ?_
 ·refine RunC.block (RunC.loop (RunL.loopM (x := z4) (s_l01Cut_s3 a0 a1) (fun (s : (List ByteArray) × Int × Int) τ Γ => ∃ (u1 : Nat) (u2 : Nat), WeakLe τ [(0, str a0), (1, ik .u8 a1), (5, oref 0 u1 0 s.1.length), (6, i64 s.2.1), (7, i64 s.2.2)] ∧ DeadLe Γ [⟨u1, some (s.1.map str)⟩, ⟨u2, none⟩]) ?_ _ _ _ hz_4 ⟨1, 0, ⟨aR, aR, aR, aR, aR, trivial⟩, ⟨⟨rfl, .inr rfl⟩, ⟨rfl, .inl rfl⟩, trivial⟩⟩))
  rintro ⟨L3, v4, v5⟩ τ4 Γ4 y4_ ⟨u1, u2, hw4, hd4⟩ h4_ ho4 hr4
  refine RunC.wl (τ' := [(0, str a0), (1, ik .u8 a1), (5, oref 0 u1 0 L3.length), (6, i64 v4), (7, i64 v5)]) (Γ' := [⟨u1, some (L3.map str)⟩, ⟨u2, none⟩]) hw4 hd4 ?_
  replace h4_ : s_l01Cut_b3 a0 a1 L3 v4 v5 = some y4_ := h4_
  unfold s_l01Cut_b3 at h4_
  refine RunC.seq ?_
  refine RunC.seq ?_
  rcases bsel_some h4_ with ⟨hc1, h4_⟩ | ⟨hc1, h4_⟩
  ·refine RunC.regionW ?_
   refine zM (r := i64 v5) rfl rfl rfl rfl rfl ?_
   refine zM (r := str a0) rfl rfl rfl rfl rfl ?_
   refine zL (r := i64 (a0.size : Int)) rfl rfl rfl (LOp.len_str und9 rfl rfl) ?_
   refine zL (r := b true) rfl rfl rfl (LOp.eqb (LOp.leq rfl rfl rfl) hc1) ?_
   refine zN ?_
   refine RunC.cond_true rfl rfl ?_
   refine RunC.skip ?_
   refine RunC.seq ?_
   refine RunC.cutN (fun τ Γ => ∃ (L13 : List ByteArray) (v14 : Int) (u11 : Nat) (u12 : Nat), WeakLe τ [(0, str a0), (1, ik .u8 a1), (5, oref 0 u11 0 L13.length), (6, i64 v14), (7, i64 v5)] ∧ DeadLe Γ [⟨u11, some (L13.map str)⟩, ⟨u12, none⟩] ∧ s_l01Cut_k2 v5 L13 v14 = some y4_) ?_ ?_
   ·refine RunC.block ?_
    refine RunC.seq ?_
    rcases bsel_some h4_ with ⟨hc2, h4_⟩ | ⟨hc2, h4_⟩
    ·refine RunC.regionW ?_
     refine zM (r := i64 v5) rfl rfl rfl rfl rfl ?_
     refine zM (r := str a0) rfl rfl rfl rfl rfl ?_
     refine zL (r := i64 (a0.size : Int)) rfl rfl rfl (LOp.len_str und9 rfl rfl) ?_
     refine zL (r := b true) rfl rfl rfl (LOp.eqb (LOp.eql rfl rfl rfl) hc2) ?_
     refine zM (r := b true) rfl rfl rfl rfl rfl ?_
     refine ROps.s rfl rfl rfl ?_
     refine ROps.s rfl rfl rfl ?_
     refine ROps.s rfl rfl rfl ?_
     refine ROps.s rfl rfl rfl ?_
     refine ROps.s rfl rfl rfl ?_
     refine zL (r := b true) rfl rfl rfl (LOp.pick_true rfl rfl rfl) ?_
     refine zN ?_
     refine RunC.cond_true rfl rfl ?_
     refine RunC.seq ?_
     obtain ⟨t7, hs5, h4_⟩ := obind_some h4_
     obtain ⟨hm6, h4_⟩ := need_some h4_
     refine RunC.regionW ?_
     refine zM (r := oref 0 u1 0 L3.length) rfl rfl rfl rfl rfl ?_
     refine zM (r := str a0) rfl rfl rfl rfl rfl ?_
     refine zM (r := i64 v4) rfl rfl rfl rfl rfl ?_
     refine zM (r := i64 v5) rfl rfl rfl rfl rfl ?_
     refine zL (r := str t7) rfl rfl rfl (LOp.subs und9 rfl rfl rfl rfl hs5) ?_
     refine ROps.d (r := oref 1 (u2 + 1) 0 1) (fs := [(1, (([t7] : List ByteArray).map str))]) (Γ' := [⟨u1, some (L3.map str)⟩, ⟨(u2 + 1), some (([t7] : List ByteArray).map str)⟩]) rfl rfl rfl (TOp.buildSlice_o (g := ⟨u2, none⟩) (za := str lit_99ba06bc) (qs := [(0, [str t7])]) 1 rfl und46 siz9 zer9 rfl zel9 rfl rfl ⟨rfl, ⟨_, ALe.refl _, rfl⟩, trivial⟩ rfl) rfl ?_
     refine ROps.app (f := str) (xs := L3) (ys := ([t7] : List ByteArray)) (Γ' := [⟨(u1 + 1), some ((L3 ++ ([t7] : List ByteArray)).map str)⟩, ⟨(u2 + 1), some (([t7] : List ByteArray).map str)⟩]) rfl pun46 inf9 rfl rfl rfl rfl rfl rfl rfl rfl rfl (by simp) (ReadAs.own rfl (by simp)) (ones_map (fun _ => rfl)) (ap_by hm6) (ap_mx hm6) rfl ?_
     refine zA (r := oref 0 (u1 + 1) 0 (L3.length + 1)) rfl rfl rfl rfl rfl ?_
     refine zN ?_
     refine RunC.wl (τ' := [(0, str a0), (1, ik .u8 a1), (5, oref 0 (u1 + 1) 0 (L3.length + 1)), (7, i64 v5)]) (Γ' := [⟨(u1 + 1), some ((L3 ++ ([t7] : List ByteArray)).map str)⟩, ⟨(u2 + 1), none⟩]) ⟨aR, aR, aR, aR, trivial⟩ ⟨⟨rfl, .inr rfl⟩, ⟨rfl, .inl rfl⟩, trivial⟩ ?_
     obtain ⟨x8, hx7, h4_⟩ := olet_some h4_
     refine RunC.regionW ?_
     refine zM (r := i64 v5) rfl rfl rfl rfl rfl ?_
     refine zL (r := i64 x8) rfl rfl rfl (LOp.eqr (LOp.add rfl rfl rfl) (congrArg (ik .i64) hx7)) ?_
     refine zA (r := i64 x8) rfl rfl rfl rfl rfl ?_
     refine zN ?_
     exact ⟨(L3 ++ ([t7] : List ByteArray)), x8, (u1 + 1), (u2 + 1), ⟨aR, aR, (ALe.eq (by rw [(app_len rfl rfl)] <;> rfl)), aR, aR, trivial⟩, ⟨⟨rfl, .inr rfl⟩, ⟨rfl, .inl rfl⟩, trivial⟩, h4_⟩
    ·obtain ⟨e6, he3, h4_⟩ := obind_some h4_
     rcases bsel_some h4_ with ⟨hc4, h4_⟩ | ⟨hc4, h4_⟩
     ·refine RunC.regionW ?_
      refine zM (r := i64 v5) rfl rfl rfl rfl rfl ?_
      refine zM (r := str a0) rfl rfl rfl rfl rfl ?_
      refine zL (r := i64 (a0.size : Int)) rfl rfl rfl (LOp.len_str und9 rfl rfl) ?_
      refine zL (r := b false) rfl rfl rfl (LOp.eqb (LOp.eql rfl rfl rfl) hc2) ?_
      refine zM (r := b false) rfl rfl rfl rfl rfl ?_
      refine zM (r := str a0) rfl rfl rfl rfl rfl ?_
      refine zM (r := i64 v5) rfl rfl rfl rfl rfl ?_
      refine zL (r := ik .u8 e6) rfl rfl rfl (LOp.index_str und9 rfl rfl rfl he3) ?_
      refine zM (r := ik .u8 a1) rfl rfl rfl rfl rfl ?_
      refine zL (r := b true) rfl rfl rfl (LOp.eqb (LOp.eql rfl rfl rfl) hc4) ?_
      refine zL (r := b true) rfl rfl rfl (LOp.pick_false rfl rfl rfl) ?_
      refine zN ?_
      refine RunC.cond_true rfl rfl ?_
      refine RunC.seq ?_
      obtain ⟨t9, hs8, h4_⟩ := obind_some h4_
      obtain ⟨hm9, h4_⟩ := need_some h4_
      refine RunC.regionW ?_
      refine zM (r := oref 0 u1 0 L3.length) rfl rfl rfl rfl rfl ?_
      refine zM (r := str a0) rfl rfl rfl rfl rfl ?_
      refine zM (r := i64 v4) rfl rfl rfl rfl rfl ?_
      refine zM (r := i64 v5) rfl rfl rfl rfl rfl ?_
      refine zL (r := str t9) rfl rfl rfl (LOp.subs und9 rfl rfl rfl rfl hs8) ?_
      refine ROps.d (r := oref 1 (u2 + 1) 0 1) (fs := [(1, (([t9] : List ByteArray).map str))]) (Γ' := [⟨u1, some (L3.map str)⟩, ⟨(u2 + 1), some (([t9] : List ByteArray).map str)⟩]) rfl rfl rfl (TOp.buildSlice_o (g := ⟨u2, none⟩) (za := str lit_99ba06bc) (qs := [(0, [str t9])]) 1 rfl und46 siz9 zer9 rfl zel9 rfl rfl ⟨rfl, ⟨_, ALe.refl _, rfl⟩, trivial⟩ rfl) rfl ?_
      refine ROps.app (f := str) (xs := L3) (ys := ([t9] : List ByteArray)) (Γ' := [⟨(u1 + 1), some ((L3 ++ ([t9] : List ByteArray)).map str)⟩, ⟨(u2 + 1), some (([t9] : List ByteArray).map str)⟩]) rfl pun46 inf9 rfl rfl rfl rfl rfl rfl rfl rfl rfl (by simp) (ReadAs.own rfl (by simp)) (ones_map (fun _ => rfl)) (ap_by hm9) (ap_mx hm9) rfl ?_
      refine zA (r := oref 0 (u1 + 1) 0 (L3.length + 1)) rfl rfl rfl rfl rfl ?_
      refine zN ?_
      refine RunC.wl (τ' := [(0, str a0), (1, ik .u8 a1), (5, oref 0 (u1 + 1) 0 (L3.length + 1)), (7, i64 v5), (20, str a0), (21, i64 v5), (22, ik .u8 e6), (23, ik .u8 a1), (24, b true)]) (Γ' := [⟨(u1 + 1), some ((L3 ++ ([t9] : List ByteArray)).map str)⟩, ⟨(u2 + 1), none⟩]) ⟨aR, aR, aR, aR, aR, aR, aR, aR, aR, trivial⟩ ⟨⟨rfl, .inr rfl⟩, ⟨rfl, .inl rfl⟩, trivial⟩ ?_
      obtain ⟨x10, hx10, h4_⟩ := olet_some h4_
      refine RunC.regionW ?_
      refine zM (r := i64 v5) rfl rfl rfl rfl rfl ?_
      refine zL (r := i64 x10) rfl rfl rfl (LOp.eqr (LOp.add rfl rfl rfl) (congrArg (ik .i64) hx10)) ?_
      refine zA (r := i64 x10) rfl rfl rfl rfl rfl ?_
      refine zN ?_
      exact ⟨(L3 ++ ([t9] : List ByteArray)), x10, (u1 + 1), (u2 + 1), ⟨aR, aR, (ALe.eq (by rw [(app_len rfl rfl)] <;> rfl)), aR, aR, trivial⟩, ⟨⟨rfl, .inr rfl⟩, ⟨rfl, .inl rfl⟩, trivial⟩, h4_⟩
     ·refine RunC.regionW ?_
      refine zM (r := i64 v5) rfl rfl rfl rfl rfl ?_
      refine zM (r := str a0) rfl rfl rfl rfl rfl ?_
      refine zL (r := i64 (a0.size : Int)) rfl rfl rfl (LOp.len_str und9 rfl rfl) ?_
      refine zL (r := b false) rfl rfl rfl (LOp.eqb (LOp.eql rfl rfl rfl) hc2) ?_
      refine zM (r := b false) rfl rfl rfl rfl rfl ?_
      refine zM (r := str a0) rfl rfl rfl rfl rfl ?_
      refine zM (r := i64 v5) rfl rfl rfl rfl rfl ?_
      refine zL (r := ik .u8 e6) rfl rfl rfl (LOp.index_str und9 rfl rfl rfl he3) ?_
      refine zM (r := ik .u8 a1) rfl rfl rfl rfl rfl ?_
      refine zL (r := b false) rfl rfl rfl (LOp.eqb (LOp.eql rfl rfl rfl) hc4) ?_
      refine zL (r := b false) rfl rfl rfl (LOp.pick_false rfl rfl rfl) ?_
      refine zN ?_
      refine RunC.cond_false rfl rfl ?_
      refine RunC.skip ?_
      exact ⟨L3, v4, u1, u2, ⟨aR, aR, aR, aR, aR, trivial⟩, ⟨⟨rfl, .inr rfl⟩, ⟨rfl, .inl rfl⟩, trivial⟩, h4_⟩
   ·rintro τ5 Γ5 ⟨L13, v14, u11, u12, hw5, hd5, h4_⟩
    refine RunC.wl hw5 hd5 ?_
    unfold s_l01Cut_k2 at h4_
    obtain ⟨x15, hx11, h4_⟩ := olet_some h4_
    refine RunC.regionW ?_
    refine zM (r := i64 v5) rfl rfl rfl rfl rfl ?_
    refine zL (r := i64 x15) rfl rfl rfl (LOp.eqr (LOp.add rfl rfl rfl) (congrArg (ik .i64) hx11)) ?_
    refine zA (r := i64 x15) rfl rfl rfl rfl rfl ?_
    refine zN ?_
    cases Option.some.inj h4_
    exact ⟨_, rfl, u11, u12, ⟨aR, aR, aR, aR, aR, trivial⟩, ⟨⟨rfl, .inr rfl⟩, ⟨rfl, .inl rfl⟩, trivial⟩⟩
  ·refine RunC.regionW ?_
   refine zM (r := i64 v5) rfl rfl rfl rfl rfl ?_
   refine zM (r := str a0) rfl rfl rfl rfl rfl ?_
   refine zL (r := i64 (a0.size : Int)) rfl rfl rfl (LOp.len_str und9 rfl rfl) ?_
   refine zL (r := b false) rfl rfl rfl (LOp.eqb (LOp.leq rfl rfl rfl) hc1) ?_
   refine zN ?_
   refine RunC.cond_false rfl rfl ?_
   refine RunC.exit ?_
   cases Option.some.inj h4_
   have hx := ho4 _ rfl
   exact ⟨L3, u1, u2, ⟨aR, trivial⟩, ⟨⟨rfl, .inr rfl⟩, ⟨rfl, .inl rfl⟩, trivial⟩, hx⟩
 ·rintro τ6 Γ6 ⟨L18, u16, u17, hw6, hd6, rfl⟩
  refine RunC.wl hw6 hd6 ?_
  replace h : s_l01Cut_k3 L18 = some q0 := h
  unfold s_l01Cut_k3 at h
  refine zQ ?_
  refine zM (r := oref 0 u16 0 L18.length) rfl rfl rfl rfl rfl ?_
  refine zA (r := oref 0 u16 0 L18.length) rfl rfl rfl rfl rfl ?_
  refine zN ?_
  refine RunC.ret ?_
  have hq := Option.some.inj h
  subst q0
  exact bodyQ.mk (r' := oref 0 u16 0 L18.length) [(0, u16)] (.inr rfl) rfl (show List.Nodup [0] from by decide) (by simp [ren, rens, sigma]) rfl (Res.one rfl (RV.tmp rfl)) (SelL.arr0 (f := str) (fun _ => rfl) rfl trivial)
noncomputable def s_l00In (a0 : Int) (a1 : Int) (a2 : Int) : Option (Bool) :=
 bsel (decide (a1 ≤ a0)) (
  some (decide (a0 ≤ a2))) (
  some false)
theorem s_l00In_ok (a0 : Int) (a1 : Int) (a2 : Int) (q0 : Bool) (h : s_l00In a0 a1 a2 = some q0) : Ev Tryz.prog 94 [i64 a0, i64 a1, i64 a2] [] (b q0) [] := by
 refine Ev.start Tryz.func94 rfl rfl 0 (τ := [(0, i64 a0), (1, i64 a1), (2, i64 a2)]) rfl (Γ' := []) rfl (n := 31) rfl (g := 0) rfl (fun _ => rfl) ?_
 unfold s_l00In at h
 refine zQ ?_
 refine zA (r := b false) rfl rfl rfl rfl rfl ?_
 refine zN ?_
 refine RunC.seq ?_
 rcases bsel_some h with ⟨hc1, h⟩ | ⟨hc1, h⟩
 ·refine RunC.regionW ?_
  refine zM (r := i64 a0) rfl rfl rfl rfl rfl ?_
  refine zM (r := i64 a1) rfl rfl rfl rfl rfl ?_
  refine zL (r := b true) rfl rfl rfl (LOp.eqb (LOp.geq rfl rfl rfl) hc1) ?_
  refine zM (r := b true) rfl rfl rfl rfl rfl ?_
  refine zM (r := i64 a0) rfl rfl rfl rfl rfl ?_
  refine zM (r := i64 a2) rfl rfl rfl rfl rfl ?_
  refine zL (r := b (decide (a0 ≤ a2))) rfl rfl rfl (LOp.leq rfl rfl rfl) ?_
  refine zL (r := b (decide (a0 ≤ a2))) rfl rfl rfl (LOp.pick_true rfl rfl rfl) ?_
  refine zA (r := b (decide (a0 ≤ a2))) rfl rfl rfl rfl rfl ?_
  refine zN ?_
  refine RunC.ret ?_
  have hq := Option.some.inj h
  subst q0
  exact bodyQ.pure (.inr rfl) rfl (Res.one rfl (RV.tmp rfl))
 ·refine RunC.regionW ?_
  refine zM (r := i64 a0) rfl rfl rfl rfl rfl ?_
  refine zM (r := i64 a1) rfl rfl rfl rfl rfl ?_
  refine zL (r := b false) rfl rfl rfl (LOp.eqb (LOp.geq rfl rfl rfl) hc1) ?_
  refine zM (r := b false) rfl rfl rfl rfl rfl ?_
  refine ROps.s rfl rfl rfl ?_
  refine ROps.s rfl rfl rfl ?_
  refine ROps.s rfl rfl rfl ?_
  refine zL (r := b false) rfl rfl rfl (LOp.pick_false rfl rfl rfl) ?_
  refine zA (r := b false) rfl rfl rfl rfl rfl ?_
  refine zN ?_
  refine RunC.ret ?_
  have hq := Option.some.inj h
  subst q0
  exact bodyQ.pure (.inr rfl) rfl (Res.one rfl (RV.tmp rfl))
noncomputable def s_l01Dec_k6 (l3 : List Int) (v4 : Int) (v7 : Int) : Option (LR ((List Int) × Int) ((List Int)) (ByteArray)) :=
 olet (IntKind.i64.wrap (48 + v7)) fun (x8 : Int) =>
 olet (IntKind.u8.wrap x8) fun (x9 : Int) =>
 need (apok 1 1 l3.length) <|
 need (!decide (10 = 0)) <|
 olet (IntKind.i64.wrap (v4.tdiv 10)) fun (x10 : Int) =>
 some (LR.next ((([x9] : List Int) ++ l3), x10))
noncomputable def s_l01Dec_k5 (l3 : List Int) (v4 : Int) : Option (LR ((List Int) × Int) ((List Int)) (ByteArray)) :=
 need (!decide (10 = 0)) <|
 olet (v4.tmod 10) fun (x5 : Int) =>
 bsel (decide (x5 < 0)) (
  olet (IntKind.i64.wrap (0 - x5)) fun (x6 : Int) =>
  s_l01Dec_k6 l3 v4 x6) (
  s_l01Dec_k6 l3 v4 x5)
noncomputable def s_l01Dec_b7 (l3 : List Int) (v4 : Int) : Option (LR ((List Int) × Int) ((List Int)) (ByteArray)) :=
 bsel (decide ((l3.length : Int) = 0)) (
  s_l01Dec_k5 l3 v4) (
  bsel (!decide (v4 = 0)) (
   s_l01Dec_k5 l3 v4) (
   some (LR.out l3)))
noncomputable def s_l01Dec_s7  : ((List Int) × Int) → Option (LR ((List Int) × Int) ((List Int)) (ByteArray)) := fun s => s_l01Dec_b7 s.1 s.2
noncomputable def s_l01Dec_k8 (l15 : List Int) : Option (ByteArray) :=
 some (strOfNums l15)
noncomputable def s_l01Dec_k7 (a0 : Int) (l13 : List Int) : Option (ByteArray) :=
 bsel (decide (a0 < 0)) (
  need (apok 1 1 l13.length) <|
  s_l01Dec_k8 (([45] : List Int) ++ l13)) (
  s_l01Dec_k8 l13)
noncomputable def s_l01Dec (a0 : Int) : Option (ByteArray) :=
 obind (loopM (s_l01Dec_s7) (([] : List Int), a0)) fun z => osum z (fun e => s_l01Dec_k7 a0 e) (fun r => some r)
theorem s_l01Dec_ok (a0 : Int) (q0 : ByteArray) (h : s_l01Dec a0 = some q0) : Ev Tryz.prog 95 [i64 a0] [] (str q0) [] := by
 refine Ev.start Tryz.func95 rfl rfl 2 (τ := [(0, i64 a0)]) rfl (Γ' := [⟨0, none⟩, ⟨0, none⟩]) rfl (n := 73) rfl (g := 0) rfl (fun _ => rfl) ?_
 unfold s_l01Dec at h
 refine zQ ?_
 refine zA (r := str lit_99ba06bc) rfl rfl rfl rfl rfl ?_
 refine zN ?_
 refine zQ ?_
 refine ROps.d (r := oref 0 1 0 0) (fs := [(0, (([] : List Int).map (ik .u8)))]) (Γ' := [⟨1, some (([] : List Int).map (ik .u8))⟩, ⟨0, none⟩]) rfl rfl rfl (TOp.buildSlice_o (g := ⟨0, none⟩) (za := ik .u8 0) (qs := []) 0 rfl und105 siz5 zer5 rfl zel5 rfl rfl trivial rfl) rfl ?_
 refine zA (r := oref 0 1 0 0) rfl rfl rfl rfl rfl ?_
 refine zN ?_
 refine zQ ?_
 refine zM (r := i64 a0) rfl rfl rfl rfl rfl ?_
 refine zA (r := i64 a0) rfl rfl rfl rfl rfl ?_
 refine zN ?_
 refine RunC.seq ?_
 obtain ⟨z9, hz_9, h⟩ := obind_some h
 refine RunC.cutN (fun τ Γ => ∃ (l13 : List Int) (u11 : Nat) (u12 : Nat), Le 73 τ Γ [(0, i64 a0), (3, sl l13.length (l13.map (ik .u8)))] [⟨u11, none⟩, ⟨u12, none⟩] ∧ z9 = .inl l13) ?_ ?_
 ·refine RunC.block (RunC.loop (RunL.loopM (x := z9) (s_l01Dec_s7) (fun (s : (List Int) × Int) τ Γ => ∃ (u1 : Nat) (u2 : Nat), Le 73 τ Γ [(0, i64 a0), (3, sl s.1.length (s.1.map (ik .u8))), (4, i64 s.2)] [⟨u1, none⟩, ⟨u2, none⟩]) ?_ _ _ _ hz_9 ⟨1, 0, (Le.trans (Le.settle 0 [(0, i64 a0), (3, sl ([] : List Int).length (([] : List Int).map (ik .u8))), (4, i64 a0)] rfl rfl rfl ⟨.inl rfl, .inr (Bor.own (f := (ik .u8)) (fun _ => rfl) rfl rfl), .inl rfl, trivial⟩) (Le.of ⟨aR, aR, aR, trivial⟩ ⟨⟨rfl, .inl rfl⟩, ⟨rfl, .inl rfl⟩, trivial⟩))⟩))
  rintro ⟨l3, v4⟩ τ9 Γ9 y9_ ⟨u1, u2, hw9⟩ h9_ ho9 hr9
  refine RunC.le (τ' := [(0, i64 a0), (3, sl l3.length (l3.map (ik .u8))), (4, i64 v4)]) (Γ' := [⟨u1, none⟩, ⟨u2, none⟩]) hw9 ?_
  replace h9_ : s_l01Dec_b7 l3 v4 = some y9_ := h9_
  unfold s_l01Dec_b7 at h9_
  refine RunC.seq ?_
  refine RunC.cutN (fun τ Γ =>  Le 73 τ Γ [(0, i64 a0), (3, sl l3.length (l3.map (ik .u8))), (4, i64 v4)] [⟨u1, none⟩, ⟨u2, none⟩] ∧ s_l01Dec_k5 l3 v4 = some y9_) ?_ ?_
  ·refine RunC.seq ?_
   rcases bsel_some h9_ with ⟨hc1, h9_⟩ | ⟨hc1, h9_⟩
   ·refine RunC.regionW ?_
    refine zM (r := sl l3.length (l3.map (ik .u8))) rfl rfl rfl rfl rfl ?_
    refine zL (r := i64 (l3.length : Int)) rfl rfl rfl (LOp.len_sl und105 rfl rfl) ?_
    refine zL (r := b true) rfl rfl rfl (LOp.eqb (LOp.eql rfl rfl rfl) hc1) ?_
    refine zM (r := b true) rfl rfl rfl rfl rfl ?_
    refine ROps.s rfl rfl rfl ?_
    refine ROps.s rfl rfl rfl ?_
    refine zL (r := b true) rfl rfl rfl (LOp.pick_true rfl rfl rfl) ?_
    refine zN ?_
    refine RunC.cond_true rfl rfl ?_
    refine RunC.skip ?_
    exact ⟨(Le.of ⟨aR, aR, aR, trivial⟩ ⟨⟨rfl, .inl rfl⟩, ⟨rfl, .inl rfl⟩, trivial⟩), h9_⟩
   ·rcases bsel_some h9_ with ⟨hc2, h9_⟩ | ⟨hc2, h9_⟩
    ·refine RunC.regionW ?_
     refine zM (r := sl l3.length (l3.map (ik .u8))) rfl rfl rfl rfl rfl ?_
     refine zL (r := i64 (l3.length : Int)) rfl rfl rfl (LOp.len_sl und105 rfl rfl) ?_
     refine zL (r := b false) rfl rfl rfl (LOp.eqb (LOp.eql rfl rfl rfl) hc1) ?_
     refine zM (r := b false) rfl rfl rfl rfl rfl ?_
     refine zM (r := i64 v4) rfl rfl rfl rfl rfl ?_
     refine zL (r := b true) rfl rfl rfl (LOp.eqb (LOp.neq rfl rfl rfl) hc2) ?_
     refine zL (r := b true) rfl rfl rfl (LOp.pick_false rfl rfl rfl) ?_
     refine zN ?_
     refine RunC.cond_true rfl rfl ?_
     refine RunC.skip ?_
     exact ⟨(Le.of ⟨aR, aR, aR, trivial⟩ ⟨⟨rfl, .inl rfl⟩, ⟨rfl, .inl rfl⟩, trivial⟩), h9_⟩
    ·refine RunC.regionW ?_
     refine zM (r := sl l3.length (l3.map (ik .u8))) rfl rfl rfl rfl rfl ?_
     refine zL (r := i64 (l3.length : Int)) rfl rfl rfl (LOp.len_sl und105 rfl rfl) ?_
     refine zL (r := b false) rfl rfl rfl (LOp.eqb (LOp.eql rfl rfl rfl) hc1) ?_
     refine zM (r := b false) rfl rfl rfl rfl rfl ?_
     refine zM (r := i64 v4) rfl rfl rfl rfl rfl ?_
     refine zL (r := b false) rfl rfl rfl (LOp.eqb (LOp.neq rfl rfl rfl) hc2) ?_
     refine zL (r := b false) rfl rfl rfl (LOp.pick_false rfl rfl rfl) ?_
     refine zN ?_
     refine RunC.cond_false rfl rfl ?_
     refine RunC.exit ?_
     cases Option.some.inj h9_
     have hx := ho9 _ rfl
     exact ⟨l3, u1, u2, (Le.of ⟨aR, aR, trivial⟩ ⟨⟨rfl, .inl rfl⟩, ⟨rfl, .inl rfl⟩, trivial⟩), hx⟩
  ·rintro τ10 Γ10 ⟨hw10, h9_⟩
   refine RunC.le hw10 ?_
   unfold s_l01Dec_k5 at h9_
   refine RunC.block ?_
   refine RunC.seq ?_
   obtain ⟨hz3, h9_⟩ := need_some h9_
   obtain ⟨x5, hx4, h9_⟩ := olet_some h9_
   refine RunC.regionW ?_
   refine zM (r := i64 v4) rfl rfl rfl rfl rfl ?_
   refine zL (r := i64 x5) rfl rfl rfl (LOp.eqr (LOp.rem rfl rfl rfl (nz hz3)) (congrArg (ik .i64) hx4)) ?_
   refine zA (r := i64 x5) rfl rfl rfl rfl rfl ?_
   refine zN ?_
   refine RunC.seq ?_
   refine RunC.cutN (fun τ Γ => ∃ (v7 : Int), Le 73 τ Γ [(0, i64 a0), (3, sl l3.length (l3.map (ik .u8))), (4, i64 v4), (5, i64 v7)] [⟨u1, none⟩, ⟨u2, none⟩] ∧ s_l01Dec_k6 l3 v4 v7 = some y9_) ?_ ?_
   ·refine RunC.seq ?_
    rcases bsel_some h9_ with ⟨hc5, h9_⟩ | ⟨hc5, h9_⟩
    ·refine RunC.regionW ?_
     refine zM (r := i64 x5) rfl rfl rfl rfl rfl ?_
     refine zL (r := b true) rfl rfl rfl (LOp.eqb (LOp.lss rfl rfl rfl) hc5) ?_
     refine zN ?_
     refine RunC.cond_true rfl rfl ?_
     obtain ⟨x6, hx6, h9_⟩ := olet_some h9_
     refine RunC.regionW ?_
     refine zM (r := i64 x5) rfl rfl rfl rfl rfl ?_
     refine zL (r := i64 x6) rfl rfl rfl (LOp.eqr (LOp.neg_int rfl rfl) (congrArg (ik .i64) hx6)) ?_
     refine zA (r := i64 x6) rfl rfl rfl rfl rfl ?_
     refine zN ?_
     exact ⟨x6, (Le.of ⟨aR, aR, aR, aR, trivial⟩ ⟨⟨rfl, .inl rfl⟩, ⟨rfl, .inl rfl⟩, trivial⟩), h9_⟩
    ·refine RunC.regionW ?_
     refine zM (r := i64 x5) rfl rfl rfl rfl rfl ?_
     refine zL (r := b false) rfl rfl rfl (LOp.eqb (LOp.lss rfl rfl rfl) hc5) ?_
     refine zN ?_
     refine RunC.cond_false rfl rfl ?_
     refine RunC.skip ?_
     exact ⟨x5, (Le.of ⟨aR, aR, aR, aR, trivial⟩ ⟨⟨rfl, .inl rfl⟩, ⟨rfl, .inl rfl⟩, trivial⟩), h9_⟩
   ·rintro τ11 Γ11 ⟨v7, hw11, h9_⟩
    refine RunC.le hw11 ?_
    unfold s_l01Dec_k6 at h9_
    refine RunC.seq ?_
    obtain ⟨x8, hx7, h9_⟩ := olet_some h9_
    obtain ⟨x9, hx8, h9_⟩ := olet_some h9_
    obtain ⟨hm9, h9_⟩ := need_some h9_
    refine RunC.regionW ?_
    refine zM (r := i64 v7) rfl rfl rfl rfl rfl ?_
    refine zL (r := i64 x8) rfl rfl rfl (LOp.eqr (LOp.add rfl rfl rfl) (congrArg (ik .i64) hx7)) ?_
    refine zL (r := ik .u8 x9) rfl rfl rfl (LOp.eqr (LOp.i2i (src := 2) (dst := 5) ⟨_, pun2⟩ pun5 rfl rfl) (congrArg (ik .u8) hx8)) ?_
    refine ROps.d (r := oref 0 (u1 + 1) 0 1) (fs := [(0, (([x9] : List Int).map (ik .u8)))]) (Γ' := [⟨(u1 + 1), some (([x9] : List Int).map (ik .u8))⟩, ⟨u2, none⟩]) rfl rfl rfl (TOp.buildSlice_o (g := ⟨u1, none⟩) (za := ik .u8 0) (qs := [(0, [ik .u8 x9])]) 0 rfl und105 siz5 zer5 rfl zel5 rfl rfl ⟨rfl, ⟨_, ALe.refl _, rfl⟩, trivial⟩ rfl) rfl ?_
    refine zM (r := sl l3.length (l3.map (ik .u8))) rfl rfl rfl rfl rfl ?_
    refine ROps.app (f := (ik .u8)) (xs := ([x9] : List Int)) (ys := l3) (Γ' := [⟨(u1 + 2), some ((([x9] : List Int) ++ l3).map (ik .u8))⟩, ⟨u2, none⟩]) rfl pun105 inf5 rfl rfl rfl rfl rfl rfl rfl rfl rfl (by simp) (ReadAs.sl (by simp)) (ones_map (fun _ => rfl)) (ap_by hm9) (ap_mx hm9) rfl ?_
    refine zA (r := oref 0 (u1 + 2) 0 (1 + l3.length)) rfl rfl rfl rfl rfl ?_
    refine zN ?_
    obtain ⟨hz10, h9_⟩ := need_some h9_
    obtain ⟨x10, hx11, h9_⟩ := olet_some h9_
    refine RunC.regionW ?_
    refine zM (r := i64 v4) rfl rfl rfl rfl rfl ?_
    refine zL (r := i64 x10) rfl rfl rfl (LOp.eqr (LOp.quo rfl rfl rfl (nz hz10)) (congrArg (ik .i64) hx11)) ?_
    refine zA (r := i64 x10) rfl rfl rfl rfl rfl ?_
    refine zN ?_
    cases Option.some.inj h9_
    exact ⟨_, rfl, (u1 + 2), u2, (Le.trans (Le.settle 0 [(0, i64 a0), (3, sl (([x9] : List Int) ++ l3).length ((([x9] : List Int) ++ l3).map (ik .u8))), (4, i64 x10)] rfl rfl rfl ⟨.inl rfl, .inr (Bor.own (f := (ik .u8)) (fun _ => rfl) rfl (show (([x9] : List Int) ++ l3).length = (1 + l3.length) from (app_len rfl rfl))), .inl rfl, trivial⟩) (Le.of ⟨aR, aR, aR, trivial⟩ ⟨⟨rfl, .inl rfl⟩, ⟨rfl, .inl rfl⟩, trivial⟩))⟩
 ·rintro τ12 Γ12 ⟨l13, u11, u12, hw12, rfl⟩
  refine RunC.le hw12 ?_
  replace h : s_l01Dec_k7 a0 l13 = some q0 := h
  unfold s_l01Dec_k7 at h
  refine RunC.seq ?_
  refine RunC.cutN (fun τ Γ => ∃ (l15 : List Int) (u14 : Nat), Le 73 τ Γ [(3, sl l15.length (l15.map (ik .u8)))] [⟨u14, none⟩, ⟨u12, none⟩] ∧ s_l01Dec_k8 l15 = some q0) ?_ ?_
  ·refine RunC.seq ?_
   rcases bsel_some h with ⟨hc12, h⟩ | ⟨hc12, h⟩
   ·refine RunC.regionW ?_
    refine zM (r := i64 a0) rfl rfl rfl rfl rfl ?_
    refine zL (r := b true) rfl rfl rfl (LOp.eqb (LOp.lss rfl rfl rfl) hc12) ?_
    refine zN ?_
    refine RunC.cond_true rfl rfl ?_
    obtain ⟨hm13, h⟩ := need_some h
    refine RunC.regionW ?_
    refine ROps.d (r := oref 0 (u11 + 1) 0 1) (fs := [(0, (([45] : List Int).map (ik .u8)))]) (Γ' := [⟨(u11 + 1), some (([45] : List Int).map (ik .u8))⟩, ⟨u12, none⟩]) rfl rfl rfl (TOp.buildSlice_o (g := ⟨u11, none⟩) (za := ik .u8 0) (qs := [(0, [ik .u8 45])]) 0 rfl und105 siz5 zer5 rfl zel5 rfl rfl ⟨rfl, ⟨_, ALe.refl _, rfl⟩, trivial⟩ rfl) rfl ?_
    refine zM (r := sl l13.length (l13.map (ik .u8))) rfl rfl rfl rfl rfl ?_
    refine ROps.app (f := (ik .u8)) (xs := ([45] : List Int)) (ys := l13) (Γ' := [⟨(u11 + 2), some ((([45] : List Int) ++ l13).map (ik .u8))⟩, ⟨u12, none⟩]) rfl pun105 inf5 rfl rfl rfl rfl rfl rfl rfl rfl rfl (by simp) (ReadAs.sl (by simp)) (ones_map (fun _ => rfl)) (ap_by hm13) (ap_mx hm13) rfl ?_
    refine zA (r := oref 0 (u11 + 2) 0 (1 + l13.length)) rfl rfl rfl rfl rfl ?_
    refine zN ?_
    exact ⟨(([45] : List Int) ++ l13), (u11 + 2), (Le.trans (Le.settle 0 [(3, sl (([45] : List Int) ++ l13).length ((([45] : List Int) ++ l13).map (ik .u8)))] rfl rfl rfl ⟨.inr (Bor.own (f := (ik .u8)) (fun _ => rfl) rfl (show (([45] : List Int) ++ l13).length = (1 + l13.length) from (app_len rfl rfl))), trivial⟩) (Le.of ⟨aR, trivial⟩ ⟨⟨rfl, .inl rfl⟩, ⟨rfl, .inl rfl⟩, trivial⟩)), h⟩
   ·refine RunC.regionW ?_
    refine zM (r := i64 a0) rfl rfl rfl rfl rfl ?_
    refine zL (r := b false) rfl rfl rfl (LOp.eqb (LOp.lss rfl rfl rfl) hc12) ?_
    refine zN ?_
    refine RunC.cond_false rfl rfl ?_
    refine RunC.skip ?_
    exact ⟨l13, u11, (Le.of ⟨aR, trivial⟩ ⟨⟨rfl, .inl rfl⟩, ⟨rfl, .inl rfl⟩, trivial⟩), h⟩
  ·rintro τ13 Γ13 ⟨l15, u14, hw13, h⟩
   refine RunC.le hw13 ?_
   unfold s_l01Dec_k8 at h
   refine zQ ?_
   refine zM (r := sl l15.length (l15.map (ik .u8))) rfl rfl rfl rfl rfl ?_
   refine ROps.d (r := str (strOfNums l15)) (fs := []) (Γ' := [⟨u14, none⟩, ⟨u12, none⟩]) rfl rfl rfl (TOp.b2s (xs := l15) pun105 pun5 pun9 rfl (fun _ _ => ReadAs.sl (by simp))) rfl ?_
   refine zA (r := str (strOfNums l15)) rfl rfl rfl rfl rfl ?_
   refine zN ?_
   refine RunC.ret ?_
   have hq := Option.some.inj h
   subst q0
   exact bodyQ.pure (.inr rfl) rfl (Res.one rfl (RV.tmp rfl))
noncomputable def s_l01Value_k2 (v2 : Int) (v10 : Int) : Option (LR (Int × Int) (Int) (Int × Bool)) :=
 olet (IntKind.i64.wrap (v2 + 1)) fun (x11 : Int) =>
 some (LR.next (v10, x11))
noncomputable def s_l01Value_b3 (a0 : ByteArray) (v1 : Int) (v2 : Int) : Option (LR (Int × Int) (Int) (Int × Bool)) :=
 bsel (decide (v2 < (a0.size : Int))) (
  obind (sat? a0 v2) fun (e3 : Int) =>
  bsel (decide (48 ≤ e3)) (
   obind (sat? a0 v2) fun (e4 : Int) =>
   bsel (decide (e4 ≤ 57)) (
    olet (IntKind.i64.wrap (10 * v1)) fun (x5 : Int) =>
    obind (sat? a0 v2) fun (e6 : Int) =>
    olet (IntKind.u8.wrap (e6 - 48)) fun (x7 : Int) =>
    olet (IntKind.i64.wrap x7) fun (x8 : Int) =>
    olet (IntKind.i64.wrap (x5 + x8)) fun (x9 : Int) =>
    s_l01Value_k2 v2 x9) (
    s_l01Value_k2 v2 v1)) (
   s_l01Value_k2 v2 v1)) (
  some (LR.out v1))
noncomputable def s_l01Value_s3 (a0 : ByteArray) : (Int × Int) → Option (LR (Int × Int) (Int) (Int × Bool)) := fun s => s_l01Value_b3 a0 s.1 s.2
noncomputable def s_l01Value_k4 (a0 : ByteArray) (v15 : Int) : Option (Int × Bool) :=
 obind (s_l00In v15 (-1000000000000000) 1000000000000000) fun (r16 : Bool) =>
 bsel r16 (
  obind (s_l01Dec v15) fun (r17 : ByteArray) =>
  bsel (!eqs r17 a0) (
   some (0, false)) (
   some (v15, true))) (
  some (0, false))
noncomputable def s_l01Value_k3 (a0 : ByteArray) (v12 : Int) : Option (Int × Bool) :=
 obind (sat? a0 0) fun (e13 : Int) =>
 bsel (decide (e13 = 45)) (
  olet (IntKind.i64.wrap (0 - v12)) fun (x14 : Int) =>
  s_l01Value_k4 a0 x14) (
  s_l01Value_k4 a0 v12)
noncomputable def s_l01Value (a0 : ByteArray) : Option (Int × Bool) :=
 bsel (decide ((a0.size : Int) < 1)) (
  some (0, false)) (
  bsel (decide (17 < (a0.size : Int))) (
   some (0, false)) (
   obind (loopM (s_l01Value_s3 a0) (0, 0)) fun z => osum z (fun e => s_l01Value_k3 a0 e) (fun r => some r)))
theorem s_l01Value_ok (a0 : ByteArray) (q0 : Int) (q1 : Bool) (h : s_l01Value a0 = some (q0, q1)) : Ev Tryz.prog 70 [str a0] [] (tup [i64 q0, b q1]) [] := by
 refine Ev.start Tryz.func70 rfl rfl 0 (τ := [(0, str a0)]) rfl (Γ' := []) rfl (n := 107) rfl (g := 0) rfl (fun _ => rfl) ?_
 unfold s_l01Value at h
 refine zQ ?_
 refine zA (r := i64 0) rfl rfl rfl rfl rfl ?_
 refine zA (r := b false) rfl rfl rfl rfl rfl ?_
 refine zN ?_
 refine RunC.seq ?_
 refine RunC.seq ?_
 rcases bsel_some h with ⟨hc1, h⟩ | ⟨hc1, h⟩
 ·refine RunC.regionW ?_
  refine zM (r := str a0) rfl rfl rfl rfl rfl ?_
  refine zL (r := i64 (a0.size : Int)) rfl rfl rfl (LOp.len_str und9 rfl rfl) ?_
  refine zL (r := b true) rfl rfl rfl (LOp.eqb (LOp.lss rfl rfl rfl) hc1) ?_
  refine zM (r := b true) rfl rfl rfl rfl rfl ?_
  refine ROps.s rfl rfl rfl ?_
  refine ROps.s rfl rfl rfl ?_
  refine ROps.s rfl rfl rfl ?_
  refine zL (r := b true) rfl rfl rfl (LOp.pick_true rfl rfl rfl) ?_
  refine zN ?_
  refine RunC.cond_true rfl rfl ?_
  refine zQ ?_
  refine zA (r := i64 0) rfl rfl rfl rfl rfl ?_
  refine zA (r := b false) rfl rfl rfl rfl rfl ?_
  refine zN ?_
  refine RunC.ret ?_
  have hq := Option.some.inj h
  obtain ⟨hq0, hq⟩ := Prod.mk.inj hq
  subst q0
  subst q1
  exact bodyQ.pure (.inr rfl) rfl (Res.two rfl (RV.tmp rfl) (RV.tmp rfl))
 ·rcases bsel_some h with ⟨hc2, h⟩ | ⟨hc2, h⟩
  ·refine RunC.regionW ?_
   refine zM (r := str a0) rfl rfl rfl rfl rfl ?_
   refine zL (r := i64 (a0.size : Int)) rfl rfl rfl (LOp.len_str und9 rfl rfl) ?_
   refine zL (r := b false) rfl rfl rfl (LOp.eqb (LOp.lss rfl rfl rfl) hc1) ?_
   refine zM (r := b false) rfl rfl rfl rfl rfl ?_
   refine zM (r := str a0) rfl rfl rfl rfl rfl ?_
   refine zL (r := i64 (a0.size : Int)) rfl rfl rfl (LOp.len_str und9 rfl rfl) ?_
   refine zL (r := b true) rfl rfl rfl (LOp.eqb (LOp.gtr rfl rfl rfl) hc2) ?_
   refine zL (r := b true) rfl rfl rfl (LOp.pick_false rfl rfl rfl) ?_
   refine zN ?_
   refine RunC.cond_true rfl rfl ?_
   refine zQ ?_
   refine zA (r := i64 0) rfl rfl rfl rfl rfl ?_
   refine zA (r := b false) rfl rfl rfl rfl rfl ?_
   refine zN ?_
   refine RunC.ret ?_
   have hq := Option.some.inj h
   obtain ⟨hq0, hq⟩ := Prod.mk.inj hq
   subst q0
   subst q1
   exact bodyQ.pure (.inr rfl) rfl (Res.two rfl (RV.tmp rfl) (RV.tmp rfl))
  ·refine RunC.regionW ?_
   refine zM (r := str a0) rfl rfl rfl rfl rfl ?_
   refine zL (r := i64 (a0.size : Int)) rfl rfl rfl (LOp.len_str und9 rfl rfl) ?_
   refine zL (r := b false) rfl rfl rfl (LOp.eqb (LOp.lss rfl rfl rfl) hc1) ?_
   refine zM (r := b false) rfl rfl rfl rfl rfl ?_
   refine zM (r := str a0) rfl rfl rfl rfl rfl ?_
   refine zL (r := i64 (a0.size : Int)) rfl rfl rfl (LOp.len_str und9 rfl rfl) ?_
   refine zL (r := b false) rfl rfl rfl (LOp.eqb (LOp.gtr rfl rfl rfl) hc2) ?_
   refine zL (r := b false) rfl rfl rfl (LOp.pick_false rfl rfl rfl) ?_
   refine zN ?_
   refine RunC.cond_false rfl rfl ?_
   refine RunC.skip ?_
   refine zQ ?_
   refine zA (r := i64 0) rfl rfl rfl rfl rfl ?_
   refine zN ?_
   refine RunC.seq ?_
   refine zQ ?_
   refine zA (r := i64 0) rfl rfl rfl rfl rfl ?_
   refine zN ?_
   obtain ⟨z5, hz_5, h⟩ := obind_some h
   refine RunC.cutN (fun τ Γ => ∃ (v12 : Int), WeakLe τ [(0, str a0), (4, i64 v12)] ∧ DeadLe Γ [] ∧ z5 = .inl v12) ?_ ?_
   ·refine RunC.block (RunC.loop (RunL.loopM (x := z5) (s_l01Value_s3 a0) (fun (s : Int × Int) τ Γ => WeakLe τ [(0, str a0), (4, i64 s.1), (5, i64 s.2)] ∧ DeadLe Γ []) ?_ _ _ _ hz_5 ⟨⟨aR, aR, aR, trivial⟩, trivial⟩))
    rintro ⟨v1, v2⟩ τ5 Γ5 y5_ ⟨hw5, hd5⟩ h5_ ho5 hr5
    refine RunC.wl (τ' := [(0, str a0), (4, i64 v1), (5, i64 v2)]) (Γ' := []) hw5 hd5 ?_
    replace h5_ : s_l01Value_b3 a0 v1 v2 = some y5_ := h5_
    unfold s_l01Value_b3 at h5_
    refine RunC.seq ?_
    refine RunC.seq ?_
    rcases bsel_some h5_ with ⟨hc3, h5_⟩ | ⟨hc3, h5_⟩
    ·refine RunC.regionW ?_
     refine zM (r := i64 v2) rfl rfl rfl rfl rfl ?_
     refine zM (r := str a0) rfl rfl rfl rfl rfl ?_
     refine zL (r := i64 (a0.size : Int)) rfl rfl rfl (LOp.len_str und9 rfl rfl) ?_
     refine zL (r := b true) rfl rfl rfl (LOp.eqb (LOp.lss rfl rfl rfl) hc3) ?_
     refine zN ?_
     refine RunC.cond_true rfl rfl ?_
     refine RunC.skip ?_
     refine RunC.seq ?_
     refine RunC.cutN (fun τ Γ => ∃ (v10 : Int), WeakLe τ [(0, str a0), (4, i64 v10), (5, i64 v2)] ∧ DeadLe Γ [] ∧ s_l01Value_k2 v2 v10 = some y5_) ?_ ?_
     ·refine RunC.block ?_
      refine RunC.seq ?_
      obtain ⟨e3, he4, h5_⟩ := obind_some h5_
      rcases bsel_some h5_ with ⟨hc5, h5_⟩ | ⟨hc5, h5_⟩
      ·obtain ⟨e4, he6, h5_⟩ := obind_some h5_
       rcases bsel_some h5_ with ⟨hc7, h5_⟩ | ⟨hc7, h5_⟩
       ·refine RunC.regionW ?_
        refine zM (r := str a0) rfl rfl rfl rfl rfl ?_
        refine zM (r := i64 v2) rfl rfl rfl rfl rfl ?_
        refine zL (r := ik .u8 e3) rfl rfl rfl (LOp.index_str und9 rfl rfl rfl he4) ?_
        refine zL (r := b true) rfl rfl rfl (LOp.eqb (LOp.geq rfl rfl rfl) hc5) ?_
        refine zM (r := b true) rfl rfl rfl rfl rfl ?_
        refine zM (r := str a0) rfl rfl rfl rfl rfl ?_
        refine zM (r := i64 v2) rfl rfl rfl rfl rfl ?_
        refine zL (r := ik .u8 e4) rfl rfl rfl (LOp.index_str und9 rfl rfl rfl he6) ?_
        refine zL (r := b true) rfl rfl rfl (LOp.eqb (LOp.leq rfl rfl rfl) hc7) ?_
        refine zL (r := b true) rfl rfl rfl (LOp.pick_true rfl rfl rfl) ?_
        refine zN ?_
        refine RunC.cond_true rfl rfl ?_
        obtain ⟨x5, hx8, h5_⟩ := olet_some h5_
        obtain ⟨e6, he9, h5_⟩ := obind_some h5_
        obtain ⟨x7, hx10, h5_⟩ := olet_some h5_
        obtain ⟨x8, hx11, h5_⟩ := olet_some h5_
        obtain ⟨x9, hx12, h5_⟩ := olet_some h5_
        refine RunC.regionW ?_
        refine zM (r := i64 v1) rfl rfl rfl rfl rfl ?_
        refine zL (r := i64 x5) rfl rfl rfl (LOp.eqr (LOp.mul rfl rfl rfl) (congrArg (ik .i64) hx8)) ?_
        refine zM (r := str a0) rfl rfl rfl rfl rfl ?_
        refine zM (r := i64 v2) rfl rfl rfl rfl rfl ?_
        refine zL (r := ik .u8 e6) rfl rfl rfl (LOp.index_str und9 rfl rfl rfl he9) ?_
        refine zL (r := ik .u8 x7) rfl rfl rfl (LOp.eqr (LOp.sub rfl rfl rfl) (congrArg (ik .u8) hx10)) ?_
        refine zL (r := i64 x8) rfl rfl rfl (LOp.eqr (LOp.i2i (src := 5) (dst := 2) ⟨_, pun5⟩ pun2 rfl rfl) (congrArg (ik .i64) hx11)) ?_
        refine zL (r := i64 x9) rfl rfl rfl (LOp.eqr (LOp.add rfl rfl rfl) (congrArg (ik .i64) hx12)) ?_
        refine zA (r := i64 x9) rfl rfl rfl rfl rfl ?_
        refine zN ?_
        exact ⟨x9, ⟨aR, aR, aR, trivial⟩, trivial, h5_⟩
       ·refine RunC.regionW ?_
        refine zM (r := str a0) rfl rfl rfl rfl rfl ?_
        refine zM (r := i64 v2) rfl rfl rfl rfl rfl ?_
        refine zL (r := ik .u8 e3) rfl rfl rfl (LOp.index_str und9 rfl rfl rfl he4) ?_
        refine zL (r := b true) rfl rfl rfl (LOp.eqb (LOp.geq rfl rfl rfl) hc5) ?_
        refine zM (r := b true) rfl rfl rfl rfl rfl ?_
        refine zM (r := str a0) rfl rfl rfl rfl rfl ?_
        refine zM (r := i64 v2) rfl rfl rfl rfl rfl ?_
        refine zL (r := ik .u8 e4) rfl rfl rfl (LOp.index_str und9 rfl rfl rfl he6) ?_
        refine zL (r := b false) rfl rfl rfl (LOp.eqb (LOp.leq rfl rfl rfl) hc7) ?_
        refine zL (r := b false) rfl rfl rfl (LOp.pick_true rfl rfl rfl) ?_
        refine zN ?_
        refine RunC.cond_false rfl rfl ?_
        refine RunC.skip ?_
        exact ⟨v1, ⟨aR, aR, aR, trivial⟩, trivial, h5_⟩
      ·refine RunC.regionW ?_
       refine zM (r := str a0) rfl rfl rfl rfl rfl ?_
       refine zM (r := i64 v2) rfl rfl rfl rfl rfl ?_
       refine zL (r := ik .u8 e3) rfl rfl rfl (LOp.index_str und9 rfl rfl rfl he4) ?_
       refine zL (r := b false) rfl rfl rfl (LOp.eqb (LOp.geq rfl rfl rfl) hc5) ?_
       refine zM (r := b false) rfl rfl rfl rfl rfl ?_
       refine ROps.s rfl rfl rfl ?_
       refine ROps.s rfl rfl rfl ?_
       refine ROps.s rfl rfl rfl ?_
       refine ROps.s rfl rfl rfl ?_
       refine zL (r := b false) rfl rfl rfl (LOp.pick_false rfl rfl rfl) ?_
       refine zN ?_
       refine RunC.cond_false rfl rfl ?_
       refine RunC.skip ?_
       exact ⟨v1, ⟨aR, aR, aR, trivial⟩, trivial, h5_⟩
     ·rintro τ6 Γ6 ⟨v10, hw6, hd6, h5_⟩
      refine RunC.wl hw6 hd6 ?_
      unfold s_l01Value_k2 at h5_
      obtain ⟨x11, hx13, h5_⟩ := olet_some h5_
      refine RunC.regionW ?_
      refine zM (r := i64 v2) rfl rfl rfl rfl rfl ?_
      refine zL (r := i64 x11) rfl rfl rfl (LOp.eqr (LOp.add rfl rfl rfl) (congrArg (ik .i64) hx13)) ?_
      refine zA (r := i64 x11) rfl rfl rfl rfl rfl ?_
      refine zN ?_
      cases Option.some.inj h5_
      exact ⟨_, rfl, ⟨aR, aR, aR, trivial⟩, trivial⟩
    ·refine RunC.regionW ?_
     refine zM (r := i64 v2) rfl rfl rfl rfl rfl ?_
     refine zM (r := str a0) rfl rfl rfl rfl rfl ?_
     refine zL (r := i64 (a0.size : Int)) rfl rfl rfl (LOp.len_str und9 rfl rfl) ?_
     refine zL (r := b false) rfl rfl rfl (LOp.eqb (LOp.lss rfl rfl rfl) hc3) ?_
     refine zN ?_
     refine RunC.cond_false rfl rfl ?_
     refine RunC.exit ?_
     cases Option.some.inj h5_
     have hx := ho5 _ rfl
     exact ⟨v1, ⟨aR, aR, trivial⟩, trivial, hx⟩
   ·rintro τ7 Γ7 ⟨v12, hw7, hd7, rfl⟩
    refine RunC.wl hw7 hd7 ?_
    replace h : s_l01Value_k3 a0 v12 = some (q0, q1) := h
    unfold s_l01Value_k3 at h
    refine RunC.seq ?_
    refine RunC.cutN (fun τ Γ => ∃ (v15 : Int), WeakLe τ [(0, str a0), (4, i64 v15)] ∧ DeadLe Γ [] ∧ s_l01Value_k4 a0 v15 = some (q0, q1)) ?_ ?_
    ·refine RunC.seq ?_
     obtain ⟨e13, he14, h⟩ := obind_some h
     rcases bsel_some h with ⟨hc15, h⟩ | ⟨hc15, h⟩
     ·refine RunC.regionW ?_
      refine zM (r := str a0) rfl rfl rfl rfl rfl ?_
      refine zL (r := ik .u8 e13) rfl rfl rfl (LOp.index_str und9 rfl rfl rfl he14) ?_
      refine zL (r := b true) rfl rfl rfl (LOp.eqb (LOp.eql rfl rfl rfl) hc15) ?_
      refine zN ?_
      refine RunC.cond_true rfl rfl ?_
      obtain ⟨x14, hx16, h⟩ := olet_some h
      refine RunC.regionW ?_
      refine zM (r := i64 v12) rfl rfl rfl rfl rfl ?_
      refine zL (r := i64 x14) rfl rfl rfl (LOp.eqr (LOp.neg_int rfl rfl) (congrArg (ik .i64) hx16)) ?_
      refine zA (r := i64 x14) rfl rfl rfl rfl rfl ?_
      refine zN ?_
      exact ⟨x14, ⟨aR, aR, trivial⟩, trivial, h⟩
     ·refine RunC.regionW ?_
      refine zM (r := str a0) rfl rfl rfl rfl rfl ?_
      refine zL (r := ik .u8 e13) rfl rfl rfl (LOp.index_str und9 rfl rfl rfl he14) ?_
      refine zL (r := b false) rfl rfl rfl (LOp.eqb (LOp.eql rfl rfl rfl) hc15) ?_
      refine zN ?_
      refine RunC.cond_false rfl rfl ?_
      refine RunC.skip ?_
      exact ⟨v12, ⟨aR, aR, trivial⟩, trivial, h⟩
    ·rintro τ8 Γ8 ⟨v15, hw8, hd8, h⟩
     refine RunC.wl hw8 hd8 ?_
     unfold s_l01Value_k4 at h
     refine RunC.seq ?_
     refine RunC.seq ?_
     obtain ⟨r16, hf17, h⟩ := obind_some h
     rcases bsel_some h with ⟨hc18, h⟩ | ⟨hc18, h⟩
     ·obtain ⟨r17, hf19, h⟩ := obind_some h
      rcases bsel_some h with ⟨hc20, h⟩ | ⟨hc20, h⟩
      ·refine RunC.regionW ?_
       refine zM (r := i64 v15) rfl rfl rfl rfl rfl ?_
       refine ROps.d (r := b true) (fs := []) (Γ' := []) rfl rfl rfl (TOp.eqb (TOp.callB (CallAs.func ent94 rfl rfl) (Bors.cons (Bor.pure rfl) (Bors.cons (Bor.pure rfl) (Bors.cons (Bor.pure rfl) Bors.nil))) rfl rfl (s_l00In_ok v15 (-1000000000000000) 1000000000000000 r16 hf17)) hc18) rfl ?_
       refine zL (r := b false) rfl rfl rfl (LOp.eqb (LOp.not rfl rfl) rfl) ?_
       refine zM (r := b false) rfl rfl rfl rfl rfl ?_
       refine zM (r := i64 v15) rfl rfl rfl rfl rfl ?_
       refine ROps.d (r := str r17) (fs := []) (Γ' := []) rfl rfl rfl (TOp.callB (CallAs.func ent95 rfl rfl) (Bors.cons (Bor.pure rfl) Bors.nil) rfl rfl (s_l01Dec_ok v15 r17 hf19)) rfl ?_
       refine zM (r := str a0) rfl rfl rfl rfl rfl ?_
       refine zL (r := b true) rfl rfl rfl (LOp.eqb (LOp.neqs rfl rfl rfl) hc20) ?_
       refine zL (r := b true) rfl rfl rfl (LOp.pick_false rfl rfl rfl) ?_
       refine zN ?_
       refine RunC.cond_true rfl rfl ?_
       refine zQ ?_
       refine zA (r := i64 0) rfl rfl rfl rfl rfl ?_
       refine zA (r := b false) rfl rfl rfl rfl rfl ?_
       refine zN ?_
       refine RunC.ret ?_
       have hq := Option.some.inj h
       obtain ⟨hq0, hq⟩ := Prod.mk.inj hq
       subst q0
       subst q1
       exact bodyQ.pure (.inr rfl) rfl (Res.two rfl (RV.tmp rfl) (RV.tmp rfl))
      ·refine RunC.regionW ?_
       refine zM (r := i64 v15) rfl rfl rfl rfl rfl ?_
       refine ROps.d (r := b true) (fs := []) (Γ' := []) rfl rfl rfl (TOp.eqb (TOp.callB (CallAs.func ent94 rfl rfl) (Bors.cons (Bor.pure rfl) (Bors.cons (Bor.pure rfl) (Bors.cons (Bor.pure rfl) Bors.nil))) rfl rfl (s_l00In_ok v15 (-1000000000000000) 1000000000000000 r16 hf17)) hc18) rfl ?_
       refine zL (r := b false) rfl rfl rfl (LOp.eqb (LOp.not rfl rfl) rfl) ?_
       refine zM (r := b false) rfl rfl rfl rfl rfl ?_
       refine zM (r := i64 v15) rfl rfl rfl rfl rfl ?_
       refine ROps.d (r := str r17) (fs := []) (Γ' := []) rfl rfl rfl (TOp.callB (CallAs.func ent95 rfl rfl) (Bors.cons (Bor.pure rfl) Bors.nil) rfl rfl (s_l01Dec_ok v15 r17 hf19)) rfl ?_
       refine zM (r := str a0) rfl rfl rfl rfl rfl ?_
       refine zL (r := b false) rfl rfl rfl (LOp.eqb (LOp.neqs rfl rfl rfl) hc20) ?_
       refine zL (r := b false) rfl rfl rfl (LOp.pick_false rfl rfl rfl) ?_
       refine zN ?_
       refine RunC.cond_false rfl rfl ?_
       refine RunC.skip ?_
       refine zQ ?_
       refine zM (r := i64 v15) rfl rfl rfl rfl rfl ?_
       refine zA (r := i64 v15) rfl rfl rfl rfl rfl ?_
       refine zA (r := b true) rfl rfl rfl rfl rfl ?_
       refine zN ?_
       refine RunC.ret ?_
       have hq := Option.some.inj h
       obtain ⟨hq0, hq⟩ := Prod.mk.inj hq
       subst q0
       subst q1
       exact bodyQ.pure (.inr rfl) rfl (Res.two rfl (RV.tmp rfl) (RV.tmp rfl))
     ·refine RunC.regionW ?_
      refine zM (r := i64 v15) rfl rfl rfl rfl rfl ?_
      refine ROps.d (r := b false) (fs := []) (Γ' := []) rfl rfl rfl (TOp.eqb (TOp.callB (CallAs.func ent94 rfl rfl) (Bors.cons (Bor.pure rfl) (Bors.cons (Bor.pure rfl) (Bors.cons (Bor.pure rfl) Bors.nil))) rfl rfl (s_l00In_ok v15 (-1000000000000000) 1000000000000000 r16 hf17)) hc18) rfl ?_
      refine zL (r := b true) rfl rfl rfl (LOp.eqb (LOp.not rfl rfl) rfl) ?_
      refine zM (r := b true) rfl rfl rfl rfl rfl ?_
      refine ROps.s rfl rfl rfl ?_
      refine ROps.s rfl rfl rfl ?_
      refine ROps.s rfl rfl rfl ?_
      refine ROps.s rfl rfl rfl ?_
      refine zL (r := b true) rfl rfl rfl (LOp.pick_true rfl rfl rfl) ?_
      refine zN ?_
      refine RunC.cond_true rfl rfl ?_
      refine zQ ?_
      refine zA (r := i64 0) rfl rfl rfl rfl rfl ?_
      refine zA (r := b false) rfl rfl rfl rfl rfl ?_
      refine zN ?_
      refine RunC.ret ?_
      have hq := Option.some.inj h
      obtain ⟨hq0, hq⟩ := Prod.mk.inj hq
      subst q0
      subst q1
      exact bodyQ.pure (.inr rfl) rfl (Res.two rfl (RV.tmp rfl) (RV.tmp rfl))
noncomputable def s_l01Numbers_b1 (r1 : List ByteArray) (L4 : List Int) (v5 : Int) : Option (LR ((List Int) × Int) ((List Int)) (Bool × (List Int))) :=
 bsel (decide (v5 < ((r1.length : Nat) : Int))) (
  obind (at? r1 v5) fun (e6 : ByteArray) =>
  obind2 (s_l01Value e6) fun (r7 : Int) (r8 : Bool) =>
  bsel r8 (
   need (apok 8 L4.length 1) <|
   olet (IntKind.i64.wrap (v5 + 1)) fun (x9 : Int) =>
   some (LR.next ((L4 ++ ([r7] : List Int)), x9))) (
   some (LR.ret (false, ([] : List Int))))) (
  some (LR.out L4))
noncomputable def s_l01Numbers_s1 (r1 : List ByteArray) : ((List Int) × Int) → Option (LR ((List Int) × Int) ((List Int)) (Bool × (List Int))) := fun s => s_l01Numbers_b1 r1 s.1 s.2
noncomputable def s_l01Numbers_k1 (L12 : List Int) : Option (Bool × (List Int)) :=
 some (true, L12)
noncomputable def s_l01Numbers (a0 : ByteArray) : Option (Bool × (List Int)) :=
 bsel (eqs a0 lit_5ac87db9) (
  some (true, ([] : List Int))) (
  obind (s_l01Cut a0 44) fun (r1 : List ByteArray) =>
  bsel (decide (64 < ((r1.length : Nat) : Int))) (
   some (false, ([] : List Int))) (
   obind (loopM (s_l01Numbers_s1 r1) (([] : List Int), 0)) fun z => osum z (fun e => s_l01Numbers_k1 e) (fun r => some r)))
theorem s_l01Numbers_ok (a0 : ByteArray) (q0 : Bool) (q1 : List Int) (h : s_l01Numbers a0 = some (q0, q1)) : Ev Tryz.prog 51 [str a0] [] (tup [oref 0 0 0 q1.length, b q0]) [⟨0, some (q1.map i64)⟩] := by
 refine Ev.start Tryz.func51 rfl rfl 3 (τ := [(0, str a0)]) rfl (Γ' := [⟨0, none⟩, ⟨0, none⟩, ⟨0, none⟩]) rfl (n := 79) rfl (g := 0) rfl (fun _ => rfl) ?_
 unfold s_l01Numbers at h
 refine zQ ?_
 refine zA (r := nilsl) rfl rfl rfl rfl rfl ?_
 refine zA (r := b false) rfl rfl rfl rfl rfl ?_
 refine zN ?_
 refine zQ ?_
 refine ROps.d (r := oref 0 1 0 0) (fs := [(0, (([] : List Int).map i64))]) (Γ' := [⟨1, some (([] : List Int).map i64)⟩, ⟨0, none⟩, ⟨0, none⟩]) rfl rfl rfl (TOp.buildSlice_o (g := ⟨0, none⟩) (za := i64 0) (qs := []) 0 rfl und60 siz2 zer2 rfl zel2 rfl rfl trivial rfl) rfl ?_
 refine zA (r := oref 0 1 0 0) rfl rfl rfl rfl rfl ?_
 refine zN ?_
 refine RunC.seq ?_
 refine RunC.seq ?_
 rcases bsel_some h with ⟨hc1, h⟩ | ⟨hc1, h⟩
 ·refine RunC.regionW ?_
  refine zM (r := str a0) rfl rfl rfl rfl rfl ?_
  refine zL (r := b true) rfl rfl rfl (LOp.eqb (LOp.eqs rfl rfl rfl) hc1) ?_
  refine zN ?_
  refine RunC.cond_true rfl rfl ?_
  refine zQ ?_
  refine zM (r := oref 0 1 0 0) rfl rfl rfl rfl rfl ?_
  refine zA (r := oref 0 1 0 0) rfl rfl rfl rfl rfl ?_
  refine zA (r := b true) rfl rfl rfl rfl rfl ?_
  refine zN ?_
  refine RunC.ret ?_
  have hq := Option.some.inj h
  obtain ⟨hq0, hq⟩ := Prod.mk.inj hq
  subst q0
  subst q1
  exact bodyQ.mk (r' := tup [oref 0 1 0 (([] : List Int).length), b true]) [(0, 1)] (.inr rfl) rfl (show List.Nodup [0] from by decide) rfl rfl (Res.eq (Res.two rfl (RV.tmp rfl) (RV.tmp rfl)) (by rw [(show ([] : List Int).length = 0 from rfl)] <;> rfl)) (SelL.arr0 (f := i64) (fun _ => rfl) rfl trivial)
 ·refine RunC.regionW ?_
  refine zM (r := str a0) rfl rfl rfl rfl rfl ?_
  refine zL (r := b false) rfl rfl rfl (LOp.eqb (LOp.eqs rfl rfl rfl) hc1) ?_
  refine zN ?_
  refine RunC.cond_false rfl rfl ?_
  refine RunC.skip ?_
  refine RunC.seq ?_
  obtain ⟨r1, hf2, h⟩ := obind_some h
  refine RunC.regionW ?_
  refine zM (r := str a0) rfl rfl rfl rfl rfl ?_
  refine ROps.d (r := oref 1 1 0 r1.length) (fs := [(1, (r1.map str))]) (Γ' := [⟨1, some (([] : List Int).map i64)⟩, ⟨1, some (r1.map str)⟩, ⟨0, none⟩]) rfl rfl rfl (TOp.callBN (ls := [(r1.map str)]) [1] (CallAs.func ent25 rfl rfl) (Bors.cons (Bor.pure rfl) (Bors.cons (Bor.pure rfl) Bors.nil)) rfl (s_l01Cut_ok a0 44 r1 hf2) (and_all (lts0_map (f := str) (fun _ => rfl) _) rfl) (and_all (noss_map (f := str) (fun _ => rfl) _) rfl) rfl (by decide) (ns_of ⟨⟨_, rfl⟩, trivial⟩)) rfl ?_
  refine zA (r := oref 1 1 0 r1.length) rfl rfl rfl rfl rfl ?_
  refine zN ?_
  refine RunC.seq ?_
  refine RunC.seq ?_
  rcases bsel_some h with ⟨hc3, h⟩ | ⟨hc3, h⟩
  ·refine RunC.regionW ?_
   refine zM (r := oref 1 1 0 r1.length) rfl rfl rfl rfl rfl ?_
   refine zL (r := i64 ((r1.length : Nat) : Int)) rfl rfl rfl (LOp.len_oref und46 rfl rfl) ?_
   refine zL (r := b true) rfl rfl rfl (LOp.eqb (LOp.gtr rfl rfl rfl) hc3) ?_
   refine zN ?_
   refine RunC.cond_true rfl rfl ?_
   refine zQ ?_
   refine zA (r := nilsl) rfl rfl rfl rfl rfl ?_
   refine zA (r := b false) rfl rfl rfl rfl rfl ?_
   refine zN ?_
   refine RunC.nil_slot (Γ' := [⟨1, some (([] : List Int).map i64)⟩, ⟨1, some (r1.map str)⟩, ⟨1, some (([] : List Int).map i64)⟩]) 2 2 rfl rfl rfl ?_
   refine RunC.ret ?_
   have hq := Option.some.inj h
   obtain ⟨hq0, hq⟩ := Prod.mk.inj hq
   subst q0
   subst q1
   exact bodyQ.mk (r' := tup [oref 2 1 0 (([] : List Int).length), b false]) [(2, 1)] (.inr rfl) rfl (show List.Nodup [2] from by decide) rfl rfl (Res.eq (Res.two rfl (RV.tmp rfl) (RV.tmp rfl)) (by rw [(show ([] : List Int).length = 0 from rfl)] <;> rfl)) (SelL.arr0 (f := i64) (fun _ => rfl) rfl trivial)
  ·refine RunC.regionW ?_
   refine zM (r := oref 1 1 0 r1.length) rfl rfl rfl rfl rfl ?_
   refine zL (r := i64 ((r1.length : Nat) : Int)) rfl rfl rfl (LOp.len_oref und46 rfl rfl) ?_
   refine zL (r := b false) rfl rfl rfl (LOp.eqb (LOp.gtr rfl rfl rfl) hc3) ?_
   refine zN ?_
   refine RunC.cond_false rfl rfl ?_
   refine RunC.skip ?_
   refine RunC.seq ?_
   refine zQ ?_
   refine zA (r := i64 0) rfl rfl rfl rfl rfl ?_
   refine zN ?_
   obtain ⟨z2, hz_2, h⟩ := obind_some h
   refine RunC.cutN (fun τ Γ => ∃ (L12 : List Int) (u10 : Nat) (u11 : Nat), WeakLe τ [(4, oref 0 u10 0 L12.length)] ∧ DeadLe Γ [⟨u10, some (L12.map i64)⟩, ⟨1, none⟩, ⟨u11, none⟩] ∧ z2 = .inl L12) ?_ ?_
   ·refine RunC.block (RunC.loop (RunL.loopM (x := z2) (s_l01Numbers_s1 r1) (fun (s : (List Int) × Int) τ Γ => ∃ (u2 : Nat) (u3 : Nat), WeakLe τ [(4, oref 0 u2 0 s.1.length), (5, oref 1 1 0 r1.length), (6, i64 s.2)] ∧ DeadLe Γ [⟨u2, some (s.1.map i64)⟩, ⟨1, some (r1.map str)⟩, ⟨u3, none⟩]) ?_ _ _ _ hz_2 ⟨1, 0, ⟨aR, aR, aR, trivial⟩, ⟨⟨rfl, .inr rfl⟩, ⟨rfl, .inr rfl⟩, ⟨rfl, .inl rfl⟩, trivial⟩⟩))
    rintro ⟨L4, v5⟩ τ2 Γ2 y2_ ⟨u2, u3, hw2, hd2⟩ h2_ ho2 hr2
    refine RunC.wl (τ' := [(4, oref 0 u2 0 L4.length), (5, oref 1 1 0 r1.length), (6, i64 v5)]) (Γ' := [⟨u2, some (L4.map i64)⟩, ⟨1, some (r1.map str)⟩, ⟨u3, none⟩]) hw2 hd2 ?_
    replace h2_ : s_l01Numbers_b1 r1 L4 v5 = some y2_ := h2_
    unfold s_l01Numbers_b1 at h2_
    refine RunC.seq ?_
    refine RunC.seq ?_
    rcases bsel_some h2_ with ⟨hc4, h2_⟩ | ⟨hc4, h2_⟩
    ·refine RunC.regionW ?_
     refine zM (r := i64 v5) rfl rfl rfl rfl rfl ?_
     refine zM (r := oref 1 1 0 r1.length) rfl rfl rfl rfl rfl ?_
     refine zL (r := i64 ((r1.length : Nat) : Int)) rfl rfl rfl (LOp.len_oref und46 rfl rfl) ?_
     refine zL (r := b true) rfl rfl rfl (LOp.eqb (LOp.lss rfl rfl rfl) hc4) ?_
     refine zN ?_
     refine RunC.cond_true rfl rfl ?_
     refine RunC.skip ?_
     refine RunC.seq ?_
     refine RunC.block ?_
     refine RunC.seq ?_
     obtain ⟨e6, he5, h2_⟩ := obind_some h2_
     obtain ⟨r7, r8, hf6, h2_⟩ := obind2_some h2_
     rcases bsel_some h2_ with ⟨hc7, h2_⟩ | ⟨hc7, h2_⟩
     ·refine RunC.regionW ?_
      refine zM (r := oref 1 1 0 r1.length) rfl rfl rfl rfl rfl ?_
      refine zM (r := i64 v5) rfl rfl rfl rfl rfl ?_
      refine ROps.d (r := optr 1 1 v5.toNat) (fs := []) (Γ' := [⟨u2, some (L4.map i64)⟩, ⟨1, some (r1.map str)⟩, ⟨u3, none⟩]) rfl rfl rfl (TOp.ixo und46 siz9 rfl rfl rfl (at_in he5 rfl) rfl) rfl ?_
      refine ROps.d (r := str e6) (fs := []) (Γ' := [⟨u2, some (L4.map i64)⟩, ⟨1, some (r1.map str)⟩, ⟨u3, none⟩]) rfl rfl rfl (TOp.load1_o rfl (at_cell he5) agg9 rfl rfl) rfl ?_
      refine ROps.d (r := tup [i64 r7, b r8]) (fs := []) (Γ' := [⟨u2, some (L4.map i64)⟩, ⟨1, some (r1.map str)⟩, ⟨u3, none⟩]) rfl rfl rfl (TOp.callB (CallAs.func ent70 rfl rfl) (Bors.cons (Bor.pure rfl) Bors.nil) rfl rfl (s_l01Value_ok e6 r7 r8 hf6)) rfl ?_
      refine zM (r := tup [i64 r7, b r8]) rfl rfl rfl rfl rfl ?_
      refine zL (r := i64 r7) rfl rfl rfl (LOp.extract rfl rfl rfl) ?_
      refine zL (r := b true) rfl rfl rfl (LOp.eqb (LOp.extract rfl rfl rfl) hc7) ?_
      refine zA (r := i64 r7) rfl rfl rfl rfl rfl ?_
      refine zA (r := b true) rfl rfl rfl rfl rfl ?_
      refine zN ?_
      refine RunC.seq ?_
      refine zQ ?_
      refine zM (r := b true) rfl rfl rfl rfl rfl ?_
      refine zL (r := b false) rfl rfl rfl (LOp.eqb (LOp.not rfl rfl) rfl) ?_
      refine zN ?_
      refine RunC.wl (τ' := [(4, oref 0 u2 0 L4.length), (5, oref 1 1 0 r1.length), (6, i64 v5), (7, i64 r7), (33, b false)]) (Γ' := [⟨u2, some (L4.map i64)⟩, ⟨1, some (r1.map str)⟩, ⟨u3, none⟩]) ⟨aR, aR, aR, aR, aR, trivial⟩ ⟨⟨rfl, .inr rfl⟩, ⟨rfl, .inr rfl⟩, ⟨rfl, .inl rfl⟩, trivial⟩ ?_
      refine RunC.cond_false rfl rfl ?_
      refine RunC.skip ?_
      obtain ⟨hm8, h2_⟩ := need_some h2_
      refine RunC.regionW ?_
      refine zM (r := oref 0 u2 0 L4.length) rfl rfl rfl rfl rfl ?_
      refine zM (r := i64 r7) rfl rfl rfl rfl rfl ?_
      refine ROps.d (r := oref 2 (u3 + 1) 0 1) (fs := [(2, (([r7] : List Int).map i64))]) (Γ' := [⟨u2, some (L4.map i64)⟩, ⟨1, some (r1.map str)⟩, ⟨(u3 + 1), some (([r7] : List Int).map i64)⟩]) rfl rfl rfl (TOp.buildSlice_o (g := ⟨u3, none⟩) (za := i64 0) (qs := [(0, [i64 r7])]) 2 rfl und60 siz2 zer2 rfl zel2 rfl rfl ⟨rfl, ⟨_, ALe.refl _, rfl⟩, trivial⟩ rfl) rfl ?_
      refine ROps.app (f := i64) (xs := L4) (ys := ([r7] : List Int)) (Γ' := [⟨(u2 + 1), some ((L4 ++ ([r7] : List Int)).map i64)⟩, ⟨1, some (r1.map str)⟩, ⟨(u3 + 1), some (([r7] : List Int).map i64)⟩]) rfl pun60 inf2 rfl rfl rfl rfl rfl rfl rfl rfl rfl (by simp) (ReadAs.own rfl (by simp)) (ones_map (fun _ => rfl)) (ap_by hm8) (ap_mx hm8) rfl ?_
      refine zA (r := oref 0 (u2 + 1) 0 (L4.length + 1)) rfl rfl rfl rfl rfl ?_
      refine zN ?_
      refine RunC.wl (τ' := [(4, oref 0 (u2 + 1) 0 (L4.length + 1)), (5, oref 1 1 0 r1.length), (6, i64 v5)]) (Γ' := [⟨(u2 + 1), some ((L4 ++ ([r7] : List Int)).map i64)⟩, ⟨1, some (r1.map str)⟩, ⟨(u3 + 1), none⟩]) ⟨aR, aR, aR, trivial⟩ ⟨⟨rfl, .inr rfl⟩, ⟨rfl, .inr rfl⟩, ⟨rfl, .inl rfl⟩, trivial⟩ ?_
      obtain ⟨x9, hx9, h2_⟩ := olet_some h2_
      refine RunC.regionW ?_
      refine zM (r := i64 v5) rfl rfl rfl rfl rfl ?_
      refine zL (r := i64 x9) rfl rfl rfl (LOp.eqr (LOp.add rfl rfl rfl) (congrArg (ik .i64) hx9)) ?_
      refine zA (r := i64 x9) rfl rfl rfl rfl rfl ?_
      refine zN ?_
      cases Option.some.inj h2_
      exact ⟨_, rfl, (u2 + 1), (u3 + 1), ⟨(ALe.eq (by rw [(app_len rfl rfl)] <;> rfl)), aR, aR, trivial⟩, ⟨⟨rfl, .inr rfl⟩, ⟨rfl, .inr rfl⟩, ⟨rfl, .inl rfl⟩, trivial⟩⟩
     ·refine RunC.regionW ?_
      refine zM (r := oref 1 1 0 r1.length) rfl rfl rfl rfl rfl ?_
      refine zM (r := i64 v5) rfl rfl rfl rfl rfl ?_
      refine ROps.d (r := optr 1 1 v5.toNat) (fs := []) (Γ' := [⟨u2, some (L4.map i64)⟩, ⟨1, some (r1.map str)⟩, ⟨u3, none⟩]) rfl rfl rfl (TOp.ixo und46 siz9 rfl rfl rfl (at_in he5 rfl) rfl) rfl ?_
      refine ROps.d (r := str e6) (fs := []) (Γ' := [⟨u2, some (L4.map i64)⟩, ⟨1, some (r1.map str)⟩, ⟨u3, none⟩]) rfl rfl rfl (TOp.load1_o rfl (at_cell he5) agg9 rfl rfl) rfl ?_
      refine ROps.d (r := tup [i64 r7, b r8]) (fs := []) (Γ' := [⟨u2, some (L4.map i64)⟩, ⟨1, some (r1.map str)⟩, ⟨u3, none⟩]) rfl rfl rfl (TOp.callB (CallAs.func ent70 rfl rfl) (Bors.cons (Bor.pure rfl) Bors.nil) rfl rfl (s_l01Value_ok e6 r7 r8 hf6)) rfl ?_
      refine zM (r := tup [i64 r7, b r8]) rfl rfl rfl rfl rfl ?_
      refine zL (r := i64 r7) rfl rfl rfl (LOp.extract rfl rfl rfl) ?_
      refine zL (r := b false) rfl rfl rfl (LOp.eqb (LOp.extract rfl rfl rfl) hc7) ?_
      refine zA (r := i64 r7) rfl rfl rfl rfl rfl ?_
      refine zA (r := b false) rfl rfl rfl rfl rfl ?_
      refine zN ?_
      refine RunC.seq ?_
      refine zQ ?_
      refine zM (r := b false) rfl rfl rfl rfl rfl ?_
      refine zL (r := b true) rfl rfl rfl (LOp.eqb (LOp.not rfl rfl) rfl) ?_
      refine zN ?_
      refine RunC.wl (τ' := [(4, oref 0 u2 0 L4.length), (5, oref 1 1 0 r1.length), (6, i64 v5), (7, i64 r7), (33, b true)]) (Γ' := [⟨u2, some (L4.map i64)⟩, ⟨1, some (r1.map str)⟩, ⟨u3, none⟩]) ⟨aR, aR, aR, aR, aR, trivial⟩ ⟨⟨rfl, .inr rfl⟩, ⟨rfl, .inr rfl⟩, ⟨rfl, .inl rfl⟩, trivial⟩ ?_
      refine RunC.cond_true rfl rfl ?_
      refine zQ ?_
      refine zA (r := nilsl) rfl rfl rfl rfl rfl ?_
      refine zA (r := b false) rfl rfl rfl rfl rfl ?_
      refine zN ?_
      refine RunC.nil_slot (Γ' := [⟨u2, some (L4.map i64)⟩, ⟨1, some (r1.map str)⟩, ⟨(u3 + 1), some (([] : List Int).map i64)⟩]) 2 2 rfl rfl rfl ?_
      refine RunC.ret ?_
      cases Option.some.inj h2_
      have hx3_ := hr2 _ rfl
      subst hx3_
      have hq := Option.some.inj h
      obtain ⟨hq0, hq⟩ := Prod.mk.inj hq
      subst q0
      subst q1
      exact bodyQ.mk (r' := tup [oref 2 (u3 + 1) 0 (([] : List Int).length), b false]) [(2, (u3 + 1))] (.inr rfl) rfl (show List.Nodup [2] from by decide) (by simp [ren, rens, sigma]) rfl (Res.eq (Res.two rfl (RV.tmp rfl) (RV.tmp rfl)) (by rw [(show ([] : List Int).length = 0 from rfl)] <;> rfl)) (SelL.arr0 (f := i64) (fun _ => rfl) rfl trivial)
    ·refine RunC.regionW ?_
     refine zM (r := i64 v5) rfl rfl rfl rfl rfl ?_
     refine zM (r := oref 1 1 0 r1.length) rfl rfl rfl rfl rfl ?_
     refine zL (r := i64 ((r1.length : Nat) : Int)) rfl rfl rfl (LOp.len_oref und46 rfl rfl) ?_
     refine zL (r := b false) rfl rfl rfl (LOp.eqb (LOp.lss rfl rfl rfl) hc4) ?_
     refine zN ?_
     refine RunC.cond_false rfl rfl ?_
     refine RunC.exit ?_
     cases Option.some.inj h2_
     have hx := ho2 _ rfl
     exact ⟨L4, u2, u3, ⟨aR, trivial⟩, ⟨⟨rfl, .inr rfl⟩, ⟨rfl, .inl rfl⟩, ⟨rfl, .inl rfl⟩, trivial⟩, hx⟩
   ·rintro τ4 Γ4 ⟨L12, u10, u11, hw4, hd4, rfl⟩
    refine RunC.wl hw4 hd4 ?_
    replace h : s_l01Numbers_k1 L12 = some (q0, q1) := h
    unfold s_l01Numbers_k1 at h
    refine zQ ?_
    refine zM (r := oref 0 u10 0 L12.length) rfl rfl rfl rfl rfl ?_
    refine zA (r := oref 0 u10 0 L12.length) rfl rfl rfl rfl rfl ?_
    refine zA (r := b true) rfl rfl rfl rfl rfl ?_
    refine zN ?_
    refine RunC.ret ?_
    have hq := Option.some.inj h
    obtain ⟨hq0, hq⟩ := Prod.mk.inj hq
    subst q0
    subst q1
    exact bodyQ.mk (r' := tup [oref 0 u10 0 L12.length, b true]) [(0, u10)] (.inr rfl) rfl (show List.Nodup [0] from by decide) (by simp [ren, rens, sigma]) rfl (Res.two rfl (RV.tmp rfl) (RV.tmp rfl)) (SelL.arr0 (f := i64) (fun _ => rfl) rfl trivial)
noncomputable def s_l08Sides (a0 : ByteArray) : Option (Int × Int × ByteArray × Bool) :=
 obind (s_l01Cut a0 59) fun (r1 : List ByteArray) =>
 bsel (!decide (((r1.length : Nat) : Int) = 2)) (
  some (0, 0, lit_99ba06bc, false)) (
  obind (at? r1 0) fun (e2 : ByteArray) =>
  obind2 (s_l01Numbers e2) fun (r3 : Bool) (r4 : List Int) =>
  bsel r3 (
   bsel (!decide (((r4.length : Nat) : Int) = 2)) (
    some (0, 0, lit_99ba06bc, false)) (
    obind (at? r4 0) fun (e5 : Int) =>
    obind (at? r4 1) fun (e6 : Int) =>
    obind (at? r1 1) fun (e7 : ByteArray) =>
    some (e5, e6, e7, true))) (
   some (0, 0, lit_99ba06bc, false)))
theorem s_l08Sides_ok (a0 : ByteArray) (q0 : Int) (q1 : Int) (q2 : ByteArray) (q3 : Bool) (h : s_l08Sides a0 = some (q0, q1, q2, q3)) : Ev Tryz.prog 35 [str a0] [] (tup [i64 q0, i64 q1, str q2, b q3]) [] := by
 refine Ev.start Tryz.func35 rfl rfl 2 (τ := [(0, str a0)]) rfl (Γ' := [⟨0, none⟩, ⟨0, none⟩]) rfl (n := 75) rfl (g := 0) rfl (fun _ => rfl) ?_
 unfold s_l08Sides at h
 refine zQ ?_
 refine zA (r := i64 0) rfl rfl rfl rfl rfl ?_
 refine zA (r := i64 0) rfl rfl rfl rfl rfl ?_
 refine zA (r := str lit_99ba06bc) rfl rfl rfl rfl rfl ?_
 refine zA (r := b false) rfl rfl rfl rfl rfl ?_
 refine zN ?_
 refine RunC.seq ?_
 obtain ⟨r1, hf1, h⟩ := obind_some h
 refine RunC.regionW ?_
 refine zM (r := str a0) rfl rfl rfl rfl rfl ?_
 refine ROps.d (r := oref 0 1 0 r1.length) (fs := [(0, (r1.map str))]) (Γ' := [⟨1, some (r1.map str)⟩, ⟨0, none⟩]) rfl rfl rfl (TOp.callBN (ls := [(r1.map str)]) [0] (CallAs.func ent25 rfl rfl) (Bors.cons (Bor.pure rfl) (Bors.cons (Bor.pure rfl) Bors.nil)) rfl (s_l01Cut_ok a0 59 r1 hf1) (and_all (lts0_map (f := str) (fun _ => rfl) _) rfl) (and_all (noss_map (f := str) (fun _ => rfl) _) rfl) rfl (by decide) (ns_of ⟨⟨_, rfl⟩, trivial⟩)) rfl ?_
 refine zA (r := oref 0 1 0 r1.length) rfl rfl rfl rfl rfl ?_
 refine zN ?_
 refine RunC.seq ?_
 refine RunC.seq ?_
 rcases bsel_some h with ⟨hc2, h⟩ | ⟨hc2, h⟩
 ·refine RunC.regionW ?_
  refine zM (r := oref 0 1 0 r1.length) rfl rfl rfl rfl rfl ?_
  refine zL (r := i64 ((r1.length : Nat) : Int)) rfl rfl rfl (LOp.len_oref und46 rfl rfl) ?_
  refine zL (r := b true) rfl rfl rfl (LOp.eqb (LOp.neq rfl rfl rfl) hc2) ?_
  refine zN ?_
  refine RunC.cond_true rfl rfl ?_
  refine zQ ?_
  refine zA (r := i64 0) rfl rfl rfl rfl rfl ?_
  refine zA (r := i64 0) rfl rfl rfl rfl rfl ?_
  refine zA (r := str lit_99ba06bc) rfl rfl rfl rfl rfl ?_
  refine zA (r := b false) rfl rfl rfl rfl rfl ?_
  refine zN ?_
  refine RunC.ret ?_
  have hq := Option.some.inj h
  obtain ⟨hq0, hq⟩ := Prod.mk.inj hq
  obtain ⟨hq1, hq⟩ := Prod.mk.inj hq
  obtain ⟨hq2, hq⟩ := Prod.mk.inj hq
  subst q0
  subst q1
  subst q2
  subst q3
  exact bodyQ.pure (.inr rfl) rfl (Res.four rfl (RV.tmp rfl) (RV.tmp rfl) (RV.tmp rfl) (RV.tmp rfl))
 ·refine RunC.regionW ?_
  refine zM (r := oref 0 1 0 r1.length) rfl rfl rfl rfl rfl ?_
  refine zL (r := i64 ((r1.length : Nat) : Int)) rfl rfl rfl (LOp.len_oref und46 rfl rfl) ?_
  refine zL (r := b false) rfl rfl rfl (LOp.eqb (LOp.neq rfl rfl rfl) hc2) ?_
  refine zN ?_
  refine RunC.cond_false rfl rfl ?_
  refine RunC.skip ?_
  refine RunC.seq ?_
  obtain ⟨e2, he3, h⟩ := obind_some h
  obtain ⟨r3, r4, hf4, h⟩ := obind2_some h
  rcases bsel_some h with ⟨hc5, h⟩ | ⟨hc5, h⟩
  ·refine RunC.regionW ?_
   refine zM (r := oref 0 1 0 r1.length) rfl rfl rfl rfl rfl ?_
   refine ROps.d (r := optr 0 1 ((0 : Int).toNat)) (fs := []) (Γ' := [⟨1, some (r1.map str)⟩, ⟨0, none⟩]) rfl rfl rfl (TOp.ixo und46 siz9 rfl rfl rfl (at_in he3 rfl) rfl) rfl ?_
   refine ROps.d (r := str e2) (fs := []) (Γ' := [⟨1, some (r1.map str)⟩, ⟨0, none⟩]) rfl rfl rfl (TOp.load1_o rfl (at_cell he3) agg9 rfl rfl) rfl ?_
   refine ROps.d (r := tup [oref 1 1 0 r4.length, b r3]) (fs := [(1, (r4.map i64))]) (Γ' := [⟨1, some (r1.map str)⟩, ⟨1, some (r4.map i64)⟩]) rfl rfl rfl (TOp.callBN (ls := [(r4.map i64)]) [1] (CallAs.func ent51 rfl rfl) (Bors.cons (Bor.pure rfl) Bors.nil) rfl (s_l01Numbers_ok e2 r3 r4 hf4) (and_all (lts0_map (f := i64) (fun _ => rfl) _) rfl) (and_all (noss_map (f := i64) (fun _ => rfl) _) rfl) rfl (by decide) (ns_of ⟨⟨_, rfl⟩, trivial⟩)) rfl ?_
   refine zM (r := tup [oref 1 1 0 r4.length, b r3]) rfl rfl rfl rfl rfl ?_
   refine zL (r := oref 1 1 0 r4.length) rfl rfl rfl (LOp.extract rfl rfl rfl) ?_
   refine zL (r := b true) rfl rfl rfl (LOp.eqb (LOp.extract rfl rfl rfl) hc5) ?_
   refine zA (r := oref 1 1 0 r4.length) rfl rfl rfl rfl rfl ?_
   refine zA (r := b true) rfl rfl rfl rfl rfl ?_
   refine zN ?_
   refine RunC.wl (τ' := [(6, oref 0 1 0 r1.length), (7, oref 1 1 0 r4.length), (8, b true)]) (Γ' := [⟨1, some (r1.map str)⟩, ⟨1, some (r4.map i64)⟩]) ⟨aR, aR, aR, trivial⟩ ⟨⟨rfl, .inr rfl⟩, ⟨rfl, .inr rfl⟩, trivial⟩ ?_
   refine RunC.seq ?_
   refine RunC.seq ?_
   rcases bsel_some h with ⟨hc6, h⟩ | ⟨hc6, h⟩
   ·refine RunC.regionW ?_
    refine zM (r := b true) rfl rfl rfl rfl rfl ?_
    refine zL (r := b false) rfl rfl rfl (LOp.eqb (LOp.not rfl rfl) rfl) ?_
    refine zM (r := b false) rfl rfl rfl rfl rfl ?_
    refine zM (r := oref 1 1 0 r4.length) rfl rfl rfl rfl rfl ?_
    refine zL (r := i64 ((r4.length : Nat) : Int)) rfl rfl rfl (LOp.len_oref und60 rfl rfl) ?_
    refine zL (r := b true) rfl rfl rfl (LOp.eqb (LOp.neq rfl rfl rfl) hc6) ?_
    refine zL (r := b true) rfl rfl rfl (LOp.pick_false rfl rfl rfl) ?_
    refine zN ?_
    refine RunC.cond_true rfl rfl ?_
    refine zQ ?_
    refine zA (r := i64 0) rfl rfl rfl rfl rfl ?_
    refine zA (r := i64 0) rfl rfl rfl rfl rfl ?_
    refine zA (r := str lit_99ba06bc) rfl rfl rfl rfl rfl ?_
    refine zA (r := b false) rfl rfl rfl rfl rfl ?_
    refine zN ?_
    refine RunC.ret ?_
    have hq := Option.some.inj h
    obtain ⟨hq0, hq⟩ := Prod.mk.inj hq
    obtain ⟨hq1, hq⟩ := Prod.mk.inj hq
    obtain ⟨hq2, hq⟩ := Prod.mk.inj hq
    subst q0
    subst q1
    subst q2
    subst q3
    exact bodyQ.pure (.inr rfl) rfl (Res.four rfl (RV.tmp rfl) (RV.tmp rfl) (RV.tmp rfl) (RV.tmp rfl))
   ·refine RunC.regionW ?_
    refine zM (r := b true) rfl rfl rfl rfl rfl ?_
    refine zL (r := b false) rfl rfl rfl (LOp.eqb (LOp.not rfl rfl) rfl) ?_
    refine zM (r := b false) rfl rfl rfl rfl rfl ?_
    refine zM (r := oref 1 1 0 r4.length) rfl rfl rfl rfl rfl ?_
    refine zL (r := i64 ((r4.length : Nat) : Int)) rfl rfl rfl (LOp.len_oref und60 rfl rfl) ?_
    refine zL (r := b false) rfl rfl rfl (LOp.eqb (LOp.neq rfl rfl rfl) hc6) ?_
    refine zL (r := b false) rfl rfl rfl (LOp.pick_false rfl rfl rfl) ?_
    refine zN ?_
    refine RunC.cond_false rfl rfl ?_
    refine RunC.skip ?_
    refine RunC.seq ?_
    obtain ⟨e5, he7, h⟩ := obind_some h
    obtain ⟨e6, he8, h⟩ := obind_some h
    obtain ⟨e7, he9, h⟩ := obind_some h
    refine RunC.region_draw (Γ' := [⟨1, some (r1.map str)⟩, ⟨1, some (r4.map i64)⟩]) 13 mixed 
     (TR.l (r := oref 1 1 0 r4.length) rfl rfl (LOp.move rfl rfl) <|
     (TR.d (r := optr 1 1 ((0 : Int).toNat)) (fs := []) rfl rfl (TOp.ixo und60 siz2 rfl rfl rfl (at_in he7 rfl) rfl) <|
     (TR.d (r := i64 e5) (fs := []) rfl rfl (TOp.load1_o rfl (at_cell he7) agg2 rfl rfl) <|
     (TR.l (r := oref 1 1 0 r4.length) rfl rfl (LOp.move rfl rfl) <|
     (TR.d (r := optr 1 1 ((1 : Int).toNat)) (fs := []) rfl rfl (TOp.ixo und60 siz2 rfl rfl rfl (at_in he8 rfl) rfl) <|
     (TR.d (r := i64 e6) (fs := []) rfl rfl (TOp.load1_o rfl (at_cell he8) agg2 rfl rfl) <|
     (TR.l (r := oref 0 1 0 r1.length) rfl rfl (LOp.move rfl rfl) <|
     (TR.d (r := optr 0 1 ((1 : Int).toNat)) (fs := []) rfl rfl (TOp.ixo und46 siz9 rfl rfl rfl (at_in he9 rfl) rfl) <|
     (TR.d (r := str e7) (fs := []) rfl rfl (TOp.load1_o rfl (at_cell he9) agg9 rfl rfl) <|
     (TR.l (r := i64 e5) rfl rfl (LOp.assign rfl rfl) <|
     (TR.l (r := i64 e6) rfl rfl (LOp.assign rfl rfl) <|
     (TR.l (r := str e7) rfl rfl (LOp.assign rfl rfl) <|
     (TR.l (r := b true) rfl rfl (LOp.assign rfl rfl) <|
     TR.nil))))))))))))) rfl (by kernel_rfl) rfl fills_nil rfl ?_
    iterate 13 refine ROps.dropS ?_
    refine ROps.drop0 ?_
    refine zN ?_
    refine RunC.ret ?_
    have hq := Option.some.inj h
    obtain ⟨hq0, hq⟩ := Prod.mk.inj hq
    obtain ⟨hq1, hq⟩ := Prod.mk.inj hq
    obtain ⟨hq2, hq⟩ := Prod.mk.inj hq
    subst q0
    subst q1
    subst q2
    subst q3
    exact bodyQ.pure (.inr rfl) rfl (Res.four rfl (RV.tmp rfl) (RV.tmp rfl) (RV.tmp rfl) (RV.tmp rfl))
  ·refine RunC.regionW ?_
   refine zM (r := oref 0 1 0 r1.length) rfl rfl rfl rfl rfl ?_
   refine ROps.d (r := optr 0 1 ((0 : Int).toNat)) (fs := []) (Γ' := [⟨1, some (r1.map str)⟩, ⟨0, none⟩]) rfl rfl rfl (TOp.ixo und46 siz9 rfl rfl rfl (at_in he3 rfl) rfl) rfl ?_
   refine ROps.d (r := str e2) (fs := []) (Γ' := [⟨1, some (r1.map str)⟩, ⟨0, none⟩]) rfl rfl rfl (TOp.load1_o rfl (at_cell he3) agg9 rfl rfl) rfl ?_
   refine ROps.d (r := tup [oref 1 1 0 r4.length, b r3]) (fs := [(1, (r4.map i64))]) (Γ' := [⟨1, some (r1.map str)⟩, ⟨1, some (r4.map i64)⟩]) rfl rfl rfl (TOp.callBN (ls := [(r4.map i64)]) [1] (CallAs.func ent51 rfl rfl) (Bors.cons (Bor.pure rfl) Bors.nil) rfl (s_l01Numbers_ok e2 r3 r4 hf4) (and_all (lts0_map (f := i64) (fun _ => rfl) _) rfl) (and_all (noss_map (f := i64) (fun _ => rfl) _) rfl) rfl (by decide) (ns_of ⟨⟨_, rfl⟩, trivial⟩)) rfl ?_
   refine zM (r := tup [oref 1 1 0 r4.length, b r3]) rfl rfl rfl rfl rfl ?_
   refine zL (r := oref 1 1 0 r4.length) rfl rfl rfl (LOp.extract rfl rfl rfl) ?_
   refine zL (r := b false) rfl rfl rfl (LOp.eqb (LOp.extract rfl rfl rfl) hc5) ?_
   refine zA (r := oref 1 1 0 r4.length) rfl rfl rfl rfl rfl ?_
   refine zA (r := b false) rfl rfl rfl rfl rfl ?_
   refine zN ?_
   refine RunC.wl (τ' := [(6, oref 0 1 0 r1.length), (7, oref 1 1 0 r4.length), (8, b false)]) (Γ' := [⟨1, some (r1.map str)⟩, ⟨1, some (r4.map i64)⟩]) ⟨aR, aR, aR, trivial⟩ ⟨⟨rfl, .inr rfl⟩, ⟨rfl, .inr rfl⟩, trivial⟩ ?_
   refine RunC.seq ?_
   refine zQ ?_
   refine zM (r := b false) rfl rfl rfl rfl rfl ?_
   refine zL (r := b true) rfl rfl rfl (LOp.eqb (LOp.not rfl rfl) rfl) ?_
   refine zM (r := b true) rfl rfl rfl rfl rfl ?_
   refine ROps.s rfl rfl rfl ?_
   refine ROps.s rfl rfl rfl ?_
   refine ROps.s rfl rfl rfl ?_
   refine zL (r := b true) rfl rfl rfl (LOp.pick_true rfl rfl rfl) ?_
   refine zN ?_
   refine RunC.cond_true rfl rfl ?_
   refine zQ ?_
   refine zA (r := i64 0) rfl rfl rfl rfl rfl ?_
   refine zA (r := i64 0) rfl rfl rfl rfl rfl ?_
   refine zA (r := str lit_99ba06bc) rfl rfl rfl rfl rfl ?_
   refine zA (r := b false) rfl rfl rfl rfl rfl ?_
   refine zN ?_
   refine RunC.ret ?_
   have hq := Option.some.inj h
   obtain ⟨hq0, hq⟩ := Prod.mk.inj hq
   obtain ⟨hq1, hq⟩ := Prod.mk.inj hq
   obtain ⟨hq2, hq⟩ := Prod.mk.inj hq
   subst q0
   subst q1
   subst q2
   subst q3
   exact bodyQ.pure (.inr rfl) rfl (Res.four rfl (RV.tmp rfl) (RV.tmp rfl) (RV.tmp rfl) (RV.tmp rfl))
noncomputable def s_l01From (a0 : Int) : Option (F) :=
 olet (IntKind.u32.wrap a0) fun (x1 : Int) =>
 need ((decide (0 ≤ x1) && decide (x1.toNat < 2 ^ FloatKind.f32.format.width))) <|
 some (ffb .f32 x1)
theorem s_l01From_ok (a0 : Int) (q0 : F) (h : s_l01From a0 = some q0) : Ev Tryz.prog 39 [i64 a0] [] (f32 q0) [] := by
 refine Ev.start Tryz.func39 rfl rfl 0 (τ := [(0, i64 a0)]) rfl (Γ' := []) rfl (n := 13) rfl (g := 0) rfl (fun _ => rfl) ?_
 unfold s_l01From at h
 refine zQ ?_
 refine zL (r := f32 (some 0)) rfl rfl rfl (LOp.le (LOp.assign rfl rfl) (ALe.fl (by kernel_rfl) (by kernel_rfl))) ?_
 refine zN ?_
 refine RunC.seq ?_
 obtain ⟨x1, hx1, h⟩ := olet_some h
 obtain ⟨hz2, h⟩ := need_some h
 refine RunC.regionW ?_
 refine zM (r := i64 a0) rfl rfl rfl rfl rfl ?_
 refine zL (r := ik .u32 x1) rfl rfl rfl (LOp.eqr (LOp.i2i (src := 2) (dst := 75) ⟨_, pun2⟩ pun75 rfl rfl) (congrArg (ik .u32) hx1)) ?_
 refine zL (r := f32 (ffb .f32 x1)) rfl rfl rfl (LOp.ffromx ext45 rfl rfl hz2) ?_
 refine zA (r := f32 (ffb .f32 x1)) rfl rfl rfl rfl rfl ?_
 refine zN ?_
 refine RunC.ret ?_
 have hq := Option.some.inj h
 subst q0
 exact bodyQ.pure (.inr rfl) rfl (Res.one rfl (RV.tmp rfl))
noncomputable def s_l01Bits (a0 : F) : Option (Int) :=
 bsel (!feq .f32 a0 a0) (
  some 2143289344) (
  obind (a0) fun (b1 : Nat) =>
  olet (IntKind.i64.wrap (b1 : Int)) fun (x2 : Int) =>
  some x2)
theorem s_l01Bits_ok (a0 : F) (q0 : Int) (h : s_l01Bits a0 = some q0) : Ev Tryz.prog 40 [f32 a0] [] (i64 q0) [] := by
 refine Ev.start Tryz.func40 rfl rfl 0 (τ := [(0, f32 a0)]) rfl (Γ' := []) rfl (n := 19) rfl (g := 0) rfl (fun _ => rfl) ?_
 unfold s_l01Bits at h
 refine zQ ?_
 refine zA (r := i64 0) rfl rfl rfl rfl rfl ?_
 refine zN ?_
 refine RunC.seq ?_
 refine RunC.seq ?_
 rcases bsel_some h with ⟨hc1, h⟩ | ⟨hc1, h⟩
 ·refine RunC.regionW ?_
  refine zM (r := f32 a0) rfl rfl rfl rfl rfl ?_
  refine zM (r := f32 a0) rfl rfl rfl rfl rfl ?_
  refine zL (r := b true) rfl rfl rfl (LOp.eqb (LOp.fne rfl (OpF.tmp rfl) (OpF.tmp rfl)) hc1) ?_
  refine zN ?_
  refine RunC.cond_true rfl rfl ?_
  refine zQ ?_
  refine zA (r := i64 2143289344) rfl rfl rfl rfl rfl ?_
  refine zN ?_
  refine RunC.ret ?_
  have hq := Option.some.inj h
  subst q0
  exact bodyQ.pure (.inr rfl) rfl (Res.one rfl (RV.tmp rfl))
 ·refine RunC.regionW ?_
  refine zM (r := f32 a0) rfl rfl rfl rfl rfl ?_
  refine zM (r := f32 a0) rfl rfl rfl rfl rfl ?_
  refine zL (r := b false) rfl rfl rfl (LOp.eqb (LOp.fne rfl (OpF.tmp rfl) (OpF.tmp rfl)) hc1) ?_
  refine zN ?_
  refine RunC.cond_false rfl rfl ?_
  refine RunC.skip ?_
  refine RunC.seq ?_
  obtain ⟨b1, he2, h⟩ := obind_some h
  obtain ⟨x2, hx3, h⟩ := olet_some h
  refine RunC.regionW ?_
  refine zM (r := f32 a0) rfl rfl rfl rfl rfl ?_
  refine zL (r := ik .u32 (b1 : Int)) rfl rfl rfl (LOp.fbx ext54 rfl (OpF.tmp rfl) he2) ?_
  refine zL (r := i64 x2) rfl rfl rfl (LOp.eqr (LOp.i2i (src := 75) (dst := 2) ⟨_, pun75⟩ pun2 rfl rfl) (congrArg (ik .i64) hx3)) ?_
  refine zA (r := i64 x2) rfl rfl rfl rfl rfl ?_
  refine zN ?_
  refine RunC.ret ?_
  have hq := Option.some.inj h
  subst q0
  exact bodyQ.pure (.inr rfl) rfl (Res.one rfl (RV.tmp rfl))
noncomputable def s_l01NRead_k9 (v7 : Int) (v8 : Int) (v17 : Int) : Option (LR (Int × Int) (Int) (Bool × (List F))) :=
 bsel (decide (v17 < 0)) (
  some (LR.ret (false, ([] : List F)))) (
  olet (IntKind.i64.wrap (16 * v7)) fun (x18 : Int) =>
  olet (IntKind.i64.wrap (x18 + v17)) fun (x19 : Int) =>
  olet (IntKind.i64.wrap (v8 + 1)) fun (x20 : Int) =>
  some (LR.next (x19, x20)))
noncomputable def s_l01NRead_k8 (v7 : Int) (v8 : Int) (e10 : Int) (v13 : Int) : Option (LR (Int × Int) (Int) (Bool × (List F))) :=
 bsel (decide (97 ≤ e10)) (
  bsel (decide (e10 ≤ 102)) (
   olet (IntKind.u8.wrap (e10 - 97)) fun (x14 : Int) =>
   olet (IntKind.i64.wrap x14) fun (x15 : Int) =>
   olet (IntKind.i64.wrap (x15 + 10)) fun (x16 : Int) =>
   s_l01NRead_k9 v7 v8 x16) (
   s_l01NRead_k9 v7 v8 v13)) (
  s_l01NRead_k9 v7 v8 v13)
noncomputable def s_l01NRead_b10 (r1 : List ByteArray) (v5 : Int) (v7 : Int) (v8 : Int) : Option (LR (Int × Int) (Int) (Bool × (List F))) :=
 bsel (decide (v8 < 8)) (
  obind (at? r1 v5) fun (e9 : ByteArray) =>
  obind (sat? e9 v8) fun (e10 : Int) =>
  bsel (decide (48 ≤ e10)) (
   bsel (decide (e10 ≤ 57)) (
    olet (IntKind.u8.wrap (e10 - 48)) fun (x11 : Int) =>
    olet (IntKind.i64.wrap x11) fun (x12 : Int) =>
    s_l01NRead_k8 v7 v8 e10 x12) (
    s_l01NRead_k8 v7 v8 e10 (-1))) (
   s_l01NRead_k8 v7 v8 e10 (-1))) (
  some (LR.out v7))
noncomputable def s_l01NRead_s10 (r1 : List ByteArray) (v5 : Int) : (Int × Int) → Option (LR (Int × Int) (Int) (Bool × (List F))) := fun s => s_l01NRead_b10 r1 v5 s.1 s.2
noncomputable def s_l01NRead_k10 (L4 : List F) (v5 : Int) (v21 : Int) : Option (LR ((List F) × Int) ((List F)) (Bool × (List F))) :=
 obind (s_l01From v21) fun (r22 : F) =>
 obind (s_l01Bits r22) fun (r23 : Int) =>
 bsel (!decide (r23 = v21)) (
  some (LR.ret (false, ([] : List F)))) (
  need (apok 4 L4.length 1) <|
  olet (IntKind.i64.wrap (v5 + 1)) fun (x24 : Int) =>
  some (LR.next ((L4 ++ ([r22] : List F)), x24)))
noncomputable def s_l01NRead_b11 (r1 : List ByteArray) (L4 : List F) (v5 : Int) : Option (LR ((List F) × Int) ((List F)) (Bool × (List F))) :=
 bsel (decide (v5 < ((r1.length : Nat) : Int))) (
  obind (at? r1 v5) fun (e6 : ByteArray) =>
  bsel (!decide ((e6.size : Int) = 8)) (
   some (LR.ret (false, ([] : List F)))) (
   obind (loopM (s_l01NRead_s10 r1 v5) (0, 0)) fun z => osum z (fun e => s_l01NRead_k10 L4 v5 e) (fun r => some (LR.ret r)))) (
  some (LR.out L4))
noncomputable def s_l01NRead_s11 (r1 : List ByteArray) : ((List F) × Int) → Option (LR ((List F) × Int) ((List F)) (Bool × (List F))) := fun s => s_l01NRead_b11 r1 s.1 s.2
noncomputable def s_l01NRead_k11 (L27 : List F) : Option (Bool × (List F)) :=
 some (true, L27)
noncomputable def s_l01NRead (a0 : ByteArray) : Option (Bool × (List F)) :=
 bsel (eqs a0 lit_5ac87db9) (
  some (true, ([] : List F))) (
  obind (s_l01Cut a0 44) fun (r1 : List ByteArray) =>
  bsel (decide (256 < ((r1.length : Nat) : Int))) (
   some (false, ([] : List F))) (
   obind (loopM (s_l01NRead_s11 r1) (([] : List F), 0)) fun z => osum z (fun e => s_l01NRead_k11 e) (fun r => some r)))
theorem s_l01NRead_ok (a0 : ByteArray) (q0 : Bool) (q1 : List F) (h : s_l01NRead a0 = some (q0, q1)) : Ev Tryz.prog 26 [str a0] [] (tup [oref 0 0 0 q1.length, b q0]) [⟨0, some (q1.map f32)⟩] := by
 refine Ev.start Tryz.func26 rfl rfl 3 (τ := [(0, str a0)]) rfl (Γ' := [⟨0, none⟩, ⟨0, none⟩, ⟨0, none⟩]) rfl (n := 159) rfl (g := 0) rfl (fun _ => rfl) ?_
 unfold s_l01NRead at h
 refine zQ ?_
 refine zA (r := nilsl) rfl rfl rfl rfl rfl ?_
 refine zA (r := b false) rfl rfl rfl rfl rfl ?_
 refine zN ?_
 refine zQ ?_
 refine ROps.d (r := oref 0 1 0 0) (fs := [(0, (([] : List F).map f32))]) (Γ' := [⟨1, some (([] : List F).map f32)⟩, ⟨0, none⟩, ⟨0, none⟩]) rfl rfl rfl (TOp.buildSlice_o (g := ⟨0, none⟩) (za := f32 (some 0)) (qs := []) 0 rfl und22 siz51 zer51 rfl zel51 rfl rfl trivial rfl) rfl ?_
 refine zA (r := oref 0 1 0 0) rfl rfl rfl rfl rfl ?_
 refine zN ?_
 refine RunC.seq ?_
 refine RunC.seq ?_
 rcases bsel_some h with ⟨hc1, h⟩ | ⟨hc1, h⟩
 ·refine RunC.regionW ?_
  refine zM (r := str a0) rfl rfl rfl rfl rfl ?_
  refine zL (r := b true) rfl rfl rfl (LOp.eqb (LOp.eqs rfl rfl rfl) hc1) ?_
  refine zN ?_
  refine RunC.cond_true rfl rfl ?_
  refine zQ ?_
  refine zM (r := oref 0 1 0 0) rfl rfl rfl rfl rfl ?_
  refine zA (r := oref 0 1 0 0) rfl rfl rfl rfl rfl ?_
  refine zA (r := b true) rfl rfl rfl rfl rfl ?_
  refine zN ?_
  refine RunC.ret ?_
  have hq := Option.some.inj h
  obtain ⟨hq0, hq⟩ := Prod.mk.inj hq
  subst q0
  subst q1
  exact bodyQ.mk (r' := tup [oref 0 1 0 (([] : List F).length), b true]) [(0, 1)] (.inr rfl) rfl (show List.Nodup [0] from by decide) rfl rfl (Res.eq (Res.two rfl (RV.tmp rfl) (RV.tmp rfl)) (by rw [(show ([] : List F).length = 0 from rfl)] <;> rfl)) (SelL.arr0 (f := f32) (fun _ => rfl) rfl trivial)
 ·refine RunC.regionW ?_
  refine zM (r := str a0) rfl rfl rfl rfl rfl ?_
  refine zL (r := b false) rfl rfl rfl (LOp.eqb (LOp.eqs rfl rfl rfl) hc1) ?_
  refine zN ?_
  refine RunC.cond_false rfl rfl ?_
  refine RunC.skip ?_
  refine RunC.seq ?_
  obtain ⟨r1, hf2, h⟩ := obind_some h
  refine RunC.regionW ?_
  refine zM (r := str a0) rfl rfl rfl rfl rfl ?_
  refine ROps.d (r := oref 1 1 0 r1.length) (fs := [(1, (r1.map str))]) (Γ' := [⟨1, some (([] : List F).map f32)⟩, ⟨1, some (r1.map str)⟩, ⟨0, none⟩]) rfl rfl rfl (TOp.callBN (ls := [(r1.map str)]) [1] (CallAs.func ent25 rfl rfl) (Bors.cons (Bor.pure rfl) (Bors.cons (Bor.pure rfl) Bors.nil)) rfl (s_l01Cut_ok a0 44 r1 hf2) (and_all (lts0_map (f := str) (fun _ => rfl) _) rfl) (and_all (noss_map (f := str) (fun _ => rfl) _) rfl) rfl (by decide) (ns_of ⟨⟨_, rfl⟩, trivial⟩)) rfl ?_
  refine zA (r := oref 1 1 0 r1.length) rfl rfl rfl rfl rfl ?_
  refine zN ?_
  refine RunC.seq ?_
  refine RunC.seq ?_
  rcases bsel_some h with ⟨hc3, h⟩ | ⟨hc3, h⟩
  ·refine RunC.regionW ?_
   refine zM (r := oref 1 1 0 r1.length) rfl rfl rfl rfl rfl ?_
   refine zL (r := i64 ((r1.length : Nat) : Int)) rfl rfl rfl (LOp.len_oref und46 rfl rfl) ?_
   refine zL (r := b true) rfl rfl rfl (LOp.eqb (LOp.gtr rfl rfl rfl) hc3) ?_
   refine zN ?_
   refine RunC.cond_true rfl rfl ?_
   refine zQ ?_
   refine zA (r := nilsl) rfl rfl rfl rfl rfl ?_
   refine zA (r := b false) rfl rfl rfl rfl rfl ?_
   refine zN ?_
   refine RunC.nil_slot (Γ' := [⟨1, some (([] : List F).map f32)⟩, ⟨1, some (r1.map str)⟩, ⟨1, some (([] : List F).map f32)⟩]) 2 2 rfl rfl rfl ?_
   refine RunC.ret ?_
   have hq := Option.some.inj h
   obtain ⟨hq0, hq⟩ := Prod.mk.inj hq
   subst q0
   subst q1
   exact bodyQ.mk (r' := tup [oref 2 1 0 (([] : List F).length), b false]) [(2, 1)] (.inr rfl) rfl (show List.Nodup [2] from by decide) rfl rfl (Res.eq (Res.two rfl (RV.tmp rfl) (RV.tmp rfl)) (by rw [(show ([] : List F).length = 0 from rfl)] <;> rfl)) (SelL.arr0 (f := f32) (fun _ => rfl) rfl trivial)
  ·refine RunC.regionW ?_
   refine zM (r := oref 1 1 0 r1.length) rfl rfl rfl rfl rfl ?_
   refine zL (r := i64 ((r1.length : Nat) : Int)) rfl rfl rfl (LOp.len_oref und46 rfl rfl) ?_
   refine zL (r := b false) rfl rfl rfl (LOp.eqb (LOp.gtr rfl rfl rfl) hc3) ?_
   refine zN ?_
   refine RunC.cond_false rfl rfl ?_
   refine RunC.skip ?_
   refine RunC.seq ?_
   refine zQ ?_
   refine zA (r := i64 0) rfl rfl rfl rfl rfl ?_
   refine zN ?_
   obtain ⟨z12, hz_12, h⟩ := obind_some h
   refine RunC.cutN (fun τ Γ => ∃ (L27 : List F) (u25 : Nat) (u26 : Nat), WeakLe τ [(4, oref 0 u25 0 L27.length)] ∧ DeadLe Γ [⟨u25, some (L27.map f32)⟩, ⟨1, none⟩, ⟨u26, none⟩] ∧ z12 = .inl L27) ?_ ?_
   ·refine RunC.block (RunC.loop (RunL.loopM (x := z12) (s_l01NRead_s11 r1) (fun (s : (List F) × Int) τ Γ => ∃ (u2 : Nat) (u3 : Nat), WeakLe τ [(4, oref 0 u2 0 s.1.length), (5, oref 1 1 0 r1.length), (6, i64 s.2)] ∧ DeadLe Γ [⟨u2, some (s.1.map f32)⟩, ⟨1, some (r1.map str)⟩, ⟨u3, none⟩]) ?_ _ _ _ hz_12 ⟨1, 0, ⟨aR, aR, aR, trivial⟩, ⟨⟨rfl, .inr rfl⟩, ⟨rfl, .inr rfl⟩, ⟨rfl, .inl rfl⟩, trivial⟩⟩))
    rintro ⟨L4, v5⟩ τ12 Γ12 y12_ ⟨u2, u3, hw12, hd12⟩ h12_ ho12 hr12
    refine RunC.wl (τ' := [(4, oref 0 u2 0 L4.length), (5, oref 1 1 0 r1.length), (6, i64 v5)]) (Γ' := [⟨u2, some (L4.map f32)⟩, ⟨1, some (r1.map str)⟩, ⟨u3, none⟩]) hw12 hd12 ?_
    replace h12_ : s_l01NRead_b11 r1 L4 v5 = some y12_ := h12_
    unfold s_l01NRead_b11 at h12_
    refine RunC.seq ?_
    refine RunC.seq ?_
    rcases bsel_some h12_ with ⟨hc4, h12_⟩ | ⟨hc4, h12_⟩
    ·refine RunC.regionW ?_
     refine zM (r := i64 v5) rfl rfl rfl rfl rfl ?_
     refine zM (r := oref 1 1 0 r1.length) rfl rfl rfl rfl rfl ?_
     refine zL (r := i64 ((r1.length : Nat) : Int)) rfl rfl rfl (LOp.len_oref und46 rfl rfl) ?_
     refine zL (r := b true) rfl rfl rfl (LOp.eqb (LOp.lss rfl rfl rfl) hc4) ?_
     refine zN ?_
     refine RunC.cond_true rfl rfl ?_
     refine RunC.skip ?_
     refine RunC.seq ?_
     refine RunC.block ?_
     refine RunC.seq ?_
     refine RunC.seq ?_
     obtain ⟨e6, he5, h12_⟩ := obind_some h12_
     rcases bsel_some h12_ with ⟨hc6, h12_⟩ | ⟨hc6, h12_⟩
     ·refine RunC.regionW ?_
      refine zM (r := oref 1 1 0 r1.length) rfl rfl rfl rfl rfl ?_
      refine zM (r := i64 v5) rfl rfl rfl rfl rfl ?_
      refine ROps.d (r := optr 1 1 v5.toNat) (fs := []) (Γ' := [⟨u2, some (L4.map f32)⟩, ⟨1, some (r1.map str)⟩, ⟨u3, none⟩]) rfl rfl rfl (TOp.ixo und46 siz9 rfl rfl rfl (at_in he5 rfl) rfl) rfl ?_
      refine ROps.d (r := str e6) (fs := []) (Γ' := [⟨u2, some (L4.map f32)⟩, ⟨1, some (r1.map str)⟩, ⟨u3, none⟩]) rfl rfl rfl (TOp.load1_o rfl (at_cell he5) agg9 rfl rfl) rfl ?_
      refine zL (r := i64 (e6.size : Int)) rfl rfl rfl (LOp.len_str und9 rfl rfl) ?_
      refine zL (r := b true) rfl rfl rfl (LOp.eqb (LOp.neq rfl rfl rfl) hc6) ?_
      refine zN ?_
      refine RunC.cond_true rfl rfl ?_
      refine zQ ?_
      refine zA (r := nilsl) rfl rfl rfl rfl rfl ?_
      refine zA (r := b false) rfl rfl rfl rfl rfl ?_
      refine zN ?_
      refine RunC.nil_slot (Γ' := [⟨u2, some (L4.map f32)⟩, ⟨1, some (r1.map str)⟩, ⟨(u3 + 1), some (([] : List F).map f32)⟩]) 2 2 rfl rfl rfl ?_
      refine RunC.ret ?_
      cases Option.some.inj h12_
      have hx13_ := hr12 _ rfl
      subst hx13_
      have hq := Option.some.inj h
      obtain ⟨hq0, hq⟩ := Prod.mk.inj hq
      subst q0
      subst q1
      exact bodyQ.mk (r' := tup [oref 2 (u3 + 1) 0 (([] : List F).length), b false]) [(2, (u3 + 1))] (.inr rfl) rfl (show List.Nodup [2] from by decide) (by simp [ren, rens, sigma]) rfl (Res.eq (Res.two rfl (RV.tmp rfl) (RV.tmp rfl)) (by rw [(show ([] : List F).length = 0 from rfl)] <;> rfl)) (SelL.arr0 (f := f32) (fun _ => rfl) rfl trivial)
     ·refine RunC.regionW ?_
      refine zM (r := oref 1 1 0 r1.length) rfl rfl rfl rfl rfl ?_
      refine zM (r := i64 v5) rfl rfl rfl rfl rfl ?_
      refine ROps.d (r := optr 1 1 v5.toNat) (fs := []) (Γ' := [⟨u2, some (L4.map f32)⟩, ⟨1, some (r1.map str)⟩, ⟨u3, none⟩]) rfl rfl rfl (TOp.ixo und46 siz9 rfl rfl rfl (at_in he5 rfl) rfl) rfl ?_
      refine ROps.d (r := str e6) (fs := []) (Γ' := [⟨u2, some (L4.map f32)⟩, ⟨1, some (r1.map str)⟩, ⟨u3, none⟩]) rfl rfl rfl (TOp.load1_o rfl (at_cell he5) agg9 rfl rfl) rfl ?_
      refine zL (r := i64 (e6.size : Int)) rfl rfl rfl (LOp.len_str und9 rfl rfl) ?_
      refine zL (r := b false) rfl rfl rfl (LOp.eqb (LOp.neq rfl rfl rfl) hc6) ?_
      refine zN ?_
      refine RunC.cond_false rfl rfl ?_
      refine RunC.skip ?_
      refine zQ ?_
      refine zA (r := i64 0) rfl rfl rfl rfl rfl ?_
      refine zN ?_
      refine RunC.seq ?_
      refine zQ ?_
      refine zA (r := i64 0) rfl rfl rfl rfl rfl ?_
      refine zN ?_
      obtain ⟨z14, hz_14, h12_⟩ := obind_some h12_
      refine RunC.cutN (fun τ Γ => ∃ (v21 : Int), WeakLe τ [(4, oref 0 u2 0 L4.length), (5, oref 1 1 0 r1.length), (6, i64 v5), (7, i64 v21)] ∧ DeadLe Γ [⟨u2, some (L4.map f32)⟩, ⟨1, some (r1.map str)⟩, ⟨u3, none⟩] ∧ z14 = .inl v21) ?_ ?_
      ·refine RunC.block (RunC.loop (RunL.loopM (x := z14) (s_l01NRead_s10 r1 v5) (fun (s : Int × Int) τ Γ => WeakLe τ [(4, oref 0 u2 0 L4.length), (5, oref 1 1 0 r1.length), (6, i64 v5), (7, i64 s.1), (8, i64 s.2)] ∧ DeadLe Γ [⟨u2, some (L4.map f32)⟩, ⟨1, some (r1.map str)⟩, ⟨u3, none⟩]) ?_ _ _ _ hz_14 ⟨⟨aR, aR, aR, aR, aR, trivial⟩, ⟨⟨rfl, .inr rfl⟩, ⟨rfl, .inr rfl⟩, ⟨rfl, .inl rfl⟩, trivial⟩⟩))
       rintro ⟨v7, v8⟩ τ14 Γ14 y14_ ⟨hw14, hd14⟩ h14_ ho14 hr14
       refine RunC.wl (τ' := [(4, oref 0 u2 0 L4.length), (5, oref 1 1 0 r1.length), (6, i64 v5), (7, i64 v7), (8, i64 v8)]) (Γ' := [⟨u2, some (L4.map f32)⟩, ⟨1, some (r1.map str)⟩, ⟨u3, none⟩]) hw14 hd14 ?_
       replace h14_ : s_l01NRead_b10 r1 v5 v7 v8 = some y14_ := h14_
       unfold s_l01NRead_b10 at h14_
       refine RunC.seq ?_
       refine RunC.seq ?_
       rcases bsel_some h14_ with ⟨hc7, h14_⟩ | ⟨hc7, h14_⟩
       ·refine RunC.regionW ?_
        refine zM (r := i64 v8) rfl rfl rfl rfl rfl ?_
        refine zL (r := b true) rfl rfl rfl (LOp.eqb (LOp.lss rfl rfl rfl) hc7) ?_
        refine zN ?_
        refine RunC.cond_true rfl rfl ?_
        refine RunC.skip ?_
        refine RunC.seq ?_
        refine RunC.block ?_
        refine RunC.seq ?_
        obtain ⟨e9, he8, h14_⟩ := obind_some h14_
        obtain ⟨e10, he9, h14_⟩ := obind_some h14_
        refine RunC.regionW ?_
        refine zM (r := oref 1 1 0 r1.length) rfl rfl rfl rfl rfl ?_
        refine zM (r := i64 v5) rfl rfl rfl rfl rfl ?_
        refine ROps.d (r := optr 1 1 v5.toNat) (fs := []) (Γ' := [⟨u2, some (L4.map f32)⟩, ⟨1, some (r1.map str)⟩, ⟨u3, none⟩]) rfl rfl rfl (TOp.ixo und46 siz9 rfl rfl rfl (at_in he8 rfl) rfl) rfl ?_
        refine ROps.d (r := str e9) (fs := []) (Γ' := [⟨u2, some (L4.map f32)⟩, ⟨1, some (r1.map str)⟩, ⟨u3, none⟩]) rfl rfl rfl (TOp.load1_o rfl (at_cell he8) agg9 rfl rfl) rfl ?_
        refine zM (r := i64 v8) rfl rfl rfl rfl rfl ?_
        refine zL (r := ik .u8 e10) rfl rfl rfl (LOp.index_str und9 rfl rfl rfl he9) ?_
        refine zA (r := ik .u8 e10) rfl rfl rfl rfl rfl ?_
        refine zN ?_
        refine zQ ?_
        refine zA (r := i64 (-1)) rfl rfl rfl rfl rfl ?_
        refine zN ?_
        refine RunC.seq ?_
        refine RunC.cutN (fun τ Γ => ∃ (v13 : Int), WeakLe τ [(4, oref 0 u2 0 L4.length), (5, oref 1 1 0 r1.length), (6, i64 v5), (7, i64 v7), (8, i64 v8), (9, ik .u8 e10), (10, i64 v13)] ∧ DeadLe Γ [⟨u2, some (L4.map f32)⟩, ⟨1, some (r1.map str)⟩, ⟨u3, none⟩] ∧ s_l01NRead_k8 v7 v8 e10 v13 = some y14_) ?_ ?_
        ·refine RunC.seq ?_
         rcases bsel_some h14_ with ⟨hc10, h14_⟩ | ⟨hc10, h14_⟩
         ·rcases bsel_some h14_ with ⟨hc11, h14_⟩ | ⟨hc11, h14_⟩
          ·refine RunC.regionW ?_
           refine zM (r := ik .u8 e10) rfl rfl rfl rfl rfl ?_
           refine zL (r := b true) rfl rfl rfl (LOp.eqb (LOp.geq rfl rfl rfl) hc10) ?_
           refine zM (r := b true) rfl rfl rfl rfl rfl ?_
           refine zM (r := ik .u8 e10) rfl rfl rfl rfl rfl ?_
           refine zL (r := b true) rfl rfl rfl (LOp.eqb (LOp.leq rfl rfl rfl) hc11) ?_
           refine zL (r := b true) rfl rfl rfl (LOp.pick_true rfl rfl rfl) ?_
           refine zN ?_
           refine RunC.cond_true rfl rfl ?_
           obtain ⟨x11, hx12, h14_⟩ := olet_some h14_
           obtain ⟨x12, hx13, h14_⟩ := olet_some h14_
           refine RunC.regionW ?_
           refine zM (r := ik .u8 e10) rfl rfl rfl rfl rfl ?_
           refine zL (r := ik .u8 x11) rfl rfl rfl (LOp.eqr (LOp.sub rfl rfl rfl) (congrArg (ik .u8) hx12)) ?_
           refine zL (r := i64 x12) rfl rfl rfl (LOp.eqr (LOp.i2i (src := 5) (dst := 2) ⟨_, pun5⟩ pun2 rfl rfl) (congrArg (ik .i64) hx13)) ?_
           refine zA (r := i64 x12) rfl rfl rfl rfl rfl ?_
           refine zN ?_
           exact ⟨x12, ⟨aR, aR, aR, aR, aR, aR, aR, trivial⟩, ⟨⟨rfl, .inr rfl⟩, ⟨rfl, .inr rfl⟩, ⟨rfl, .inl rfl⟩, trivial⟩, h14_⟩
          ·refine RunC.regionW ?_
           refine zM (r := ik .u8 e10) rfl rfl rfl rfl rfl ?_
           refine zL (r := b true) rfl rfl rfl (LOp.eqb (LOp.geq rfl rfl rfl) hc10) ?_
           refine zM (r := b true) rfl rfl rfl rfl rfl ?_
           refine zM (r := ik .u8 e10) rfl rfl rfl rfl rfl ?_
           refine zL (r := b false) rfl rfl rfl (LOp.eqb (LOp.leq rfl rfl rfl) hc11) ?_
           refine zL (r := b false) rfl rfl rfl (LOp.pick_true rfl rfl rfl) ?_
           refine zN ?_
           refine RunC.cond_false rfl rfl ?_
           refine RunC.skip ?_
           exact ⟨(-1), ⟨aR, aR, aR, aR, aR, aR, aR, trivial⟩, ⟨⟨rfl, .inr rfl⟩, ⟨rfl, .inr rfl⟩, ⟨rfl, .inl rfl⟩, trivial⟩, h14_⟩
         ·refine RunC.regionW ?_
          refine zM (r := ik .u8 e10) rfl rfl rfl rfl rfl ?_
          refine zL (r := b false) rfl rfl rfl (LOp.eqb (LOp.geq rfl rfl rfl) hc10) ?_
          refine zM (r := b false) rfl rfl rfl rfl rfl ?_
          refine ROps.s rfl rfl rfl ?_
          refine ROps.s rfl rfl rfl ?_
          refine zL (r := b false) rfl rfl rfl (LOp.pick_false rfl rfl rfl) ?_
          refine zN ?_
          refine RunC.cond_false rfl rfl ?_
          refine RunC.skip ?_
          exact ⟨(-1), ⟨aR, aR, aR, aR, aR, aR, aR, trivial⟩, ⟨⟨rfl, .inr rfl⟩, ⟨rfl, .inr rfl⟩, ⟨rfl, .inl rfl⟩, trivial⟩, h14_⟩
        ·rintro τ15 Γ15 ⟨v13, hw15, hd15, h14_⟩
         refine RunC.wl hw15 hd15 ?_
         unfold s_l01NRead_k8 at h14_
         refine RunC.seq ?_
         refine RunC.cutN (fun τ Γ => ∃ (v17 : Int), WeakLe τ [(4, oref 0 u2 0 L4.length), (5, oref 1 1 0 r1.length), (6, i64 v5), (7, i64 v7), (8, i64 v8), (10, i64 v17)] ∧ DeadLe Γ [⟨u2, some (L4.map f32)⟩, ⟨1, some (r1.map str)⟩, ⟨u3, none⟩] ∧ s_l01NRead_k9 v7 v8 v17 = some y14_) ?_ ?_
         ·refine RunC.seq ?_
          rcases bsel_some h14_ with ⟨hc14, h14_⟩ | ⟨hc14, h14_⟩
          ·rcases bsel_some h14_ with ⟨hc15, h14_⟩ | ⟨hc15, h14_⟩
           ·refine RunC.regionW ?_
            refine zM (r := ik .u8 e10) rfl rfl rfl rfl rfl ?_
            refine zL (r := b true) rfl rfl rfl (LOp.eqb (LOp.geq rfl rfl rfl) hc14) ?_
            refine zM (r := b true) rfl rfl rfl rfl rfl ?_
            refine zM (r := ik .u8 e10) rfl rfl rfl rfl rfl ?_
            refine zL (r := b true) rfl rfl rfl (LOp.eqb (LOp.leq rfl rfl rfl) hc15) ?_
            refine zL (r := b true) rfl rfl rfl (LOp.pick_true rfl rfl rfl) ?_
            refine zN ?_
            refine RunC.cond_true rfl rfl ?_
            obtain ⟨x14, hx16, h14_⟩ := olet_some h14_
            obtain ⟨x15, hx17, h14_⟩ := olet_some h14_
            obtain ⟨x16, hx18, h14_⟩ := olet_some h14_
            refine RunC.regionW ?_
            refine zM (r := ik .u8 e10) rfl rfl rfl rfl rfl ?_
            refine zL (r := ik .u8 x14) rfl rfl rfl (LOp.eqr (LOp.sub rfl rfl rfl) (congrArg (ik .u8) hx16)) ?_
            refine zL (r := i64 x15) rfl rfl rfl (LOp.eqr (LOp.i2i (src := 5) (dst := 2) ⟨_, pun5⟩ pun2 rfl rfl) (congrArg (ik .i64) hx17)) ?_
            refine zL (r := i64 x16) rfl rfl rfl (LOp.eqr (LOp.add rfl rfl rfl) (congrArg (ik .i64) hx18)) ?_
            refine zA (r := i64 x16) rfl rfl rfl rfl rfl ?_
            refine zN ?_
            exact ⟨x16, ⟨aR, aR, aR, aR, aR, aR, trivial⟩, ⟨⟨rfl, .inr rfl⟩, ⟨rfl, .inr rfl⟩, ⟨rfl, .inl rfl⟩, trivial⟩, h14_⟩
           ·refine RunC.regionW ?_
            refine zM (r := ik .u8 e10) rfl rfl rfl rfl rfl ?_
            refine zL (r := b true) rfl rfl rfl (LOp.eqb (LOp.geq rfl rfl rfl) hc14) ?_
            refine zM (r := b true) rfl rfl rfl rfl rfl ?_
            refine zM (r := ik .u8 e10) rfl rfl rfl rfl rfl ?_
            refine zL (r := b false) rfl rfl rfl (LOp.eqb (LOp.leq rfl rfl rfl) hc15) ?_
            refine zL (r := b false) rfl rfl rfl (LOp.pick_true rfl rfl rfl) ?_
            refine zN ?_
            refine RunC.cond_false rfl rfl ?_
            refine RunC.skip ?_
            exact ⟨v13, ⟨aR, aR, aR, aR, aR, aR, trivial⟩, ⟨⟨rfl, .inr rfl⟩, ⟨rfl, .inr rfl⟩, ⟨rfl, .inl rfl⟩, trivial⟩, h14_⟩
          ·refine RunC.regionW ?_
           refine zM (r := ik .u8 e10) rfl rfl rfl rfl rfl ?_
           refine zL (r := b false) rfl rfl rfl (LOp.eqb (LOp.geq rfl rfl rfl) hc14) ?_
           refine zM (r := b false) rfl rfl rfl rfl rfl ?_
           refine ROps.s rfl rfl rfl ?_
           refine ROps.s rfl rfl rfl ?_
           refine zL (r := b false) rfl rfl rfl (LOp.pick_false rfl rfl rfl) ?_
           refine zN ?_
           refine RunC.cond_false rfl rfl ?_
           refine RunC.skip ?_
           exact ⟨v13, ⟨aR, aR, aR, aR, aR, aR, trivial⟩, ⟨⟨rfl, .inr rfl⟩, ⟨rfl, .inr rfl⟩, ⟨rfl, .inl rfl⟩, trivial⟩, h14_⟩
         ·rintro τ16 Γ16 ⟨v17, hw16, hd16, h14_⟩
          refine RunC.wl hw16 hd16 ?_
          unfold s_l01NRead_k9 at h14_
          refine RunC.seq ?_
          refine RunC.seq ?_
          rcases bsel_some h14_ with ⟨hc19, h14_⟩ | ⟨hc19, h14_⟩
          ·refine RunC.regionW ?_
           refine zM (r := i64 v17) rfl rfl rfl rfl rfl ?_
           refine zL (r := b true) rfl rfl rfl (LOp.eqb (LOp.lss rfl rfl rfl) hc19) ?_
           refine zN ?_
           refine RunC.cond_true rfl rfl ?_
           refine zQ ?_
           refine zA (r := nilsl) rfl rfl rfl rfl rfl ?_
           refine zA (r := b false) rfl rfl rfl rfl rfl ?_
           refine zN ?_
           refine RunC.nil_slot (Γ' := [⟨u2, some (L4.map f32)⟩, ⟨1, some (r1.map str)⟩, ⟨(u3 + 1), some (([] : List F).map f32)⟩]) 2 2 rfl rfl rfl ?_
           refine RunC.ret ?_
           cases Option.some.inj h14_
           have hx17_ := hr14 _ rfl
           subst hx17_
           cases Option.some.inj h12_
           have hx18_ := hr12 _ rfl
           subst hx18_
           have hq := Option.some.inj h
           obtain ⟨hq0, hq⟩ := Prod.mk.inj hq
           subst q0
           subst q1
           exact bodyQ.mk (r' := tup [oref 2 (u3 + 1) 0 (([] : List F).length), b false]) [(2, (u3 + 1))] (.inr rfl) rfl (show List.Nodup [2] from by decide) (by simp [ren, rens, sigma]) rfl (Res.eq (Res.two rfl (RV.tmp rfl) (RV.tmp rfl)) (by rw [(show ([] : List F).length = 0 from rfl)] <;> rfl)) (SelL.arr0 (f := f32) (fun _ => rfl) rfl trivial)
          ·refine RunC.regionW ?_
           refine zM (r := i64 v17) rfl rfl rfl rfl rfl ?_
           refine zL (r := b false) rfl rfl rfl (LOp.eqb (LOp.lss rfl rfl rfl) hc19) ?_
           refine zN ?_
           refine RunC.cond_false rfl rfl ?_
           refine RunC.skip ?_
           obtain ⟨x18, hx20, h14_⟩ := olet_some h14_
           obtain ⟨x19, hx21, h14_⟩ := olet_some h14_
           refine RunC.regionW ?_
           refine zM (r := i64 v7) rfl rfl rfl rfl rfl ?_
           refine zL (r := i64 x18) rfl rfl rfl (LOp.eqr (LOp.mul rfl rfl rfl) (congrArg (ik .i64) hx20)) ?_
           refine zM (r := i64 v17) rfl rfl rfl rfl rfl ?_
           refine zL (r := i64 x19) rfl rfl rfl (LOp.eqr (LOp.add rfl rfl rfl) (congrArg (ik .i64) hx21)) ?_
           refine zA (r := i64 x19) rfl rfl rfl rfl rfl ?_
           refine zN ?_
           obtain ⟨x20, hx22, h14_⟩ := olet_some h14_
           refine RunC.regionW ?_
           refine zM (r := i64 v8) rfl rfl rfl rfl rfl ?_
           refine zL (r := i64 x20) rfl rfl rfl (LOp.eqr (LOp.add rfl rfl rfl) (congrArg (ik .i64) hx22)) ?_
           refine zA (r := i64 x20) rfl rfl rfl rfl rfl ?_
           refine zN ?_
           cases Option.some.inj h14_
           exact ⟨_, rfl, ⟨aR, aR, aR, aR, aR, trivial⟩, ⟨⟨rfl, .inr rfl⟩, ⟨rfl, .inr rfl⟩, ⟨rfl, .inl rfl⟩, trivial⟩⟩
       ·refine RunC.regionW ?_
        refine zM (r := i64 v8) rfl rfl rfl rfl rfl ?_
        refine zL (r := b false) rfl rfl rfl (LOp.eqb (LOp.lss rfl rfl rfl) hc7) ?_
        refine zN ?_
        refine RunC.cond_false rfl rfl ?_
        refine RunC.exit ?_
        cases Option.some.inj h14_
        have hx := ho14 _ rfl
        exact ⟨v7, ⟨aR, aR, aR, aR, trivial⟩, ⟨⟨rfl, .inr rfl⟩, ⟨rfl, .inr rfl⟩, ⟨rfl, .inl rfl⟩, trivial⟩, hx⟩
      ·rintro τ19 Γ19 ⟨v21, hw19, hd19, rfl⟩
       refine RunC.wl hw19 hd19 ?_
       replace h12_ : s_l01NRead_k10 L4 v5 v21 = some y12_ := h12_
       unfold s_l01NRead_k10 at h12_
       refine RunC.seq ?_
       obtain ⟨r22, hf23, h12_⟩ := obind_some h12_
       refine RunC.regionW ?_
       refine zM (r := i64 v21) rfl rfl rfl rfl rfl ?_
       refine ROps.d (r := f32 r22) (fs := []) (Γ' := [⟨u2, some (L4.map f32)⟩, ⟨1, some (r1.map str)⟩, ⟨u3, none⟩]) rfl rfl rfl (TOp.callB (CallAs.func ent39 rfl rfl) (Bors.cons (Bor.pure rfl) Bors.nil) rfl rfl (s_l01From_ok v21 r22 hf23)) rfl ?_
       refine zA (r := f32 r22) rfl rfl rfl rfl rfl ?_
       refine zN ?_
       refine RunC.seq ?_
       refine RunC.seq ?_
       obtain ⟨r23, hf24, h12_⟩ := obind_some h12_
       rcases bsel_some h12_ with ⟨hc25, h12_⟩ | ⟨hc25, h12_⟩
       ·refine RunC.regionW ?_
        refine zM (r := f32 r22) rfl rfl rfl rfl rfl ?_
        refine ROps.d (r := i64 r23) (fs := []) (Γ' := [⟨u2, some (L4.map f32)⟩, ⟨1, some (r1.map str)⟩, ⟨u3, none⟩]) rfl rfl rfl (TOp.callB (CallAs.func ent40 rfl rfl) (Bors.cons (Bor.pure rfl) Bors.nil) rfl rfl (s_l01Bits_ok r22 r23 hf24)) rfl ?_
        refine zM (r := i64 v21) rfl rfl rfl rfl rfl ?_
        refine zL (r := b true) rfl rfl rfl (LOp.eqb (LOp.neq rfl rfl rfl) hc25) ?_
        refine zN ?_
        refine RunC.cond_true rfl rfl ?_
        refine zQ ?_
        refine zA (r := nilsl) rfl rfl rfl rfl rfl ?_
        refine zA (r := b false) rfl rfl rfl rfl rfl ?_
        refine zN ?_
        refine RunC.nil_slot (Γ' := [⟨u2, some (L4.map f32)⟩, ⟨1, some (r1.map str)⟩, ⟨(u3 + 1), some (([] : List F).map f32)⟩]) 2 2 rfl rfl rfl ?_
        refine RunC.ret ?_
        cases Option.some.inj h12_
        have hx20_ := hr12 _ rfl
        subst hx20_
        have hq := Option.some.inj h
        obtain ⟨hq0, hq⟩ := Prod.mk.inj hq
        subst q0
        subst q1
        exact bodyQ.mk (r' := tup [oref 2 (u3 + 1) 0 (([] : List F).length), b false]) [(2, (u3 + 1))] (.inr rfl) rfl (show List.Nodup [2] from by decide) (by simp [ren, rens, sigma]) rfl (Res.eq (Res.two rfl (RV.tmp rfl) (RV.tmp rfl)) (by rw [(show ([] : List F).length = 0 from rfl)] <;> rfl)) (SelL.arr0 (f := f32) (fun _ => rfl) rfl trivial)
       ·refine RunC.regionW ?_
        refine zM (r := f32 r22) rfl rfl rfl rfl rfl ?_
        refine ROps.d (r := i64 r23) (fs := []) (Γ' := [⟨u2, some (L4.map f32)⟩, ⟨1, some (r1.map str)⟩, ⟨u3, none⟩]) rfl rfl rfl (TOp.callB (CallAs.func ent40 rfl rfl) (Bors.cons (Bor.pure rfl) Bors.nil) rfl rfl (s_l01Bits_ok r22 r23 hf24)) rfl ?_
        refine zM (r := i64 v21) rfl rfl rfl rfl rfl ?_
        refine zL (r := b false) rfl rfl rfl (LOp.eqb (LOp.neq rfl rfl rfl) hc25) ?_
        refine zN ?_
        refine RunC.cond_false rfl rfl ?_
        refine RunC.skip ?_
        obtain ⟨hm26, h12_⟩ := need_some h12_
        refine RunC.regionW ?_
        refine zM (r := oref 0 u2 0 L4.length) rfl rfl rfl rfl rfl ?_
        refine zM (r := f32 r22) rfl rfl rfl rfl rfl ?_
        refine ROps.d (r := oref 2 (u3 + 1) 0 1) (fs := [(2, (([r22] : List F).map f32))]) (Γ' := [⟨u2, some (L4.map f32)⟩, ⟨1, some (r1.map str)⟩, ⟨(u3 + 1), some (([r22] : List F).map f32)⟩]) rfl rfl rfl (TOp.buildSlice_o (g := ⟨u3, none⟩) (za := f32 (some 0)) (qs := [(0, [f32 r22])]) 2 rfl und22 siz51 zer51 rfl zel51 rfl rfl ⟨rfl, ⟨_, ALe.refl _, rfl⟩, trivial⟩ rfl) rfl ?_
        refine ROps.app (f := f32) (xs := L4) (ys := ([r22] : List F)) (Γ' := [⟨(u2 + 1), some ((L4 ++ ([r22] : List F)).map f32)⟩, ⟨1, some (r1.map str)⟩, ⟨(u3 + 1), some (([r22] : List F).map f32)⟩]) rfl pun22 inf51 rfl rfl rfl rfl rfl rfl rfl rfl rfl (by simp) (ReadAs.own rfl (by simp)) (ones_map (fun _ => rfl)) (ap_by hm26) (ap_mx hm26) rfl ?_
        refine zA (r := oref 0 (u2 + 1) 0 (L4.length + 1)) rfl rfl rfl rfl rfl ?_
        refine zN ?_
        refine RunC.wl (τ' := [(4, oref 0 (u2 + 1) 0 (L4.length + 1)), (5, oref 1 1 0 r1.length), (6, i64 v5)]) (Γ' := [⟨(u2 + 1), some ((L4 ++ ([r22] : List F)).map f32)⟩, ⟨1, some (r1.map str)⟩, ⟨(u3 + 1), none⟩]) ⟨aR, aR, aR, trivial⟩ ⟨⟨rfl, .inr rfl⟩, ⟨rfl, .inr rfl⟩, ⟨rfl, .inl rfl⟩, trivial⟩ ?_
        obtain ⟨x24, hx27, h12_⟩ := olet_some h12_
        refine RunC.regionW ?_
        refine zM (r := i64 v5) rfl rfl rfl rfl rfl ?_
        refine zL (r := i64 x24) rfl rfl rfl (LOp.eqr (LOp.add rfl rfl rfl) (congrArg (ik .i64) hx27)) ?_
        refine zA (r := i64 x24) rfl rfl rfl rfl rfl ?_
        refine zN ?_
        cases Option.some.inj h12_
        exact ⟨_, rfl, (u2 + 1), (u3 + 1), ⟨(ALe.eq (by rw [(app_len rfl rfl)] <;> rfl)), aR, aR, trivial⟩, ⟨⟨rfl, .inr rfl⟩, ⟨rfl, .inr rfl⟩, ⟨rfl, .inl rfl⟩, trivial⟩⟩
    ·refine RunC.regionW ?_
     refine zM (r := i64 v5) rfl rfl rfl rfl rfl ?_
     refine zM (r := oref 1 1 0 r1.length) rfl rfl rfl rfl rfl ?_
     refine zL (r := i64 ((r1.length : Nat) : Int)) rfl rfl rfl (LOp.len_oref und46 rfl rfl) ?_
     refine zL (r := b false) rfl rfl rfl (LOp.eqb (LOp.lss rfl rfl rfl) hc4) ?_
     refine zN ?_
     refine RunC.cond_false rfl rfl ?_
     refine RunC.exit ?_
     cases Option.some.inj h12_
     have hx := ho12 _ rfl
     exact ⟨L4, u2, u3, ⟨aR, trivial⟩, ⟨⟨rfl, .inr rfl⟩, ⟨rfl, .inl rfl⟩, ⟨rfl, .inl rfl⟩, trivial⟩, hx⟩
   ·rintro τ21 Γ21 ⟨L27, u25, u26, hw21, hd21, rfl⟩
    refine RunC.wl hw21 hd21 ?_
    replace h : s_l01NRead_k11 L27 = some (q0, q1) := h
    unfold s_l01NRead_k11 at h
    refine zQ ?_
    refine zM (r := oref 0 u25 0 L27.length) rfl rfl rfl rfl rfl ?_
    refine zA (r := oref 0 u25 0 L27.length) rfl rfl rfl rfl rfl ?_
    refine zA (r := b true) rfl rfl rfl rfl rfl ?_
    refine zN ?_
    refine RunC.ret ?_
    have hq := Option.some.inj h
    obtain ⟨hq0, hq⟩ := Prod.mk.inj hq
    subst q0
    subst q1
    exact bodyQ.mk (r' := tup [oref 0 u25 0 L27.length, b true]) [(0, u25)] (.inr rfl) rfl (show List.Nodup [0] from by decide) (by simp [ren, rens, sigma]) rfl (Res.two rfl (RV.tmp rfl) (RV.tmp rfl)) (SelL.arr0 (f := f32) (fun _ => rfl) rfl trivial)
noncomputable def s_l02Sides (a0 : Int) (a1 : Int) : Option (Bool) :=
 obind (s_l00In a0 1 12) fun (r1 : Bool) =>
 bsel r1 (
  obind (s_l00In a1 1 12) fun (r2 : Bool) =>
  some r2) (
  some false)
theorem s_l02Sides_ok (a0 : Int) (a1 : Int) (q0 : Bool) (h : s_l02Sides a0 a1 = some q0) : Ev Tryz.prog 71 [i64 a0, i64 a1] [] (b q0) [] := by
 refine Ev.start Tryz.func71 rfl rfl 0 (τ := [(0, i64 a0), (1, i64 a1)]) rfl (Γ' := []) rfl (n := 23) rfl (g := 0) rfl (fun _ => rfl) ?_
 unfold s_l02Sides at h
 refine zQ ?_
 refine zA (r := b false) rfl rfl rfl rfl rfl ?_
 refine zN ?_
 refine RunC.seq ?_
 obtain ⟨r1, hf1, h⟩ := obind_some h
 rcases bsel_some h with ⟨hc2, h⟩ | ⟨hc2, h⟩
 ·obtain ⟨r2, hf3, h⟩ := obind_some h
  refine RunC.regionW ?_
  refine zM (r := i64 a0) rfl rfl rfl rfl rfl ?_
  refine ROps.d (r := b true) (fs := []) (Γ' := []) rfl rfl rfl (TOp.eqb (TOp.callB (CallAs.func ent94 rfl rfl) (Bors.cons (Bor.pure rfl) (Bors.cons (Bor.pure rfl) (Bors.cons (Bor.pure rfl) Bors.nil))) rfl rfl (s_l00In_ok a0 1 12 r1 hf1)) hc2) rfl ?_
  refine zM (r := b true) rfl rfl rfl rfl rfl ?_
  refine zM (r := i64 a1) rfl rfl rfl rfl rfl ?_
  refine ROps.d (r := b r2) (fs := []) (Γ' := []) rfl rfl rfl (TOp.callB (CallAs.func ent94 rfl rfl) (Bors.cons (Bor.pure rfl) (Bors.cons (Bor.pure rfl) (Bors.cons (Bor.pure rfl) Bors.nil))) rfl rfl (s_l00In_ok a1 1 12 r2 hf3)) rfl ?_
  refine zL (r := b r2) rfl rfl rfl (LOp.pick_true rfl rfl rfl) ?_
  refine zA (r := b r2) rfl rfl rfl rfl rfl ?_
  refine zN ?_
  refine RunC.ret ?_
  have hq := Option.some.inj h
  subst q0
  exact bodyQ.pure (.inr rfl) rfl (Res.one rfl (RV.tmp rfl))
 ·refine RunC.regionW ?_
  refine zM (r := i64 a0) rfl rfl rfl rfl rfl ?_
  refine ROps.d (r := b false) (fs := []) (Γ' := []) rfl rfl rfl (TOp.eqb (TOp.callB (CallAs.func ent94 rfl rfl) (Bors.cons (Bor.pure rfl) (Bors.cons (Bor.pure rfl) (Bors.cons (Bor.pure rfl) Bors.nil))) rfl rfl (s_l00In_ok a0 1 12 r1 hf1)) hc2) rfl ?_
  refine zM (r := b false) rfl rfl rfl rfl rfl ?_
  refine ROps.s rfl rfl rfl ?_
  refine ROps.s rfl rfl rfl ?_
  refine zL (r := b false) rfl rfl rfl (LOp.pick_false rfl rfl rfl) ?_
  refine zA (r := b false) rfl rfl rfl rfl rfl ?_
  refine zN ?_
  refine RunC.ret ?_
  have hq := Option.some.inj h
  subst q0
  exact bodyQ.pure (.inr rfl) rfl (Res.one rfl (RV.tmp rfl))
noncomputable def s_l01Finite (a0 : F) : Option (Bool) :=
 olet (fop .sub .f32 a0 a0) fun (x1 : F) =>
 some (feq .f32 x1 (some 0))
theorem s_l01Finite_ok (a0 : F) (q0 : Bool) (h : s_l01Finite a0 = some q0) : Ev Tryz.prog 55 [f32 a0] [] (b q0) [] := by
 refine Ev.start Tryz.func55 rfl rfl 0 (τ := [(0, f32 a0)]) rfl (Γ' := []) rfl (n := 15) rfl (g := 0) rfl (fun _ => rfl) ?_
 unfold s_l01Finite at h
 refine zQ ?_
 refine zA (r := b false) rfl rfl rfl rfl rfl ?_
 refine zN ?_
 refine RunC.seq ?_
 obtain ⟨x1, hx1, h⟩ := olet_some h
 refine RunC.regionW ?_
 refine zM (r := f32 a0) rfl rfl rfl rfl rfl ?_
 refine zM (r := f32 a0) rfl rfl rfl rfl rfl ?_
 refine ROps.d (r := f32 x1) (fs := []) (Γ' := []) rfl rfl rfl (TOp.eqr (TOp.fop (.inr (.inl rfl)) rfl (OpF.tmp rfl) (OpF.tmp rfl)) (congrArg (f .f32) hx1)) rfl ?_
 refine zL (r := b (feq .f32 x1 (some 0))) rfl rfl rfl (LOp.feq rfl (OpF.tmp rfl) (OpF.const rfl (by kernel_rfl) (by kernel_rfl))) ?_
 refine zA (r := b (feq .f32 x1 (some 0))) rfl rfl rfl rfl rfl ?_
 refine zN ?_
 refine RunC.ret ?_
 have hq := Option.some.inj h
 subst q0
 exact bodyQ.pure (.inr rfl) rfl (Res.one rfl (RV.tmp rfl))
noncomputable def s_l02Finite_b1 (a0 : List F) (v1 : Int) : Option (LR (Int) (Unit) (Bool)) :=
 bsel (decide (v1 < (a0.length : Int))) (
  obind (at? a0 v1) fun (e2 : F) =>
  obind (s_l01Finite e2) fun (r3 : Bool) =>
  bsel r3 (
   olet (IntKind.i64.wrap (v1 + 1)) fun (x4 : Int) =>
   some (LR.next x4)) (
   some (LR.ret false))) (
  some (LR.out ()))
noncomputable def s_l02Finite_s1 (a0 : List F) : (Int) → Option (LR (Int) (Unit) (Bool)) := fun s => s_l02Finite_b1 a0 s
noncomputable def s_l02Finite_k1  : Option (Bool) :=
 some true
noncomputable def s_l02Finite (a0 : List F) : Option (Bool) :=
 obind (loopM (s_l02Finite_s1 a0) 0) fun z => osum z (fun _ => s_l02Finite_k1) (fun r => some r)
theorem s_l02Finite_ok (a0 : List F) (q0 : Bool) (h : s_l02Finite a0 = some q0) : Ev Tryz.prog 41 [sl a0.length (a0.map f32)] [] (b q0) [] := by
 refine Ev.start Tryz.func41 rfl rfl 0 (τ := [(0, sl a0.length (a0.map f32))]) rfl (Γ' := []) rfl (n := 33) rfl (g := 0) rfl (fun _ => rfl) ?_
 unfold s_l02Finite at h
 refine zQ ?_
 refine zA (r := b false) rfl rfl rfl rfl rfl ?_
 refine zN ?_
 refine RunC.seq ?_
 refine zQ ?_
 refine zA (r := i64 0) rfl rfl rfl rfl rfl ?_
 refine zN ?_
 obtain ⟨z2, hz_2, h⟩ := obind_some h
 refine RunC.cutN (fun τ Γ => WeakLe τ [] ∧ DeadLe Γ [] ∧ z2 = .inl ()) ?_ ?_
 ·refine RunC.block (RunC.loop (RunL.loopM (x := z2) (s_l02Finite_s1 a0) (fun (s : Int) τ Γ => WeakLe τ [(0, sl a0.length (a0.map f32)), (3, i64 s)] ∧ DeadLe Γ []) ?_ _ _ _ hz_2 ⟨⟨aR, aR, trivial⟩, trivial⟩))
  rintro v1 τ2 Γ2 y2_ ⟨hw2, hd2⟩ h2_ ho2 hr2
  refine RunC.wl (τ' := [(0, sl a0.length (a0.map f32)), (3, i64 v1)]) (Γ' := []) hw2 hd2 ?_
  replace h2_ : s_l02Finite_b1 a0 v1 = some y2_ := h2_
  unfold s_l02Finite_b1 at h2_
  refine RunC.seq ?_
  refine RunC.seq ?_
  rcases bsel_some h2_ with ⟨hc1, h2_⟩ | ⟨hc1, h2_⟩
  ·refine RunC.regionW ?_
   refine zM (r := i64 v1) rfl rfl rfl rfl rfl ?_
   refine zM (r := sl a0.length (a0.map f32)) rfl rfl rfl rfl rfl ?_
   refine zL (r := i64 (a0.length : Int)) rfl rfl rfl (LOp.len_sl und22 rfl rfl) ?_
   refine zL (r := b true) rfl rfl rfl (LOp.eqb (LOp.lss rfl rfl rfl) hc1) ?_
   refine zN ?_
   refine RunC.cond_true rfl rfl ?_
   refine RunC.skip ?_
   refine RunC.seq ?_
   refine RunC.block ?_
   refine RunC.seq ?_
   obtain ⟨e2, he2, h2_⟩ := obind_some h2_
   obtain ⟨r3, hf3, h2_⟩ := obind_some h2_
   rcases bsel_some h2_ with ⟨hc4, h2_⟩ | ⟨hc4, h2_⟩
   ·refine RunC.regionW ?_
    refine zM (r := sl a0.length (a0.map f32)) rfl rfl rfl rfl rfl ?_
    refine zM (r := i64 v1) rfl rfl rfl rfl rfl ?_
    refine zL (r := ptr [f32 e2]) rfl rfl rfl (LOp.le (LOp.ix (f := f32) und22 siz51 rfl rfl rfl rfl he2) ALe.ptr) ?_
    refine zL (r := f32 e2) rfl rfl rfl (LOp.load1 agg51 rfl rfl) ?_
    refine ROps.d (r := b true) (fs := []) (Γ' := []) rfl rfl rfl (TOp.eqb (TOp.callB (CallAs.func ent55 rfl rfl) (Bors.cons (Bor.pure rfl) Bors.nil) rfl rfl (s_l01Finite_ok e2 r3 hf3)) hc4) rfl ?_
    refine zL (r := b false) rfl rfl rfl (LOp.eqb (LOp.not rfl rfl) rfl) ?_
    refine zN ?_
    refine RunC.cond_false rfl rfl ?_
    refine RunC.skip ?_
    obtain ⟨x4, hx5, h2_⟩ := olet_some h2_
    refine RunC.regionW ?_
    refine zM (r := i64 v1) rfl rfl rfl rfl rfl ?_
    refine zL (r := i64 x4) rfl rfl rfl (LOp.eqr (LOp.add rfl rfl rfl) (congrArg (ik .i64) hx5)) ?_
    refine zA (r := i64 x4) rfl rfl rfl rfl rfl ?_
    refine zN ?_
    cases Option.some.inj h2_
    exact ⟨_, rfl, ⟨aR, aR, trivial⟩, trivial⟩
   ·refine RunC.regionW ?_
    refine zM (r := sl a0.length (a0.map f32)) rfl rfl rfl rfl rfl ?_
    refine zM (r := i64 v1) rfl rfl rfl rfl rfl ?_
    refine zL (r := ptr [f32 e2]) rfl rfl rfl (LOp.le (LOp.ix (f := f32) und22 siz51 rfl rfl rfl rfl he2) ALe.ptr) ?_
    refine zL (r := f32 e2) rfl rfl rfl (LOp.load1 agg51 rfl rfl) ?_
    refine ROps.d (r := b false) (fs := []) (Γ' := []) rfl rfl rfl (TOp.eqb (TOp.callB (CallAs.func ent55 rfl rfl) (Bors.cons (Bor.pure rfl) Bors.nil) rfl rfl (s_l01Finite_ok e2 r3 hf3)) hc4) rfl ?_
    refine zL (r := b true) rfl rfl rfl (LOp.eqb (LOp.not rfl rfl) rfl) ?_
    refine zN ?_
    refine RunC.cond_true rfl rfl ?_
    refine zQ ?_
    refine zA (r := b false) rfl rfl rfl rfl rfl ?_
    refine zN ?_
    refine RunC.ret ?_
    cases Option.some.inj h2_
    have hx3_ := hr2 _ rfl
    subst hx3_
    have hq := Option.some.inj h
    subst q0
    exact bodyQ.pure (.inr rfl) rfl (Res.one rfl (RV.tmp rfl))
  ·refine RunC.regionW ?_
   refine zM (r := i64 v1) rfl rfl rfl rfl rfl ?_
   refine zM (r := sl a0.length (a0.map f32)) rfl rfl rfl rfl rfl ?_
   refine zL (r := i64 (a0.length : Int)) rfl rfl rfl (LOp.len_sl und22 rfl rfl) ?_
   refine zL (r := b false) rfl rfl rfl (LOp.eqb (LOp.lss rfl rfl rfl) hc1) ?_
   refine zN ?_
   refine RunC.cond_false rfl rfl ?_
   refine RunC.exit ?_
   cases Option.some.inj h2_
   have hx := ho2 _ rfl
   exact ⟨trivial, trivial, hx⟩
 ·rintro τ4 Γ4 ⟨hw4, hd4, rfl⟩
  refine RunC.wl hw4 hd4 ?_
  replace h : s_l02Finite_k1 = some q0 := h
  unfold s_l02Finite_k1 at h
  refine zQ ?_
  refine zA (r := b true) rfl rfl rfl rfl rfl ?_
  refine zN ?_
  refine RunC.ret ?_
  have hq := Option.some.inj h
  subst q0
  exact bodyQ.pure (.inr rfl) rfl (Res.one rfl (RV.tmp rfl))
noncomputable def s_l02Is (a0 : Int) (a1 : Int) (a2 : List F) : Option (Bool) :=
 obind (s_l02Sides a0 a1) fun (r1 : Bool) =>
 bsel r1 (
  olet (IntKind.i64.wrap (a0 * a1)) fun (x2 : Int) =>
  bsel (decide ((a2.length : Int) = x2)) (
   obind (s_l02Finite a2) fun (r3 : Bool) =>
   some r3) (
   some false)) (
  some false)
theorem s_l02Is_ok (a0 : Int) (a1 : Int) (a2 : List F) (q0 : Bool) (h : s_l02Is a0 a1 a2 = some q0) : Ev Tryz.prog 52 [ptr [i64 a0, i64 a1, sl a2.length (a2.map f32)]] [] (b q0) [] := by
 refine Ev.start Tryz.func52 rfl rfl 0 (τ := [(0, ptr [i64 a0, i64 a1, sl a2.length (a2.map f32)])]) rfl (Γ' := []) rfl (n := 73) rfl (g := 0) rfl (fun _ => rfl) ?_
 unfold s_l02Is at h
 refine zQ ?_
 refine zA (r := b false) rfl rfl rfl rfl rfl ?_
 refine zN ?_
 refine RunC.seq ?_
 obtain ⟨r1, hf1, h⟩ := obind_some h
 rcases bsel_some h with ⟨hc2, h⟩ | ⟨hc2, h⟩
 ·obtain ⟨x2, hx3, h⟩ := olet_some h
  rcases bsel_some h with ⟨hc4, h⟩ | ⟨hc4, h⟩
  ·obtain ⟨r3, hf5, h⟩ := obind_some h
   refine RunC.region_draw (Γ' := []) 34 mixed 
    (TR.l (r := ptr [i64 a0, i64 a1, sl a2.length (a2.map f32)]) rfl rfl (LOp.move rfl rfl) <|
    (TR.l (r := ptr [i64 a0, i64 a1, sl a2.length (a2.map f32)]) rfl rfl (LOp.nilCheck_ptr rfl rfl) <|
    (TR.l (r := ptr [i64 a0, i64 a1, sl a2.length (a2.map f32)]) rfl rfl (LOp.fap und31 rfl siz2 rfl rfl rfl) <|
    (TR.l (r := i64 a0) rfl rfl (LOp.load1 agg2 rfl rfl) <|
    (TR.l (r := ptr [i64 a0, i64 a1, sl a2.length (a2.map f32)]) rfl rfl (LOp.move rfl rfl) <|
    (TR.l (r := ptr [i64 a0, i64 a1, sl a2.length (a2.map f32)]) rfl rfl (LOp.nilCheck_ptr rfl rfl) <|
    (TR.l (r := ptr [i64 a1, sl a2.length (a2.map f32)]) rfl rfl (LOp.fap und31 rfl siz2 rfl rfl rfl) <|
    (TR.l (r := i64 a1) rfl rfl (LOp.load1 agg2 rfl rfl) <|
    (TR.d (r := b true) (fs := []) rfl rfl (TOp.eqb (TOp.callB (CallAs.func ent71 rfl rfl) (Bors.cons (Bor.pure rfl) (Bors.cons (Bor.pure rfl) Bors.nil)) rfl rfl (s_l02Sides_ok a0 a1 r1 hf1)) hc2) <|
    (TR.l (r := b true) rfl rfl (LOp.move rfl rfl) <|
    (TR.l (r := ptr [i64 a0, i64 a1, sl a2.length (a2.map f32)]) rfl rfl (LOp.move rfl rfl) <|
    (TR.l (r := ptr [i64 a0, i64 a1, sl a2.length (a2.map f32)]) rfl rfl (LOp.nilCheck_ptr rfl rfl) <|
    (TR.l (r := ptr [sl a2.length (a2.map f32)]) rfl rfl (LOp.fap und31 rfl siz22 rfl rfl rfl) <|
    (TR.l (r := sl a2.length (a2.map f32)) rfl rfl (LOp.load1 agg22 rfl rfl) <|
    (TR.l (r := i64 (a2.length : Int)) rfl rfl (LOp.len_sl und22 rfl rfl) <|
    (TR.l (r := ptr [i64 a0, i64 a1, sl a2.length (a2.map f32)]) rfl rfl (LOp.move rfl rfl) <|
    (TR.l (r := ptr [i64 a0, i64 a1, sl a2.length (a2.map f32)]) rfl rfl (LOp.nilCheck_ptr rfl rfl) <|
    (TR.l (r := ptr [i64 a0, i64 a1, sl a2.length (a2.map f32)]) rfl rfl (LOp.fap und31 rfl siz2 rfl rfl rfl) <|
    (TR.l (r := i64 a0) rfl rfl (LOp.load1 agg2 rfl rfl) <|
    (TR.l (r := ptr [i64 a0, i64 a1, sl a2.length (a2.map f32)]) rfl rfl (LOp.move rfl rfl) <|
    (TR.l (r := ptr [i64 a0, i64 a1, sl a2.length (a2.map f32)]) rfl rfl (LOp.nilCheck_ptr rfl rfl) <|
    (TR.l (r := ptr [i64 a1, sl a2.length (a2.map f32)]) rfl rfl (LOp.fap und31 rfl siz2 rfl rfl rfl) <|
    (TR.l (r := i64 a1) rfl rfl (LOp.load1 agg2 rfl rfl) <|
    (TR.l (r := i64 x2) rfl rfl (LOp.eqr (LOp.mul rfl rfl rfl) (congrArg (ik .i64) hx3)) <|
    (TR.l (r := b true) rfl rfl (LOp.eqb (LOp.eql rfl rfl rfl) hc4) <|
    (TR.l (r := b true) rfl rfl (LOp.pick_true rfl rfl rfl) <|
    (TR.l (r := b true) rfl rfl (LOp.move rfl rfl) <|
    (TR.l (r := ptr [i64 a0, i64 a1, sl a2.length (a2.map f32)]) rfl rfl (LOp.move rfl rfl) <|
    (TR.l (r := ptr [i64 a0, i64 a1, sl a2.length (a2.map f32)]) rfl rfl (LOp.nilCheck_ptr rfl rfl) <|
    (TR.l (r := ptr [sl a2.length (a2.map f32)]) rfl rfl (LOp.fap und31 rfl siz22 rfl rfl rfl) <|
    (TR.l (r := sl a2.length (a2.map f32)) rfl rfl (LOp.load1 agg22 rfl rfl) <|
    (TR.d (r := b r3) (fs := []) rfl rfl (TOp.callB (CallAs.func ent41 rfl rfl) (Bors.cons (Bor.sl (fun _ => rfl)) Bors.nil) rfl rfl (s_l02Finite_ok a2 r3 hf5)) <|
    (TR.l (r := b r3) rfl rfl (LOp.pick_true rfl rfl rfl) <|
    (TR.l (r := b r3) rfl rfl (LOp.assign rfl rfl) <|
    TR.nil)))))))))))))))))))))))))))))))))) rfl (by kernel_rfl) rfl fills_nil rfl ?_
   iterate 34 refine ROps.dropS ?_
   refine ROps.drop0 ?_
   refine zN ?_
   refine RunC.ret ?_
   have hq := Option.some.inj h
   subst q0
   exact bodyQ.pure (.inr rfl) rfl (Res.one rfl (RV.tmp rfl))
  ·refine RunC.region_draw (Γ' := []) 34 mixed 
    (TR.l (r := ptr [i64 a0, i64 a1, sl a2.length (a2.map f32)]) rfl rfl (LOp.move rfl rfl) <|
    (TR.l (r := ptr [i64 a0, i64 a1, sl a2.length (a2.map f32)]) rfl rfl (LOp.nilCheck_ptr rfl rfl) <|
    (TR.l (r := ptr [i64 a0, i64 a1, sl a2.length (a2.map f32)]) rfl rfl (LOp.fap und31 rfl siz2 rfl rfl rfl) <|
    (TR.l (r := i64 a0) rfl rfl (LOp.load1 agg2 rfl rfl) <|
    (TR.l (r := ptr [i64 a0, i64 a1, sl a2.length (a2.map f32)]) rfl rfl (LOp.move rfl rfl) <|
    (TR.l (r := ptr [i64 a0, i64 a1, sl a2.length (a2.map f32)]) rfl rfl (LOp.nilCheck_ptr rfl rfl) <|
    (TR.l (r := ptr [i64 a1, sl a2.length (a2.map f32)]) rfl rfl (LOp.fap und31 rfl siz2 rfl rfl rfl) <|
    (TR.l (r := i64 a1) rfl rfl (LOp.load1 agg2 rfl rfl) <|
    (TR.d (r := b true) (fs := []) rfl rfl (TOp.eqb (TOp.callB (CallAs.func ent71 rfl rfl) (Bors.cons (Bor.pure rfl) (Bors.cons (Bor.pure rfl) Bors.nil)) rfl rfl (s_l02Sides_ok a0 a1 r1 hf1)) hc2) <|
    (TR.l (r := b true) rfl rfl (LOp.move rfl rfl) <|
    (TR.l (r := ptr [i64 a0, i64 a1, sl a2.length (a2.map f32)]) rfl rfl (LOp.move rfl rfl) <|
    (TR.l (r := ptr [i64 a0, i64 a1, sl a2.length (a2.map f32)]) rfl rfl (LOp.nilCheck_ptr rfl rfl) <|
    (TR.l (r := ptr [sl a2.length (a2.map f32)]) rfl rfl (LOp.fap und31 rfl siz22 rfl rfl rfl) <|
    (TR.l (r := sl a2.length (a2.map f32)) rfl rfl (LOp.load1 agg22 rfl rfl) <|
    (TR.l (r := i64 (a2.length : Int)) rfl rfl (LOp.len_sl und22 rfl rfl) <|
    (TR.l (r := ptr [i64 a0, i64 a1, sl a2.length (a2.map f32)]) rfl rfl (LOp.move rfl rfl) <|
    (TR.l (r := ptr [i64 a0, i64 a1, sl a2.length (a2.map f32)]) rfl rfl (LOp.nilCheck_ptr rfl rfl) <|
    (TR.l (r := ptr [i64 a0, i64 a1, sl a2.length (a2.map f32)]) rfl rfl (LOp.fap und31 rfl siz2 rfl rfl rfl) <|
    (TR.l (r := i64 a0) rfl rfl (LOp.load1 agg2 rfl rfl) <|
    (TR.l (r := ptr [i64 a0, i64 a1, sl a2.length (a2.map f32)]) rfl rfl (LOp.move rfl rfl) <|
    (TR.l (r := ptr [i64 a0, i64 a1, sl a2.length (a2.map f32)]) rfl rfl (LOp.nilCheck_ptr rfl rfl) <|
    (TR.l (r := ptr [i64 a1, sl a2.length (a2.map f32)]) rfl rfl (LOp.fap und31 rfl siz2 rfl rfl rfl) <|
    (TR.l (r := i64 a1) rfl rfl (LOp.load1 agg2 rfl rfl) <|
    (TR.l (r := i64 x2) rfl rfl (LOp.eqr (LOp.mul rfl rfl rfl) (congrArg (ik .i64) hx3)) <|
    (TR.l (r := b false) rfl rfl (LOp.eqb (LOp.eql rfl rfl rfl) hc4) <|
    (TR.l (r := b false) rfl rfl (LOp.pick_true rfl rfl rfl) <|
    (TR.l (r := b false) rfl rfl (LOp.move rfl rfl) <|
    (TR.s rfl rfl <|
    (TR.s rfl rfl <|
    (TR.s rfl rfl <|
    (TR.s rfl rfl <|
    (TR.s rfl rfl <|
    (TR.l (r := b false) rfl rfl (LOp.pick_false rfl rfl rfl) <|
    (TR.l (r := b false) rfl rfl (LOp.assign rfl rfl) <|
    TR.nil)))))))))))))))))))))))))))))))))) rfl (by kernel_rfl) rfl fills_nil rfl ?_
   iterate 34 refine ROps.dropS ?_
   refine ROps.drop0 ?_
   refine zN ?_
   refine RunC.ret ?_
   have hq := Option.some.inj h
   subst q0
   exact bodyQ.pure (.inr rfl) rfl (Res.one rfl (RV.tmp rfl))
 ·refine RunC.region_draw (Γ' := []) 34 mixed 
   (TR.l (r := ptr [i64 a0, i64 a1, sl a2.length (a2.map f32)]) rfl rfl (LOp.move rfl rfl) <|
   (TR.l (r := ptr [i64 a0, i64 a1, sl a2.length (a2.map f32)]) rfl rfl (LOp.nilCheck_ptr rfl rfl) <|
   (TR.l (r := ptr [i64 a0, i64 a1, sl a2.length (a2.map f32)]) rfl rfl (LOp.fap und31 rfl siz2 rfl rfl rfl) <|
   (TR.l (r := i64 a0) rfl rfl (LOp.load1 agg2 rfl rfl) <|
   (TR.l (r := ptr [i64 a0, i64 a1, sl a2.length (a2.map f32)]) rfl rfl (LOp.move rfl rfl) <|
   (TR.l (r := ptr [i64 a0, i64 a1, sl a2.length (a2.map f32)]) rfl rfl (LOp.nilCheck_ptr rfl rfl) <|
   (TR.l (r := ptr [i64 a1, sl a2.length (a2.map f32)]) rfl rfl (LOp.fap und31 rfl siz2 rfl rfl rfl) <|
   (TR.l (r := i64 a1) rfl rfl (LOp.load1 agg2 rfl rfl) <|
   (TR.d (r := b false) (fs := []) rfl rfl (TOp.eqb (TOp.callB (CallAs.func ent71 rfl rfl) (Bors.cons (Bor.pure rfl) (Bors.cons (Bor.pure rfl) Bors.nil)) rfl rfl (s_l02Sides_ok a0 a1 r1 hf1)) hc2) <|
   (TR.l (r := b false) rfl rfl (LOp.move rfl rfl) <|
   (TR.s rfl rfl <|
   (TR.s rfl rfl <|
   (TR.s rfl rfl <|
   (TR.s rfl rfl <|
   (TR.s rfl rfl <|
   (TR.s rfl rfl <|
   (TR.s rfl rfl <|
   (TR.s rfl rfl <|
   (TR.s rfl rfl <|
   (TR.s rfl rfl <|
   (TR.s rfl rfl <|
   (TR.s rfl rfl <|
   (TR.s rfl rfl <|
   (TR.s rfl rfl <|
   (TR.s rfl rfl <|
   (TR.l (r := b false) rfl rfl (LOp.pick_false rfl rfl rfl) <|
   (TR.l (r := b false) rfl rfl (LOp.move rfl rfl) <|
   (TR.s rfl rfl <|
   (TR.s rfl rfl <|
   (TR.s rfl rfl <|
   (TR.s rfl rfl <|
   (TR.s rfl rfl <|
   (TR.l (r := b false) rfl rfl (LOp.pick_false rfl rfl rfl) <|
   (TR.l (r := b false) rfl rfl (LOp.assign rfl rfl) <|
   TR.nil)))))))))))))))))))))))))))))))))) rfl (by kernel_rfl) rfl fills_nil rfl ?_
  iterate 34 refine ROps.dropS ?_
  refine ROps.drop0 ?_
  refine zN ?_
  refine RunC.ret ?_
  have hq := Option.some.inj h
  subst q0
  exact bodyQ.pure (.inr rfl) rfl (Res.one rfl (RV.tmp rfl))
noncomputable def s_l02Give_02o (a0 : Int) (a1 : Int) (a2 : List F) : Option ((Int × Int × Bool × (List F)) ⊕ (Int × Int × Bool × (List F) × (List F))) :=
 obind (s_l02Is a0 a1 a2) fun (r1 : Bool) =>
 bsel r1 (
  some (Sum.inl (a0, a1, true, a2))) (
  some (Sum.inr (0, 0, false, a2, ([] : List F))))
theorem s_l02Give_02o_ok0 (a0 : Int) (a1 : Int) (a2 : List F) (q0 : Int) (q1 : Int) (q2 : Bool) (q3 : List F) (h : s_l02Give_02o a0 a1 a2 = some (Sum.inl (q0, q1, q2, q3))) : Ev Tryz.prog 36 [agg [i64 a0, i64 a1, oref 0 0 0 a2.length]] [⟨0, some (a2.map f32)⟩] (tup [agg [i64 q0, i64 q1, oref 0 0 0 q3.length], b q2]) [⟨0, some (q3.map f32)⟩] := by
 refine Ev.start Tryz.func36 rfl rfl 2 (τ := [(0, agg [i64 a0, i64 a1, oref 0 0 0 a2.length])]) rfl (Γ' := [⟨0, some (a2.map f32)⟩, ⟨0, none⟩, ⟨0, none⟩]) rfl (n := 16) rfl (g := 1) rfl (by decide) ?_
 unfold s_l02Give_02o at h
 refine zQ ?_
 refine ROps.d (r := ptr [i64 a0, i64 a1, oref 0 0 0 a2.length]) (fs := []) (Γ' := [⟨0, some (a2.map f32)⟩, ⟨0, none⟩, ⟨0, none⟩]) rfl rfl rfl (TOp.box_s rfl rfl rfl) rfl ?_
 refine ROps.d (r := optr 1 1 0) (fs := [(1, [i64 0, i64 0, nilsl])]) (Γ' := [⟨0, some (a2.map f32)⟩, ⟨1, some [i64 0, i64 0, nilsl]⟩, ⟨0, none⟩]) rfl rfl rfl (TOp.alloc_o (g := ⟨0, none⟩) 1 rfl zer31 zok31 rfl) rfl ?_
 refine zA (r := b false) rfl rfl rfl rfl rfl ?_
 refine zN ?_
 refine RunC.seq ?_
 refine RunC.seq ?_
 obtain ⟨r1, hf1, h⟩ := obind_some h
 rcases bsel_some h with ⟨hc2, h⟩ | ⟨hc2, h⟩
 ·refine RunC.regionW ?_
  refine ROps.d (r := b true) (fs := []) (Γ' := [⟨0, some (a2.map f32)⟩, ⟨1, some [i64 0, i64 0, nilsl]⟩, ⟨0, none⟩]) rfl rfl rfl (TOp.eqb (TOp.callB (CallAs.func ent52 rfl rfl) (Bors.cons (Bor.ptr (Bors.cons (Bor.pure rfl) (Bors.cons (Bor.pure rfl) (Bors.cons (Bor.own (f := f32) (fun _ => rfl) rfl rfl) Bors.nil)))) Bors.nil) rfl rfl (s_l02Is_ok a0 a1 a2 r1 hf1)) hc2) rfl ?_
  refine zL (r := b false) rfl rfl rfl (LOp.eqb (LOp.not rfl rfl) rfl) ?_
  refine zN ?_
  refine RunC.cond_false rfl rfl ?_
  refine RunC.skip ?_
  refine zQ ?_
  refine zL (r := agg [i64 a0, i64 a1, oref 0 0 0 a2.length]) rfl rfl rfl (LOp.loadAgg agg31 siz31 rfl rfl rfl rfl) ?_
  refine ROps.store_le (r := agg [i64 a0, i64 a1, oref 0 0 0 a2.length]) (l' := [i64 a0, i64 a1, oref 0 0 0 a2.length]) (Γ' := [⟨0, some (a2.map f32)⟩, ⟨1, some [i64 a0, i64 a1, oref 0 0 0 a2.length]⟩, ⟨0, none⟩]) rfl siz31 rfl rfl rfl aR rfl rfl rfl rfl (Nat.le_of_ble_eq_true rfl) rfl rfl ?_
  refine zA (r := b true) rfl rfl rfl rfl rfl ?_
  refine zN ?_
  refine RunC.ret ?_
  have hq := Option.some.inj h
  have hq := Sum.inl.inj hq
  obtain ⟨hq0, hq⟩ := Prod.mk.inj hq
  obtain ⟨hq1, hq⟩ := Prod.mk.inj hq
  obtain ⟨hq2, hq⟩ := Prod.mk.inj hq
  subst q0
  subst q1
  subst q2
  subst q3
  exact bodyQ.mk (r' := tup [agg [i64 a0, i64 a1, oref 0 0 0 a2.length], b true]) [(0, 0)] (.inr rfl) rfl (show List.Nodup [0] from by decide) rfl rfl (Res.two rfl (RV.cell agg31 siz31 rfl rfl rfl rfl) (RV.tmp rfl)) (SelL.arr (f := f32) (fun _ => rfl) rfl trivial)
 ·refine RunC.regionW ?_
  refine ROps.d (r := b false) (fs := []) (Γ' := [⟨0, some (a2.map f32)⟩, ⟨1, some [i64 0, i64 0, nilsl]⟩, ⟨0, none⟩]) rfl rfl rfl (TOp.eqb (TOp.callB (CallAs.func ent52 rfl rfl) (Bors.cons (Bor.ptr (Bors.cons (Bor.pure rfl) (Bors.cons (Bor.pure rfl) (Bors.cons (Bor.own (f := f32) (fun _ => rfl) rfl rfl) Bors.nil)))) Bors.nil) rfl rfl (s_l02Is_ok a0 a1 a2 r1 hf1)) hc2) rfl ?_
  refine zL (r := b true) rfl rfl rfl (LOp.eqb (LOp.not rfl rfl) rfl) ?_
  refine zN ?_
  refine RunC.cond_true rfl rfl ?_
  refine zQ ?_
  refine zL (r := agg [i64 0, i64 0, nilsl]) rfl rfl rfl (LOp.build (qs := []) zer31 zok31 und31 plc31 rfl trivial rfl) ?_
  refine ROps.store_le (r := agg [i64 0, i64 0, nilsl]) (l' := [i64 0, i64 0, nilsl]) (Γ' := [⟨0, some (a2.map f32)⟩, ⟨1, some [i64 0, i64 0, nilsl]⟩, ⟨0, none⟩]) rfl siz31 rfl rfl rfl aR rfl rfl rfl rfl (Nat.le_of_ble_eq_true rfl) rfl rfl ?_
  refine zA (r := b false) rfl rfl rfl rfl rfl ?_
  refine zN ?_
  cases Option.some.inj h
theorem s_l02Give_02o_ok1 (a0 : Int) (a1 : Int) (a2 : List F) (q0 : Int) (q1 : Int) (q2 : Bool) (q3 : List F) (q4 : List F) (h : s_l02Give_02o a0 a1 a2 = some (Sum.inr (q0, q1, q2, q3, q4))) : Ev Tryz.prog 36 [agg [i64 a0, i64 a1, oref 0 0 0 a2.length]] [⟨0, some (a2.map f32)⟩] (tup [agg [i64 q0, i64 q1, oref 1 0 0 q4.length], b q2]) [⟨0, some (q3.map f32)⟩, ⟨0, some (q4.map f32)⟩] := by
 refine Ev.start Tryz.func36 rfl rfl 2 (τ := [(0, agg [i64 a0, i64 a1, oref 0 0 0 a2.length])]) rfl (Γ' := [⟨0, some (a2.map f32)⟩, ⟨0, none⟩, ⟨0, none⟩]) rfl (n := 16) rfl (g := 1) rfl (by decide) ?_
 unfold s_l02Give_02o at h
 refine zQ ?_
 refine ROps.d (r := ptr [i64 a0, i64 a1, oref 0 0 0 a2.length]) (fs := []) (Γ' := [⟨0, some (a2.map f32)⟩, ⟨0, none⟩, ⟨0, none⟩]) rfl rfl rfl (TOp.box_s rfl rfl rfl) rfl ?_
 refine ROps.d (r := optr 1 1 0) (fs := [(1, [i64 0, i64 0, nilsl])]) (Γ' := [⟨0, some (a2.map f32)⟩, ⟨1, some [i64 0, i64 0, nilsl]⟩, ⟨0, none⟩]) rfl rfl rfl (TOp.alloc_o (g := ⟨0, none⟩) 1 rfl zer31 zok31 rfl) rfl ?_
 refine zA (r := b false) rfl rfl rfl rfl rfl ?_
 refine zN ?_
 refine RunC.seq ?_
 refine RunC.seq ?_
 obtain ⟨r1, hf1, h⟩ := obind_some h
 rcases bsel_some h with ⟨hc2, h⟩ | ⟨hc2, h⟩
 ·refine RunC.regionW ?_
  refine ROps.d (r := b true) (fs := []) (Γ' := [⟨0, some (a2.map f32)⟩, ⟨1, some [i64 0, i64 0, nilsl]⟩, ⟨0, none⟩]) rfl rfl rfl (TOp.eqb (TOp.callB (CallAs.func ent52 rfl rfl) (Bors.cons (Bor.ptr (Bors.cons (Bor.pure rfl) (Bors.cons (Bor.pure rfl) (Bors.cons (Bor.own (f := f32) (fun _ => rfl) rfl rfl) Bors.nil)))) Bors.nil) rfl rfl (s_l02Is_ok a0 a1 a2 r1 hf1)) hc2) rfl ?_
  refine zL (r := b false) rfl rfl rfl (LOp.eqb (LOp.not rfl rfl) rfl) ?_
  refine zN ?_
  refine RunC.cond_false rfl rfl ?_
  refine RunC.skip ?_
  refine zQ ?_
  refine zL (r := agg [i64 a0, i64 a1, oref 0 0 0 a2.length]) rfl rfl rfl (LOp.loadAgg agg31 siz31 rfl rfl rfl rfl) ?_
  refine ROps.store_le (r := agg [i64 a0, i64 a1, oref 0 0 0 a2.length]) (l' := [i64 a0, i64 a1, oref 0 0 0 a2.length]) (Γ' := [⟨0, some (a2.map f32)⟩, ⟨1, some [i64 a0, i64 a1, oref 0 0 0 a2.length]⟩, ⟨0, none⟩]) rfl siz31 rfl rfl rfl aR rfl rfl rfl rfl (Nat.le_of_ble_eq_true rfl) rfl rfl ?_
  refine zA (r := b true) rfl rfl rfl rfl rfl ?_
  refine zN ?_
  cases Option.some.inj h
 ·refine RunC.regionW ?_
  refine ROps.d (r := b false) (fs := []) (Γ' := [⟨0, some (a2.map f32)⟩, ⟨1, some [i64 0, i64 0, nilsl]⟩, ⟨0, none⟩]) rfl rfl rfl (TOp.eqb (TOp.callB (CallAs.func ent52 rfl rfl) (Bors.cons (Bor.ptr (Bors.cons (Bor.pure rfl) (Bors.cons (Bor.pure rfl) (Bors.cons (Bor.own (f := f32) (fun _ => rfl) rfl rfl) Bors.nil)))) Bors.nil) rfl rfl (s_l02Is_ok a0 a1 a2 r1 hf1)) hc2) rfl ?_
  refine zL (r := b true) rfl rfl rfl (LOp.eqb (LOp.not rfl rfl) rfl) ?_
  refine zN ?_
  refine RunC.cond_true rfl rfl ?_
  refine zQ ?_
  refine zL (r := agg [i64 0, i64 0, nilsl]) rfl rfl rfl (LOp.build (qs := []) zer31 zok31 und31 plc31 rfl trivial rfl) ?_
  refine ROps.store_le (r := agg [i64 0, i64 0, nilsl]) (l' := [i64 0, i64 0, nilsl]) (Γ' := [⟨0, some (a2.map f32)⟩, ⟨1, some [i64 0, i64 0, nilsl]⟩, ⟨0, none⟩]) rfl siz31 rfl rfl rfl aR rfl rfl rfl rfl (Nat.le_of_ble_eq_true rfl) rfl rfl ?_
  refine zA (r := b false) rfl rfl rfl rfl rfl ?_
  refine zN ?_
  refine RunC.nil_cell (l' := [i64 0, i64 0, oref 2 1 0 0]) (Γ' := [⟨0, some (a2.map f32)⟩, ⟨1, some [i64 0, i64 0, oref 2 1 0 0]⟩, ⟨1, some (([] : List F).map f32)⟩]) 1 2 2 rfl rfl rfl rfl rfl ?_
  refine RunC.ret ?_
  have hq := Option.some.inj h
  have hq := Sum.inr.inj hq
  obtain ⟨hq0, hq⟩ := Prod.mk.inj hq
  obtain ⟨hq1, hq⟩ := Prod.mk.inj hq
  obtain ⟨hq2, hq⟩ := Prod.mk.inj hq
  obtain ⟨hq3, hq⟩ := Prod.mk.inj hq
  subst q0
  subst q1
  subst q2
  subst q3
  subst q4
  exact bodyQ.mk (r' := tup [agg [i64 0, i64 0, oref 2 1 0 (([] : List F).length)], b false]) [(0, 0), (2, 1)] (.inr rfl) rfl (show List.Nodup [0, 2] from by decide) rfl rfl (Res.eq (Res.two rfl (RV.cell agg31 siz31 rfl rfl rfl rfl) (RV.tmp rfl)) (by rw [(show ([] : List F).length = 0 from rfl)] <;> rfl)) (SelL.arr (f := f32) (fun _ => rfl) rfl (SelL.arr0 (f := f32) (fun _ => rfl) rfl trivial))
noncomputable def s_l08ReadMatrix (a0 : ByteArray) : Option (Int × Int × Bool × (List F)) :=
 obind4 (s_l08Sides a0) fun (r1 : Int) (r2 : Int) (r3 : ByteArray) (r4 : Bool) =>
 bsel r4 (
  obind2 (s_l01NRead r3) fun (r5 : Bool) (r6 : List F) =>
  bsel r5 (
   obind (s_l02Give_02o r1 r2 r6) (fun z => osum z (fun y => obind4 (some y) fun (r7 : Int) (r8 : Int) (r9 : Bool) (r10 : List F) =>
    need (decide (r10.length = r6.length)) <|
    some (r7, r8, r9, r10)) (fun y => obind5 (some y) fun (r11 : Int) (r12 : Int) (r13 : Bool) (r14 : List F) (r15 : List F) =>
    need (decide (r14.length = r6.length)) <|
    some (r11, r12, r13, r15)))) (
   some (0, 0, false, ([] : List F)))) (
  some (0, 0, false, ([] : List F)))
theorem s_l08ReadMatrix_ok (a0 : ByteArray) (q0 : Int) (q1 : Int) (q2 : Bool) (q3 : List F) (h : s_l08ReadMatrix a0 = some (q0, q1, q2, q3)) : Ev Tryz.prog 22 [str a0] [] (tup [agg [i64 q0, i64 q1, oref 0 0 0 q3.length], b q2]) [⟨0, some (q3.map f32)⟩] := by
 refine Ev.start Tryz.func22 rfl rfl 3 (τ := [(0, str a0)]) rfl (Γ' := [⟨0, none⟩, ⟨0, none⟩, ⟨0, none⟩]) rfl (n := 71) rfl (g := 0) rfl (fun _ => rfl) ?_
 unfold s_l08ReadMatrix at h
 refine zQ ?_
 refine ROps.d (r := optr 0 1 0) (fs := [(0, [i64 0, i64 0, nilsl])]) (Γ' := [⟨1, some [i64 0, i64 0, nilsl]⟩, ⟨0, none⟩, ⟨0, none⟩]) rfl rfl rfl (TOp.alloc_o (g := ⟨0, none⟩) 0 rfl zer31 zok31 rfl) rfl ?_
 refine zA (r := b false) rfl rfl rfl rfl rfl ?_
 refine zN ?_
 refine RunC.seq ?_
 obtain ⟨r1, r2, r3, r4, hf1, h⟩ := obind4_some h
 rcases bsel_some h with ⟨hc2, h⟩ | ⟨hc2, h⟩
 ·refine RunC.regionW ?_
  refine zM (r := str a0) rfl rfl rfl rfl rfl ?_
  refine ROps.d (r := tup [i64 r1, i64 r2, str r3, b r4]) (fs := []) (Γ' := [⟨1, some [i64 0, i64 0, nilsl]⟩, ⟨0, none⟩, ⟨0, none⟩]) rfl rfl rfl (TOp.callB (CallAs.func ent35 rfl rfl) (Bors.cons (Bor.pure rfl) Bors.nil) rfl rfl (s_l08Sides_ok a0 r1 r2 r3 r4 hf1)) rfl ?_
  refine zM (r := tup [i64 r1, i64 r2, str r3, b r4]) rfl rfl rfl rfl rfl ?_
  refine zL (r := i64 r1) rfl rfl rfl (LOp.extract rfl rfl rfl) ?_
  refine zL (r := i64 r2) rfl rfl rfl (LOp.extract rfl rfl rfl) ?_
  refine zL (r := str r3) rfl rfl rfl (LOp.extract rfl rfl rfl) ?_
  refine zL (r := b true) rfl rfl rfl (LOp.eqb (LOp.extract rfl rfl rfl) hc2) ?_
  refine zA (r := i64 r1) rfl rfl rfl rfl rfl ?_
  refine zA (r := i64 r2) rfl rfl rfl rfl rfl ?_
  refine zA (r := str r3) rfl rfl rfl rfl rfl ?_
  refine zA (r := b true) rfl rfl rfl rfl rfl ?_
  refine zN ?_
  refine RunC.seq ?_
  refine zQ ?_
  refine zM (r := b true) rfl rfl rfl rfl rfl ?_
  refine zL (r := b false) rfl rfl rfl (LOp.eqb (LOp.not rfl rfl) rfl) ?_
  refine zN ?_
  refine RunC.cond_false rfl rfl ?_
  refine RunC.skip ?_
  refine RunC.seq ?_
  obtain ⟨r5, r6, hf3, h⟩ := obind2_some h
  rcases bsel_some h with ⟨hc4, h⟩ | ⟨hc4, h⟩
  ·refine RunC.regionW ?_
   refine zM (r := str r3) rfl rfl rfl rfl rfl ?_
   refine ROps.d (r := tup [oref 1 1 0 r6.length, b r5]) (fs := [(1, (r6.map f32))]) (Γ' := [⟨1, some [i64 0, i64 0, nilsl]⟩, ⟨1, some (r6.map f32)⟩, ⟨0, none⟩]) rfl rfl rfl (TOp.callBN (ls := [(r6.map f32)]) [1] (CallAs.func ent26 rfl rfl) (Bors.cons (Bor.pure rfl) Bors.nil) rfl (s_l01NRead_ok r3 r5 r6 hf3) (and_all (lts0_map (f := f32) (fun _ => rfl) _) rfl) (and_all (noss_map (f := f32) (fun _ => rfl) _) rfl) rfl (by decide) (ns_of ⟨⟨_, rfl⟩, trivial⟩)) rfl ?_
   refine zM (r := tup [oref 1 1 0 r6.length, b r5]) rfl rfl rfl rfl rfl ?_
   refine zL (r := oref 1 1 0 r6.length) rfl rfl rfl (LOp.extract rfl rfl rfl) ?_
   refine zL (r := b true) rfl rfl rfl (LOp.eqb (LOp.extract rfl rfl rfl) hc4) ?_
   refine zA (r := oref 1 1 0 r6.length) rfl rfl rfl rfl rfl ?_
   refine zA (r := b true) rfl rfl rfl rfl rfl ?_
   refine zN ?_
   refine RunC.wl (τ' := [(2, optr 0 1 0), (4, i64 r1), (5, i64 r2), (8, oref 1 1 0 r6.length), (9, b true)]) (Γ' := [⟨1, some [i64 0, i64 0, nilsl]⟩, ⟨1, some (r6.map f32)⟩, ⟨0, none⟩]) ⟨aR, aR, aR, aR, aR, trivial⟩ ⟨⟨rfl, .inr rfl⟩, ⟨rfl, .inr rfl⟩, ⟨rfl, .inr rfl⟩, trivial⟩ ?_
   refine RunC.seq ?_
   refine zQ ?_
   refine zM (r := b true) rfl rfl rfl rfl rfl ?_
   refine zL (r := b false) rfl rfl rfl (LOp.eqb (LOp.not rfl rfl) rfl) ?_
   refine zN ?_
   refine RunC.cond_false rfl rfl ?_
   refine RunC.skip ?_
   refine RunC.seq ?_
   obtain ⟨z1, hf5, h⟩ := obind_some h
   rcases z1 with z1 | z1
   ·replace h := (osum_inl _ _ _).symm.trans h
    obtain ⟨r7, r8, r9, r10, hz2, h⟩ := obind4_some h
    cases hz2
    obtain ⟨hn6, h⟩ := need_some h
    refine RunC.regionW ?_
    refine zM (r := i64 r1) rfl rfl rfl rfl rfl ?_
    refine zM (r := i64 r2) rfl rfl rfl rfl rfl ?_
    refine zM (r := oref 1 1 0 r6.length) rfl rfl rfl rfl rfl ?_
    refine zL (r := agg [i64 r1, i64 r2, oref 1 1 0 r6.length]) rfl rfl rfl (LOp.build (qs := [(0, [i64 r1]), (1, [i64 r2]), (2, [oref 1 1 0 r6.length])]) zer31 zok31 und31 plc31 rfl ⟨rfl, ⟨_, ALe.refl _, rfl⟩, ⟨rfl, ⟨_, ALe.refl _, rfl⟩, ⟨rfl, ⟨_, ALe.refl _, rfl⟩, trivial⟩⟩⟩ rfl) ?_
    refine ROps.callO (A := [agg [i64 r1, i64 r2, oref 1 1 0 r6.length]]) (args := [agg [i64 r1, i64 r2, oref 0 0 0 r6.length]]) (Γc := [⟨0, some (r6.map f32)⟩]) (Γc' := [⟨0, some (r10.map f32)⟩]) (r' := tup [agg [i64 r7, i64 r8, oref 1 1 0 r6.length], b r9]) (Γ' := [⟨1, some [i64 0, i64 0, nilsl]⟩, ⟨1, some (r10.map f32)⟩, ⟨0, none⟩]) [(1, 1)] [] rfl (CallAs.func ent36 rfl rfl) rfl rfl (SelOk.of (show List.Nodup [1] from by decide) (SelL.arr0 (f := f32) (fun _ => rfl) rfl trivial)) (live_of ⟨⟨_, _, rfl⟩, trivial⟩) (by simp [ren, rens, sigma, rens_f32, rens_f64, rens_i64, rens_ik, rens_str, rens_cp]) rfl (s_l02Give_02o_ok0 r1 r2 r6 r7 r8 r9 r10 hf5) rfl (news_of trivial) (show List.Nodup [1] from by decide) (by simp [ren, rens, sigma, of_decide_eq_true hn6]) (by simp [backOb, sigma, ren, rens, rens_f32, rens_f64, rens_i64, rens_ik, rens_str, rens_cp]) ?_
    refine zL (r := agg [i64 r7, i64 r8, oref 1 1 0 r6.length]) rfl rfl rfl (LOp.extract rfl rfl rfl) ?_
    refine zL (r := b r9) rfl rfl rfl (LOp.extract rfl rfl rfl) ?_
    refine ROps.store_le (r := agg [i64 r7, i64 r8, oref 1 1 0 r6.length]) (l' := [i64 r7, i64 r8, oref 1 1 0 r6.length]) (Γ' := [⟨1, some [i64 r7, i64 r8, oref 1 1 0 r6.length]⟩, ⟨1, some (r10.map f32)⟩, ⟨0, none⟩]) rfl siz31 rfl rfl rfl aR rfl rfl rfl rfl (Nat.le_of_ble_eq_true rfl) rfl rfl ?_
    refine zA (r := b r9) rfl rfl rfl rfl rfl ?_
    refine zN ?_
    refine RunC.ret ?_
    have hq := Option.some.inj h
    obtain ⟨hq0, hq⟩ := Prod.mk.inj hq
    obtain ⟨hq1, hq⟩ := Prod.mk.inj hq
    obtain ⟨hq2, hq⟩ := Prod.mk.inj hq
    subst q0
    subst q1
    subst q2
    subst q3
    exact bodyQ.mk (r' := tup [agg [i64 r7, i64 r8, oref 1 1 0 r10.length], b r9]) [(1, 1)] (.inr rfl) rfl (show List.Nodup [1] from by decide) rfl rfl (Res.eq (Res.two rfl (RV.cell agg31 siz31 rfl rfl rfl rfl) (RV.tmp rfl)) (by rw [(show r10.length = r6.length from (of_decide_eq_true hn6))] <;> rfl)) (SelL.arr0 (f := f32) (fun _ => rfl) rfl trivial)
   ·replace h := (osum_inr _ _ _).symm.trans h
    obtain ⟨r11, r12, r13, r14, r15, hz3, h⟩ := obind5_some h
    cases hz3
    obtain ⟨hn7, h⟩ := need_some h
    refine RunC.regionW ?_
    refine zM (r := i64 r1) rfl rfl rfl rfl rfl ?_
    refine zM (r := i64 r2) rfl rfl rfl rfl rfl ?_
    refine zM (r := oref 1 1 0 r6.length) rfl rfl rfl rfl rfl ?_
    refine zL (r := agg [i64 r1, i64 r2, oref 1 1 0 r6.length]) rfl rfl rfl (LOp.build (qs := [(0, [i64 r1]), (1, [i64 r2]), (2, [oref 1 1 0 r6.length])]) zer31 zok31 und31 plc31 rfl ⟨rfl, ⟨_, ALe.refl _, rfl⟩, ⟨rfl, ⟨_, ALe.refl _, rfl⟩, ⟨rfl, ⟨_, ALe.refl _, rfl⟩, trivial⟩⟩⟩ rfl) ?_
    refine ROps.callO (A := [agg [i64 r1, i64 r2, oref 1 1 0 r6.length]]) (args := [agg [i64 r1, i64 r2, oref 0 0 0 r6.length]]) (Γc := [⟨0, some (r6.map f32)⟩]) (Γc' := [⟨0, some (r14.map f32)⟩, ⟨0, some (r15.map f32)⟩]) (r' := tup [agg [i64 r11, i64 r12, oref 2 1 0 r15.length], b r13]) (Γ' := [⟨1, some [i64 0, i64 0, nilsl]⟩, ⟨1, some (r14.map f32)⟩, ⟨1, some (r15.map f32)⟩]) [(1, 1)] [(2, 1)] rfl (CallAs.func ent36 rfl rfl) rfl rfl (SelOk.of (show List.Nodup [1] from by decide) (SelL.arr0 (f := f32) (fun _ => rfl) rfl trivial)) (live_of ⟨⟨_, _, rfl⟩, trivial⟩) (by simp [ren, rens, sigma, rens_f32, rens_f64, rens_i64, rens_ik, rens_str, rens_cp]) rfl (s_l02Give_02o_ok1 r1 r2 r6 r11 r12 r13 r14 r15 hf5) rfl (news_of ⟨⟨_, rfl, rfl⟩, trivial⟩) (show List.Nodup [1, 2] from by decide) (by simp [ren, rens, sigma, of_decide_eq_true hn7]) (by simp [backOb, sigma, ren, rens, rens_f32, rens_f64, rens_i64, rens_ik, rens_str, rens_cp]) ?_
    refine zL (r := agg [i64 r11, i64 r12, oref 2 1 0 r15.length]) rfl rfl rfl (LOp.extract rfl rfl rfl) ?_
    refine zL (r := b r13) rfl rfl rfl (LOp.extract rfl rfl rfl) ?_
    refine ROps.store_le (r := agg [i64 r11, i64 r12, oref 2 1 0 r15.length]) (l' := [i64 r11, i64 r12, oref 2 1 0 r15.length]) (Γ' := [⟨1, some [i64 r11, i64 r12, oref 2 1 0 r15.length]⟩, ⟨1, some (r14.map f32)⟩, ⟨1, some (r15.map f32)⟩]) rfl siz31 rfl rfl rfl aR rfl rfl rfl rfl (Nat.le_of_ble_eq_true rfl) rfl rfl ?_
    refine zA (r := b r13) rfl rfl rfl rfl rfl ?_
    refine zN ?_
    refine RunC.ret ?_
    have hq := Option.some.inj h
    obtain ⟨hq0, hq⟩ := Prod.mk.inj hq
    obtain ⟨hq1, hq⟩ := Prod.mk.inj hq
    obtain ⟨hq2, hq⟩ := Prod.mk.inj hq
    subst q0
    subst q1
    subst q2
    subst q3
    exact bodyQ.mk (r' := tup [agg [i64 r11, i64 r12, oref 2 1 0 r15.length], b r13]) [(2, 1)] (.inr rfl) rfl (show List.Nodup [2] from by decide) rfl rfl (Res.two rfl (RV.cell agg31 siz31 rfl rfl rfl rfl) (RV.tmp rfl)) (SelL.arr0 (f := f32) (fun _ => rfl) rfl trivial)
  ·refine RunC.regionW ?_
   refine zM (r := str r3) rfl rfl rfl rfl rfl ?_
   refine ROps.d (r := tup [oref 1 1 0 r6.length, b r5]) (fs := [(1, (r6.map f32))]) (Γ' := [⟨1, some [i64 0, i64 0, nilsl]⟩, ⟨1, some (r6.map f32)⟩, ⟨0, none⟩]) rfl rfl rfl (TOp.callBN (ls := [(r6.map f32)]) [1] (CallAs.func ent26 rfl rfl) (Bors.cons (Bor.pure rfl) Bors.nil) rfl (s_l01NRead_ok r3 r5 r6 hf3) (and_all (lts0_map (f := f32) (fun _ => rfl) _) rfl) (and_all (noss_map (f := f32) (fun _ => rfl) _) rfl) rfl (by decide) (ns_of ⟨⟨_, rfl⟩, trivial⟩)) rfl ?_
   refine zM (r := tup [oref 1 1 0 r6.length, b r5]) rfl rfl rfl rfl rfl ?_
   refine zL (r := oref 1 1 0 r6.length) rfl rfl rfl (LOp.extract rfl rfl rfl) ?_
   refine zL (r := b false) rfl rfl rfl (LOp.eqb (LOp.extract rfl rfl rfl) hc4) ?_
   refine zA (r := oref 1 1 0 r6.length) rfl rfl rfl rfl rfl ?_
   refine zA (r := b false) rfl rfl rfl rfl rfl ?_
   refine zN ?_
   refine RunC.wl (τ' := [(2, optr 0 1 0), (4, i64 r1), (5, i64 r2), (8, oref 1 1 0 r6.length), (9, b false)]) (Γ' := [⟨1, some [i64 0, i64 0, nilsl]⟩, ⟨1, some (r6.map f32)⟩, ⟨0, none⟩]) ⟨aR, aR, aR, aR, aR, trivial⟩ ⟨⟨rfl, .inr rfl⟩, ⟨rfl, .inr rfl⟩, ⟨rfl, .inr rfl⟩, trivial⟩ ?_
   refine RunC.seq ?_
   refine zQ ?_
   refine zM (r := b false) rfl rfl rfl rfl rfl ?_
   refine zL (r := b true) rfl rfl rfl (LOp.eqb (LOp.not rfl rfl) rfl) ?_
   refine zN ?_
   refine RunC.cond_true rfl rfl ?_
   refine zQ ?_
   refine zL (r := agg [i64 0, i64 0, nilsl]) rfl rfl rfl (LOp.build (qs := []) zer31 zok31 und31 plc31 rfl trivial rfl) ?_
   refine ROps.store_le (r := agg [i64 0, i64 0, nilsl]) (l' := [i64 0, i64 0, nilsl]) (Γ' := [⟨1, some [i64 0, i64 0, nilsl]⟩, ⟨1, some (r6.map f32)⟩, ⟨0, none⟩]) rfl siz31 rfl rfl rfl aR rfl rfl rfl rfl (Nat.le_of_ble_eq_true rfl) rfl rfl ?_
   refine zA (r := b false) rfl rfl rfl rfl rfl ?_
   refine zN ?_
   refine RunC.nil_cell (l' := [i64 0, i64 0, oref 2 1 0 0]) (Γ' := [⟨1, some [i64 0, i64 0, oref 2 1 0 0]⟩, ⟨1, some (r6.map f32)⟩, ⟨1, some (([] : List F).map f32)⟩]) 0 2 2 rfl rfl rfl rfl rfl ?_
   refine RunC.ret ?_
   have hq := Option.some.inj h
   obtain ⟨hq0, hq⟩ := Prod.mk.inj hq
   obtain ⟨hq1, hq⟩ := Prod.mk.inj hq
   obtain ⟨hq2, hq⟩ := Prod.mk.inj hq
   subst q0
   subst q1
   subst q2
   subst q3
   exact bodyQ.mk (r' := tup [agg [i64 0, i64 0, oref 2 1 0 (([] : List F).length)], b false]) [(2, 1)] (.inr rfl) rfl (show List.Nodup [2] from by decide) rfl rfl (Res.eq (Res.two rfl (RV.cell agg31 siz31 rfl rfl rfl rfl) (RV.tmp rfl)) (by rw [(show ([] : List F).length = 0 from rfl)] <;> rfl)) (SelL.arr0 (f := f32) (fun _ => rfl) rfl trivial)
 ·refine RunC.regionW ?_
  refine zM (r := str a0) rfl rfl rfl rfl rfl ?_
  refine ROps.d (r := tup [i64 r1, i64 r2, str r3, b r4]) (fs := []) (Γ' := [⟨1, some [i64 0, i64 0, nilsl]⟩, ⟨0, none⟩, ⟨0, none⟩]) rfl rfl rfl (TOp.callB (CallAs.func ent35 rfl rfl) (Bors.cons (Bor.pure rfl) Bors.nil) rfl rfl (s_l08Sides_ok a0 r1 r2 r3 r4 hf1)) rfl ?_
  refine zM (r := tup [i64 r1, i64 r2, str r3, b r4]) rfl rfl rfl rfl rfl ?_
  refine zL (r := i64 r1) rfl rfl rfl (LOp.extract rfl rfl rfl) ?_
  refine zL (r := i64 r2) rfl rfl rfl (LOp.extract rfl rfl rfl) ?_
  refine zL (r := str r3) rfl rfl rfl (LOp.extract rfl rfl rfl) ?_
  refine zL (r := b false) rfl rfl rfl (LOp.eqb (LOp.extract rfl rfl rfl) hc2) ?_
  refine zA (r := i64 r1) rfl rfl rfl rfl rfl ?_
  refine zA (r := i64 r2) rfl rfl rfl rfl rfl ?_
  refine zA (r := str r3) rfl rfl rfl rfl rfl ?_
  refine zA (r := b false) rfl rfl rfl rfl rfl ?_
  refine zN ?_
  refine RunC.seq ?_
  refine zQ ?_
  refine zM (r := b false) rfl rfl rfl rfl rfl ?_
  refine zL (r := b true) rfl rfl rfl (LOp.eqb (LOp.not rfl rfl) rfl) ?_
  refine zN ?_
  refine RunC.cond_true rfl rfl ?_
  refine zQ ?_
  refine zL (r := agg [i64 0, i64 0, nilsl]) rfl rfl rfl (LOp.build (qs := []) zer31 zok31 und31 plc31 rfl trivial rfl) ?_
  refine ROps.store_le (r := agg [i64 0, i64 0, nilsl]) (l' := [i64 0, i64 0, nilsl]) (Γ' := [⟨1, some [i64 0, i64 0, nilsl]⟩, ⟨0, none⟩, ⟨0, none⟩]) rfl siz31 rfl rfl rfl aR rfl rfl rfl rfl (Nat.le_of_ble_eq_true rfl) rfl rfl ?_
  refine zA (r := b false) rfl rfl rfl rfl rfl ?_
  refine zN ?_
  refine RunC.nil_cell (l' := [i64 0, i64 0, oref 1 1 0 0]) (Γ' := [⟨1, some [i64 0, i64 0, oref 1 1 0 0]⟩, ⟨1, some (([] : List F).map f32)⟩, ⟨0, none⟩]) 0 2 1 rfl rfl rfl rfl rfl ?_
  refine RunC.ret ?_
  have hq := Option.some.inj h
  obtain ⟨hq0, hq⟩ := Prod.mk.inj hq
  obtain ⟨hq1, hq⟩ := Prod.mk.inj hq
  obtain ⟨hq2, hq⟩ := Prod.mk.inj hq
  subst q0
  subst q1
  subst q2
  subst q3
  exact bodyQ.mk (r' := tup [agg [i64 0, i64 0, oref 1 1 0 (([] : List F).length)], b false]) [(1, 1)] (.inr rfl) rfl (show List.Nodup [1] from by decide) rfl rfl (Res.eq (Res.two rfl (RV.cell agg31 siz31 rfl rfl rfl rfl) (RV.tmp rfl)) (by rw [(show ([] : List F).length = 0 from rfl)] <;> rfl)) (SelL.arr0 (f := f32) (fun _ => rfl) rfl trivial)
noncomputable def s_ReadMatrix (a0 : ByteArray) : Option (Int × Int × Bool × (List F)) :=
 obind4 (s_l08ReadMatrix a0) fun (r1 : Int) (r2 : Int) (r3 : Bool) (r4 : List F) =>
 some (r1, r2, r3, r4)
theorem s_ReadMatrix_ok (a0 : ByteArray) (q0 : Int) (q1 : Int) (q2 : Bool) (q3 : List F) (h : s_ReadMatrix a0 = some (q0, q1, q2, q3)) : Ev Tryz.prog 10 [str a0] [] (tup [agg [i64 q0, i64 q1, oref 0 0 0 q3.length], b q2]) [⟨0, some (q3.map f32)⟩] := by
 refine Ev.start Tryz.func10 rfl rfl 2 (τ := [(0, str a0)]) rfl (Γ' := [⟨0, none⟩, ⟨0, none⟩]) rfl (n := 17) rfl (g := 0) rfl (fun _ => rfl) ?_
 unfold s_ReadMatrix at h
 refine zQ ?_
 refine ROps.d (r := optr 0 1 0) (fs := [(0, [i64 0, i64 0, nilsl])]) (Γ' := [⟨1, some [i64 0, i64 0, nilsl]⟩, ⟨0, none⟩]) rfl rfl rfl (TOp.alloc_o (g := ⟨0, none⟩) 0 rfl zer31 zok31 rfl) rfl ?_
 refine zA (r := b false) rfl rfl rfl rfl rfl ?_
 refine zN ?_
 refine RunC.seq ?_
 obtain ⟨r1, r2, r3, r4, hf1, h⟩ := obind4_some h
 refine RunC.regionW ?_
 refine zM (r := str a0) rfl rfl rfl rfl rfl ?_
 refine ROps.d (r := tup [agg [i64 r1, i64 r2, oref 1 1 0 r4.length], b r3]) (fs := [(1, (r4.map f32))]) (Γ' := [⟨1, some [i64 0, i64 0, nilsl]⟩, ⟨1, some (r4.map f32)⟩]) rfl rfl rfl (TOp.callBN (ls := [(r4.map f32)]) [1] (CallAs.func ent22 rfl rfl) (Bors.cons (Bor.pure rfl) Bors.nil) rfl (s_l08ReadMatrix_ok a0 r1 r2 r3 r4 hf1) (and_all (lts0_map (f := f32) (fun _ => rfl) _) rfl) (and_all (noss_map (f := f32) (fun _ => rfl) _) rfl) rfl (by decide) (ns_of ⟨⟨_, rfl⟩, trivial⟩)) rfl ?_
 refine zL (r := agg [i64 r1, i64 r2, oref 1 1 0 r4.length]) rfl rfl rfl (LOp.extract rfl rfl rfl) ?_
 refine zL (r := b r3) rfl rfl rfl (LOp.extract rfl rfl rfl) ?_
 refine ROps.store_le (r := agg [i64 r1, i64 r2, oref 1 1 0 r4.length]) (l' := [i64 r1, i64 r2, oref 1 1 0 r4.length]) (Γ' := [⟨1, some [i64 r1, i64 r2, oref 1 1 0 r4.length]⟩, ⟨1, some (r4.map f32)⟩]) rfl siz31 rfl rfl rfl aR rfl rfl rfl rfl (Nat.le_of_ble_eq_true rfl) rfl rfl ?_
 refine zA (r := b r3) rfl rfl rfl rfl rfl ?_
 refine zN ?_
 refine RunC.ret ?_
 have hq := Option.some.inj h
 obtain ⟨hq0, hq⟩ := Prod.mk.inj hq
 obtain ⟨hq1, hq⟩ := Prod.mk.inj hq
 obtain ⟨hq2, hq⟩ := Prod.mk.inj hq
 subst q0
 subst q1
 subst q2
 subst q3
 exact bodyQ.mk (r' := tup [agg [i64 r1, i64 r2, oref 1 1 0 r4.length], b r3]) [(1, 1)] (.inr rfl) rfl (show List.Nodup [1] from by decide) rfl rfl (Res.two rfl (RV.cell agg31 siz31 rfl rfl rfl rfl) (RV.tmp rfl)) (SelL.arr0 (f := f32) (fun _ => rfl) rfl trivial)
noncomputable def x_internal_stringslite_IndexByte (a0 : ByteArray) (a1 : Int) : Option (Int) :=
 some (idxB a0 a1)
theorem x_internal_stringslite_IndexByte_ok (a0 : ByteArray) (a1 : Int) (q0 : Int) (h : x_internal_stringslite_IndexByte a0 a1 = some q0) : Ev Tryz.prog 56 [str a0, ik .u8 a1] [] (i64 q0) [] := by
 refine Ev.start Tryz.func56 rfl rfl 0 (τ := [(0, str a0), (1, ik .u8 a1)]) rfl (Γ' := []) rfl (n := 17) rfl (g := 0) rfl (fun _ => rfl) ?_
 unfold x_internal_stringslite_IndexByte at h
 refine zQ ?_
 refine zA (r := i64 0) rfl rfl rfl rfl rfl ?_
 refine zN ?_
 refine zQ ?_
 refine zM (r := str a0) rfl rfl rfl rfl rfl ?_
 refine zM (r := ik .u8 a1) rfl rfl rfl rfl rfl ?_
 refine zL (r := i64 (idxB a0 a1)) rfl rfl rfl (LOp.idxB ext74 rfl rfl rfl) ?_
 refine zA (r := i64 (idxB a0 a1)) rfl rfl rfl rfl rfl ?_
 refine zN ?_
 refine RunC.ret ?_
 have hq := Option.some.inj h
 subst q0
 exact bodyQ.pure (.inr rfl) rfl (Res.one rfl (RV.tmp rfl))
noncomputable def x_internal_stringslite_Index (a0 : ByteArray) (a1 : ByteArray) : Option (Int) :=
 bsel (decide ((a1.size : Int) = 0)) (
  some 0) (
  bsel (eqs a1 a0) (
   some 0) (
   bsel (decide ((a1.size : Int) = 1)) (
    obind (sat? a1 0) fun (e1 : Int) =>
    obind (x_internal_stringslite_IndexByte a0 e1) fun (r2 : Int) =>
    some r2) (
    bsel (decide ((a0.size : Int) ≤ (a1.size : Int))) (
     some (-1)) (
     none))))
theorem x_internal_stringslite_Index_ok (a0 : ByteArray) (a1 : ByteArray) (q0 : Int) (h : x_internal_stringslite_Index a0 a1 = some q0) : Ev Tryz.prog 42 [str a0, str a1] [] (i64 q0) [] := by
 refine Ev.start Tryz.func42 rfl rfl 0 (τ := [(0, str a0), (1, str a1)]) rfl (Γ' := []) rfl (n := 287) rfl (g := 0) rfl (fun _ => rfl) ?_
 unfold x_internal_stringslite_Index at h
 refine zQ ?_
 refine zA (r := i64 0) rfl rfl rfl rfl rfl ?_
 refine zN ?_
 refine zQ ?_
 refine zM (r := str a1) rfl rfl rfl rfl rfl ?_
 refine zL (r := i64 (a1.size : Int)) rfl rfl rfl (LOp.len_str und9 rfl rfl) ?_
 refine zA (r := i64 (a1.size : Int)) rfl rfl rfl rfl rfl ?_
 refine zN ?_
 refine RunC.seq ?_
 refine RunC.block ?_
 refine RunC.seq ?_
 rcases bsel_some h with ⟨hc1, h⟩ | ⟨hc1, h⟩
 ·refine RunC.regionW ?_
  refine zM (r := i64 (a1.size : Int)) rfl rfl rfl rfl rfl ?_
  refine zL (r := b true) rfl rfl rfl (LOp.eqb (LOp.eql rfl rfl rfl) hc1) ?_
  refine zM (r := b true) rfl rfl rfl rfl rfl ?_
  refine ROps.s rfl rfl rfl ?_
  refine ROps.s rfl rfl rfl ?_
  refine ROps.s rfl rfl rfl ?_
  refine zL (r := b true) rfl rfl rfl (LOp.pick_true rfl rfl rfl) ?_
  refine zA (r := b true) rfl rfl rfl rfl rfl ?_
  refine zN ?_
  refine RunC.cond_true rfl rfl ?_
  refine zQ ?_
  refine zA (r := i64 0) rfl rfl rfl rfl rfl ?_
  refine zN ?_
  refine RunC.ret ?_
  have hq := Option.some.inj h
  subst q0
  exact bodyQ.pure (.inr rfl) rfl (Res.one rfl (RV.tmp rfl))
 ·rcases bsel_some h with ⟨hc2, h⟩ | ⟨hc2, h⟩
  ·refine RunC.regionW ?_
   refine zM (r := i64 (a1.size : Int)) rfl rfl rfl rfl rfl ?_
   refine zL (r := b false) rfl rfl rfl (LOp.eqb (LOp.eql rfl rfl rfl) hc1) ?_
   refine zM (r := b false) rfl rfl rfl rfl rfl ?_
   refine zM (r := str a1) rfl rfl rfl rfl rfl ?_
   refine zM (r := str a0) rfl rfl rfl rfl rfl ?_
   refine zL (r := b true) rfl rfl rfl (LOp.eqb (LOp.eqs rfl rfl rfl) hc2) ?_
   refine zL (r := b true) rfl rfl rfl (LOp.pick_false rfl rfl rfl) ?_
   refine zA (r := b true) rfl rfl rfl rfl rfl ?_
   refine zN ?_
   refine RunC.cond_true rfl rfl ?_
   refine zQ ?_
   refine zA (r := i64 0) rfl rfl rfl rfl rfl ?_
   refine zN ?_
   refine RunC.ret ?_
   have hq := Option.some.inj h
   subst q0
   exact bodyQ.pure (.inr rfl) rfl (Res.one rfl (RV.tmp rfl))
  ·refine RunC.regionW ?_
   refine zM (r := i64 (a1.size : Int)) rfl rfl rfl rfl rfl ?_
   refine zL (r := b false) rfl rfl rfl (LOp.eqb (LOp.eql rfl rfl rfl) hc1) ?_
   refine zM (r := b false) rfl rfl rfl rfl rfl ?_
   refine zM (r := str a1) rfl rfl rfl rfl rfl ?_
   refine zM (r := str a0) rfl rfl rfl rfl rfl ?_
   refine zL (r := b false) rfl rfl rfl (LOp.eqb (LOp.eqs rfl rfl rfl) hc2) ?_
   refine zL (r := b false) rfl rfl rfl (LOp.pick_false rfl rfl rfl) ?_
   refine zA (r := b false) rfl rfl rfl rfl rfl ?_
   refine zN ?_
   refine RunC.cond_false rfl rfl ?_
   refine RunC.seq ?_
   rcases bsel_some h with ⟨hc3, h⟩ | ⟨hc3, h⟩
   ·refine RunC.regionW ?_
    refine zM (r := i64 (a1.size : Int)) rfl rfl rfl rfl rfl ?_
    refine zL (r := b true) rfl rfl rfl (LOp.eqb (LOp.eql rfl rfl rfl) hc3) ?_
    refine zA (r := b true) rfl rfl rfl rfl rfl ?_
    refine zN ?_
    refine RunC.cond_true rfl rfl ?_
    refine RunC.seq ?_
    obtain ⟨e1, he4, h⟩ := obind_some h
    obtain ⟨r2, hf5, h⟩ := obind_some h
    refine RunC.regionW ?_
    refine zM (r := str a0) rfl rfl rfl rfl rfl ?_
    refine zM (r := str a1) rfl rfl rfl rfl rfl ?_
    refine zL (r := ik .u8 e1) rfl rfl rfl (LOp.index_str und9 rfl rfl rfl he4) ?_
    refine ROps.d (r := i64 r2) (fs := []) (Γ' := []) rfl rfl rfl (TOp.callB (CallAs.func ent56 rfl rfl) (Bors.cons (Bor.pure rfl) (Bors.cons (Bor.pure rfl) Bors.nil)) rfl rfl (x_internal_stringslite_IndexByte_ok a0 e1 r2 hf5)) rfl ?_
    refine zA (r := i64 r2) rfl rfl rfl rfl rfl ?_
    refine zN ?_
    refine RunC.ret ?_
    have hq := Option.some.inj h
    subst q0
    exact bodyQ.pure (.inr rfl) rfl (Res.one rfl (RV.tmp rfl))
   ·refine RunC.regionW ?_
    refine zM (r := i64 (a1.size : Int)) rfl rfl rfl rfl rfl ?_
    refine zL (r := b false) rfl rfl rfl (LOp.eqb (LOp.eql rfl rfl rfl) hc3) ?_
    refine zA (r := b false) rfl rfl rfl rfl rfl ?_
    refine zN ?_
    refine RunC.cond_false rfl rfl ?_
    refine RunC.seq ?_
    rcases bsel_some h with ⟨hc6, h⟩ | ⟨hc6, h⟩
    ·refine RunC.regionW ?_
     refine zM (r := i64 (a1.size : Int)) rfl rfl rfl rfl rfl ?_
     refine zM (r := str a0) rfl rfl rfl rfl rfl ?_
     refine zL (r := i64 (a0.size : Int)) rfl rfl rfl (LOp.len_str und9 rfl rfl) ?_
     refine zL (r := b true) rfl rfl rfl (LOp.eqb (LOp.geq rfl rfl rfl) hc6) ?_
     refine zA (r := b true) rfl rfl rfl rfl rfl ?_
     refine zN ?_
     refine RunC.cond_true rfl rfl ?_
     refine zQ ?_
     refine zA (r := i64 (-1)) rfl rfl rfl rfl rfl ?_
     refine zN ?_
     refine RunC.ret ?_
     have hq := Option.some.inj h
     subst q0
     exact bodyQ.pure (.inr rfl) rfl (Res.one rfl (RV.tmp rfl))
    ·refine RunC.regionW ?_
     refine zM (r := i64 (a1.size : Int)) rfl rfl rfl rfl rfl ?_
     refine zM (r := str a0) rfl rfl rfl rfl rfl ?_
     refine zL (r := i64 (a0.size : Int)) rfl rfl rfl (LOp.len_str und9 rfl rfl) ?_
     refine zL (r := b false) rfl rfl rfl (LOp.eqb (LOp.geq rfl rfl rfl) hc6) ?_
     refine zA (r := b false) rfl rfl rfl rfl rfl ?_
     refine zN ?_
     refine RunC.cond_false rfl rfl ?_
     refine RunC.seq ?_
     cases h
noncomputable def x_internal_stringslite_Cut (a0 : ByteArray) (a1 : ByteArray) : Option (ByteArray × ByteArray × Bool) :=
 obind (x_internal_stringslite_Index a0 a1) fun (r1 : Int) =>
 bsel (decide (0 ≤ r1)) (
  obind (subs? a0 0 r1) fun (t2 : ByteArray) =>
  olet (IntKind.i64.wrap (r1 + (a1.size : Int))) fun (x3 : Int) =>
  obind (subs? a0 x3 (a0.size : Int)) fun (t4 : ByteArray) =>
  some (t2, t4, true)) (
  some (a0, lit_99ba06bc, false))
theorem x_internal_stringslite_Cut_ok (a0 : ByteArray) (a1 : ByteArray) (q0 : ByteArray) (q1 : ByteArray) (q2 : Bool) (h : x_internal_stringslite_Cut a0 a1 = some (q0, q1, q2)) : Ev Tryz.prog 28 [str a0, str a1] [] (tup [str q0, str q1, b q2]) [] := by
 refine Ev.start Tryz.func28 rfl rfl 0 (τ := [(0, str a0), (1, str a1)]) rfl (Γ' := []) rfl (n := 47) rfl (g := 0) rfl (fun _ => rfl) ?_
 unfold x_internal_stringslite_Cut at h
 refine zQ ?_
 refine zA (r := str lit_99ba06bc) rfl rfl rfl rfl rfl ?_
 refine zA (r := str lit_99ba06bc) rfl rfl rfl rfl rfl ?_
 refine zA (r := b false) rfl rfl rfl rfl rfl ?_
 refine zN ?_
 refine RunC.seq ?_
 refine RunC.seq ?_
 obtain ⟨r1, hf1, h⟩ := obind_some h
 refine RunC.regionW ?_
 refine zM (r := str a0) rfl rfl rfl rfl rfl ?_
 refine zM (r := str a1) rfl rfl rfl rfl rfl ?_
 refine ROps.d (r := i64 r1) (fs := []) (Γ' := []) rfl rfl rfl (TOp.callB (CallAs.func ent42 rfl rfl) (Bors.cons (Bor.pure rfl) (Bors.cons (Bor.pure rfl) Bors.nil)) rfl rfl (x_internal_stringslite_Index_ok a0 a1 r1 hf1)) rfl ?_
 refine zA (r := i64 r1) rfl rfl rfl rfl rfl ?_
 refine zN ?_
 refine RunC.seq ?_
 rcases bsel_some h with ⟨hc2, h⟩ | ⟨hc2, h⟩
 ·refine RunC.regionW ?_
  refine zM (r := i64 r1) rfl rfl rfl rfl rfl ?_
  refine zL (r := b true) rfl rfl rfl (LOp.eqb (LOp.geq rfl rfl rfl) hc2) ?_
  refine zN ?_
  refine RunC.cond_true rfl rfl ?_
  refine RunC.seq ?_
  obtain ⟨t2, hs3, h⟩ := obind_some h
  obtain ⟨x3, hx4, h⟩ := olet_some h
  obtain ⟨t4, hs5, h⟩ := obind_some h
  refine RunC.region_draw (Γ' := []) 12 mixed 
   (TR.l (r := str a0) rfl rfl (LOp.move rfl rfl) <|
   (TR.l (r := i64 r1) rfl rfl (LOp.move rfl rfl) <|
   (TR.l (r := str t2) rfl rfl (LOp.subs_hi und9 rfl rfl rfl hs3) <|
   (TR.l (r := str a0) rfl rfl (LOp.move rfl rfl) <|
   (TR.l (r := i64 r1) rfl rfl (LOp.move rfl rfl) <|
   (TR.l (r := str a1) rfl rfl (LOp.move rfl rfl) <|
   (TR.l (r := i64 (a1.size : Int)) rfl rfl (LOp.len_str und9 rfl rfl) <|
   (TR.l (r := i64 x3) rfl rfl (LOp.eqr (LOp.add rfl rfl rfl) (congrArg (ik .i64) hx4)) <|
   (TR.l (r := str t4) rfl rfl (LOp.subs_lo und9 rfl rfl rfl hs5) <|
   (TR.l (r := str t2) rfl rfl (LOp.assign rfl rfl) <|
   (TR.l (r := str t4) rfl rfl (LOp.assign rfl rfl) <|
   (TR.l (r := b true) rfl rfl (LOp.assign rfl rfl) <|
   TR.nil)))))))))))) rfl (by kernel_rfl) rfl fills_nil rfl ?_
  iterate 12 refine ROps.dropS ?_
  refine ROps.drop0 ?_
  refine zN ?_
  refine RunC.ret ?_
  have hq := Option.some.inj h
  obtain ⟨hq0, hq⟩ := Prod.mk.inj hq
  obtain ⟨hq1, hq⟩ := Prod.mk.inj hq
  subst q0
  subst q1
  subst q2
  exact bodyQ.pure (.inr rfl) rfl (Res.three rfl (RV.tmp rfl) (RV.tmp rfl) (RV.tmp rfl))
 ·refine RunC.regionW ?_
  refine zM (r := i64 r1) rfl rfl rfl rfl rfl ?_
  refine zL (r := b false) rfl rfl rfl (LOp.eqb (LOp.geq rfl rfl rfl) hc2) ?_
  refine zN ?_
  refine RunC.cond_false rfl rfl ?_
  refine RunC.skip ?_
  refine zQ ?_
  refine zM (r := str a0) rfl rfl rfl rfl rfl ?_
  refine zA (r := str a0) rfl rfl rfl rfl rfl ?_
  refine zA (r := str lit_99ba06bc) rfl rfl rfl rfl rfl ?_
  refine zA (r := b false) rfl rfl rfl rfl rfl ?_
  refine zN ?_
  refine RunC.ret ?_
  have hq := Option.some.inj h
  obtain ⟨hq0, hq⟩ := Prod.mk.inj hq
  obtain ⟨hq1, hq⟩ := Prod.mk.inj hq
  subst q0
  subst q1
  subst q2
  exact bodyQ.pure (.inr rfl) rfl (Res.three rfl (RV.tmp rfl) (RV.tmp rfl) (RV.tmp rfl))
noncomputable def x_strings_Cut (a0 : ByteArray) (a1 : ByteArray) : Option (ByteArray × ByteArray × Bool) :=
 obind3 (x_internal_stringslite_Cut a0 a1) fun (r1 : ByteArray) (r2 : ByteArray) (r3 : Bool) =>
 some (r1, r2, r3)
theorem x_strings_Cut_ok (a0 : ByteArray) (a1 : ByteArray) (q0 : ByteArray) (q1 : ByteArray) (q2 : Bool) (h : x_strings_Cut a0 a1 = some (q0, q1, q2)) : Ev Tryz.prog 16 [str a0, str a1] [] (tup [str q0, str q1, b q2]) [] := by
 refine Ev.start Tryz.func16 rfl rfl 0 (τ := [(0, str a0), (1, str a1)]) rfl (Γ' := []) rfl (n := 27) rfl (g := 0) rfl (fun _ => rfl) ?_
 unfold x_strings_Cut at h
 refine zQ ?_
 refine zA (r := str lit_99ba06bc) rfl rfl rfl rfl rfl ?_
 refine zA (r := str lit_99ba06bc) rfl rfl rfl rfl rfl ?_
 refine zA (r := b false) rfl rfl rfl rfl rfl ?_
 refine zN ?_
 refine RunC.seq ?_
 obtain ⟨r1, r2, r3, hf1, h⟩ := obind3_some h
 refine RunC.regionW ?_
 refine zM (r := str a0) rfl rfl rfl rfl rfl ?_
 refine zM (r := str a1) rfl rfl rfl rfl rfl ?_
 refine ROps.d (r := tup [str r1, str r2, b r3]) (fs := []) (Γ' := []) rfl rfl rfl (TOp.callB (CallAs.func ent28 rfl rfl) (Bors.cons (Bor.pure rfl) (Bors.cons (Bor.pure rfl) Bors.nil)) rfl rfl (x_internal_stringslite_Cut_ok a0 a1 r1 r2 r3 hf1)) rfl ?_
 refine zL (r := str r1) rfl rfl rfl (LOp.extract rfl rfl rfl) ?_
 refine zL (r := str r2) rfl rfl rfl (LOp.extract rfl rfl rfl) ?_
 refine zL (r := b r3) rfl rfl rfl (LOp.extract rfl rfl rfl) ?_
 refine zA (r := str r1) rfl rfl rfl rfl rfl ?_
 refine zA (r := str r2) rfl rfl rfl rfl rfl ?_
 refine zA (r := b r3) rfl rfl rfl rfl rfl ?_
 refine zN ?_
 refine RunC.ret ?_
 have hq := Option.some.inj h
 obtain ⟨hq0, hq⟩ := Prod.mk.inj hq
 obtain ⟨hq1, hq⟩ := Prod.mk.inj hq
 subst q0
 subst q1
 subst q2
 exact bodyQ.pure (.inr rfl) rfl (Res.three rfl (RV.tmp rfl) (RV.tmp rfl) (RV.tmp rfl))
noncomputable def x_strings_Index (a0 : ByteArray) (a1 : ByteArray) : Option (Int) :=
 obind (x_internal_stringslite_Index a0 a1) fun (r1 : Int) =>
 some r1
theorem x_strings_Index_ok (a0 : ByteArray) (a1 : ByteArray) (q0 : Int) (h : x_strings_Index a0 a1 = some q0) : Ev Tryz.prog 62 [str a0, str a1] [] (i64 q0) [] := by
 refine Ev.start Tryz.func62 rfl rfl 0 (τ := [(0, str a0), (1, str a1)]) rfl (Γ' := []) rfl (n := 17) rfl (g := 0) rfl (fun _ => rfl) ?_
 unfold x_strings_Index at h
 refine zQ ?_
 refine zA (r := i64 0) rfl rfl rfl rfl rfl ?_
 refine zN ?_
 refine RunC.seq ?_
 obtain ⟨r1, hf1, h⟩ := obind_some h
 refine RunC.regionW ?_
 refine zM (r := str a0) rfl rfl rfl rfl rfl ?_
 refine zM (r := str a1) rfl rfl rfl rfl rfl ?_
 refine ROps.d (r := i64 r1) (fs := []) (Γ' := []) rfl rfl rfl (TOp.callB (CallAs.func ent42 rfl rfl) (Bors.cons (Bor.pure rfl) (Bors.cons (Bor.pure rfl) Bors.nil)) rfl rfl (x_internal_stringslite_Index_ok a0 a1 r1 hf1)) rfl ?_
 refine zA (r := i64 r1) rfl rfl rfl rfl rfl ?_
 refine zN ?_
 refine RunC.ret ?_
 have hq := Option.some.inj h
 subst q0
 exact bodyQ.pure (.inr rfl) rfl (Res.one rfl (RV.tmp rfl))
noncomputable def x_strings_Count_b1 (a1 : ByteArray) (s2 : ByteArray) (v3 : Int) : Option (LR (ByteArray × Int) (Unit) (Int)) :=
 obind (x_strings_Index s2 a1) fun (r4 : Int) =>
 bsel (decide (r4 = (-1))) (
  some (LR.ret v3)) (
  olet (IntKind.i64.wrap (v3 + 1)) fun (x5 : Int) =>
  olet (IntKind.i64.wrap (r4 + (a1.size : Int))) fun (x6 : Int) =>
  obind (subs? s2 x6 (s2.size : Int)) fun (t7 : ByteArray) =>
  some (LR.next (t7, x5)))
noncomputable def x_strings_Count_s1 (a1 : ByteArray) : (ByteArray × Int) → Option (LR (ByteArray × Int) (Unit) (Int)) := fun s => x_strings_Count_b1 a1 s.1 s.2
noncomputable def x_strings_Count (a0 : ByteArray) (a1 : ByteArray) : Option (Int) :=
 bsel (decide ((a1.size : Int) = 0)) (
  none) (
  bsel (decide ((a1.size : Int) = 1)) (
   obind (sat? a1 0) fun (e1 : Int) =>
   some (cntB a0 e1)) (
   obind (loopM (x_strings_Count_s1 a1) (a0, 0)) fun z => osum z (fun _ => none) (fun r => some r)))
theorem x_strings_Count_ok (a0 : ByteArray) (a1 : ByteArray) (q0 : Int) (h : x_strings_Count a0 a1 = some q0) : Ev Tryz.prog 61 [str a0, str a1] [] (i64 q0) [] := by
 refine Ev.start Tryz.func61 rfl rfl 0 (τ := [(0, str a0), (1, str a1)]) rfl (Γ' := []) rfl (n := 69) rfl (g := 0) rfl (fun _ => rfl) ?_
 unfold x_strings_Count at h
 refine zQ ?_
 refine zA (r := i64 0) rfl rfl rfl rfl rfl ?_
 refine zN ?_
 refine RunC.seq ?_
 refine RunC.seq ?_
 rcases bsel_some h with ⟨hc1, h⟩ | ⟨hc1, h⟩
 ·refine RunC.regionW ?_
  refine zM (r := str a1) rfl rfl rfl rfl rfl ?_
  refine zL (r := i64 (a1.size : Int)) rfl rfl rfl (LOp.len_str und9 rfl rfl) ?_
  refine zL (r := b true) rfl rfl rfl (LOp.eqb (LOp.eql rfl rfl rfl) hc1) ?_
  refine zN ?_
  refine RunC.cond_true rfl rfl ?_
  refine RunC.seq ?_
  cases h
 ·refine RunC.regionW ?_
  refine zM (r := str a1) rfl rfl rfl rfl rfl ?_
  refine zL (r := i64 (a1.size : Int)) rfl rfl rfl (LOp.len_str und9 rfl rfl) ?_
  refine zL (r := b false) rfl rfl rfl (LOp.eqb (LOp.eql rfl rfl rfl) hc1) ?_
  refine zN ?_
  refine RunC.cond_false rfl rfl ?_
  refine RunC.skip ?_
  refine RunC.seq ?_
  refine RunC.seq ?_
  rcases bsel_some h with ⟨hc2, h⟩ | ⟨hc2, h⟩
  ·refine RunC.regionW ?_
   refine zM (r := str a1) rfl rfl rfl rfl rfl ?_
   refine zL (r := i64 (a1.size : Int)) rfl rfl rfl (LOp.len_str und9 rfl rfl) ?_
   refine zL (r := b true) rfl rfl rfl (LOp.eqb (LOp.eql rfl rfl rfl) hc2) ?_
   refine zN ?_
   refine RunC.cond_true rfl rfl ?_
   refine RunC.seq ?_
   obtain ⟨e1, he3, h⟩ := obind_some h
   refine RunC.regionW ?_
   refine zM (r := str a0) rfl rfl rfl rfl rfl ?_
   refine zM (r := str a1) rfl rfl rfl rfl rfl ?_
   refine zL (r := ik .u8 e1) rfl rfl rfl (LOp.index_str und9 rfl rfl rfl he3) ?_
   refine zL (r := i64 (cntB a0 e1)) rfl rfl rfl (LOp.cntB ext78 rfl rfl rfl) ?_
   refine zA (r := i64 (cntB a0 e1)) rfl rfl rfl rfl rfl ?_
   refine zN ?_
   refine RunC.ret ?_
   have hq := Option.some.inj h
   subst q0
   exact bodyQ.pure (.inr rfl) rfl (Res.one rfl (RV.tmp rfl))
  ·refine RunC.regionW ?_
   refine zM (r := str a1) rfl rfl rfl rfl rfl ?_
   refine zL (r := i64 (a1.size : Int)) rfl rfl rfl (LOp.len_str und9 rfl rfl) ?_
   refine zL (r := b false) rfl rfl rfl (LOp.eqb (LOp.eql rfl rfl rfl) hc2) ?_
   refine zN ?_
   refine RunC.cond_false rfl rfl ?_
   refine RunC.skip ?_
   refine zQ ?_
   refine zA (r := i64 0) rfl rfl rfl rfl rfl ?_
   refine zN ?_
   obtain ⟨z2, hz_2, h⟩ := obind_some h
   refine RunC.block (RunC.loop (RunL.loopM (x := z2) (x_strings_Count_s1 a1) (fun (s : ByteArray × Int) τ Γ => WeakLe τ [(0, str s.1), (1, str a1), (5, i64 s.2)] ∧ DeadLe Γ []) ?_ _ _ _ hz_2 ⟨⟨aR, aR, aR, trivial⟩, trivial⟩))
   rintro ⟨s2, v3⟩ τ2 Γ2 y2_ ⟨hw2, hd2⟩ h2_ ho2 hr2
   refine RunC.wl (τ' := [(0, str s2), (1, str a1), (5, i64 v3)]) (Γ' := []) hw2 hd2 ?_
   replace h2_ : x_strings_Count_b1 a1 s2 v3 = some y2_ := h2_
   unfold x_strings_Count_b1 at h2_
   refine RunC.block ?_
   refine RunC.seq ?_
   obtain ⟨r4, hf4, h2_⟩ := obind_some h2_
   refine RunC.regionW ?_
   refine zM (r := str s2) rfl rfl rfl rfl rfl ?_
   refine zM (r := str a1) rfl rfl rfl rfl rfl ?_
   refine ROps.d (r := i64 r4) (fs := []) (Γ' := []) rfl rfl rfl (TOp.callB (CallAs.func ent62 rfl rfl) (Bors.cons (Bor.pure rfl) (Bors.cons (Bor.pure rfl) Bors.nil)) rfl rfl (x_strings_Index_ok s2 a1 r4 hf4)) rfl ?_
   refine zA (r := i64 r4) rfl rfl rfl rfl rfl ?_
   refine zN ?_
   refine RunC.seq ?_
   refine RunC.seq ?_
   rcases bsel_some h2_ with ⟨hc5, h2_⟩ | ⟨hc5, h2_⟩
   ·refine RunC.regionW ?_
    refine zM (r := i64 r4) rfl rfl rfl rfl rfl ?_
    refine zL (r := b true) rfl rfl rfl (LOp.eqb (LOp.eql rfl rfl rfl) hc5) ?_
    refine zN ?_
    refine RunC.cond_true rfl rfl ?_
    refine zQ ?_
    refine zM (r := i64 v3) rfl rfl rfl rfl rfl ?_
    refine zA (r := i64 v3) rfl rfl rfl rfl rfl ?_
    refine zN ?_
    refine RunC.ret ?_
    cases Option.some.inj h2_
    have hx3_ := hr2 _ rfl
    subst hx3_
    have hq := Option.some.inj h
    subst q0
    exact bodyQ.pure (.inr rfl) rfl (Res.one rfl (RV.tmp rfl))
   ·refine RunC.regionW ?_
    refine zM (r := i64 r4) rfl rfl rfl rfl rfl ?_
    refine zL (r := b false) rfl rfl rfl (LOp.eqb (LOp.eql rfl rfl rfl) hc5) ?_
    refine zN ?_
    refine RunC.cond_false rfl rfl ?_
    refine RunC.skip ?_
    refine RunC.seq ?_
    obtain ⟨x5, hx6, h2_⟩ := olet_some h2_
    refine RunC.regionW ?_
    refine zM (r := i64 v3) rfl rfl rfl rfl rfl ?_
    refine zL (r := i64 x5) rfl rfl rfl (LOp.eqr (LOp.add rfl rfl rfl) (congrArg (ik .i64) hx6)) ?_
    refine zA (r := i64 x5) rfl rfl rfl rfl rfl ?_
    refine zN ?_
    obtain ⟨x6, hx7, h2_⟩ := olet_some h2_
    obtain ⟨t7, hs8, h2_⟩ := obind_some h2_
    refine RunC.regionW ?_
    refine zM (r := str s2) rfl rfl rfl rfl rfl ?_
    refine zM (r := i64 r4) rfl rfl rfl rfl rfl ?_
    refine zM (r := str a1) rfl rfl rfl rfl rfl ?_
    refine zL (r := i64 (a1.size : Int)) rfl rfl rfl (LOp.len_str und9 rfl rfl) ?_
    refine zL (r := i64 x6) rfl rfl rfl (LOp.eqr (LOp.add rfl rfl rfl) (congrArg (ik .i64) hx7)) ?_
    refine zL (r := str t7) rfl rfl rfl (LOp.subs_lo und9 rfl rfl rfl hs8) ?_
    refine zA (r := str t7) rfl rfl rfl rfl rfl ?_
    refine zN ?_
    cases Option.some.inj h2_
    exact ⟨_, rfl, ⟨aR, aR, aR, trivial⟩, trivial⟩
noncomputable def x_strings_genSplit_b2 (a1 : ByteArray) (a2 : Int) (x5 : Int) (L6 : List ByteArray) (s8 : ByteArray) (v9 : Int) : Option (LR ((List ByteArray) × ByteArray × Int) ((List ByteArray) × ByteArray × Int) ((List ByteArray))) :=
 bsel (decide (v9 < x5)) (
  obind (x_strings_Index s8 a1) fun (r10 : Int) =>
  bsel (decide (r10 < 0)) (
   some (LR.out (L6, s8, v9))) (
   olet (IntKind.i64.wrap (r10 + a2)) fun (x11 : Int) =>
   obind (subs? s8 0 x11) fun (t12 : ByteArray) =>
   obind (setAt? L6 v9 t12) fun (L13 : List ByteArray) =>
   olet (IntKind.i64.wrap (r10 + (a1.size : Int))) fun (x14 : Int) =>
   obind (subs? s8 x14 (s8.size : Int)) fun (t15 : ByteArray) =>
   olet (IntKind.i64.wrap (v9 + 1)) fun (x16 : Int) =>
   some (LR.next (L13, t15, x16)))) (
  some (LR.out (L6, s8, v9)))
noncomputable def x_strings_genSplit_s2 (a1 : ByteArray) (a2 : Int) (x5 : Int) : ((List ByteArray) × ByteArray × Int) → Option (LR ((List ByteArray) × ByteArray × Int) ((List ByteArray) × ByteArray × Int) ((List ByteArray))) := fun s => x_strings_genSplit_b2 a1 a2 x5 s.1 s.2.1 s.2.2
noncomputable def x_strings_genSplit_k2 (L17 : List ByteArray) (s19 : ByteArray) (v20 : Int) : Option ((List ByteArray)) :=
 obind (setAt? L17 v20 s19) fun (L21 : List ByteArray) =>
 olet (IntKind.i64.wrap (v20 + 1)) fun (x22 : Int) =>
 obind (sub? L21 0 x22) fun (L23 : List ByteArray) =>
 some L23
noncomputable def x_strings_genSplit_k1 (a0 : ByteArray) (a1 : ByteArray) (a2 : Int) (v3 : Int) : Option ((List ByteArray)) :=
 olet (IntKind.i64.wrap ((a0.size : Int) + 1)) fun (x4 : Int) =>
 need (mkok 16 (imin v3 x4)) <|
 olet (IntKind.i64.wrap ((imin v3 x4) - 1)) fun (x5 : Int) =>
 obind (loopM (x_strings_genSplit_s2 a1 a2 x5) ((List.replicate (imin v3 x4).toNat lit_99ba06bc), a0, 0)) fun z => osum z (fun e => x_strings_genSplit_k2 e.1 e.2.1 e.2.2) (fun r => some r)
noncomputable def x_strings_genSplit (a0 : ByteArray) (a1 : ByteArray) (a2 : Int) (a3 : Int) : Option ((List ByteArray)) :=
 bsel (decide (a3 = 0)) (
  some ([] : List ByteArray)) (
  bsel (eqs a1 lit_99ba06bc) (
   none) (
   bsel (decide (a3 < 0)) (
    obind (x_strings_Count a0 a1) fun (r1 : Int) =>
    olet (IntKind.i64.wrap (r1 + 1)) fun (x2 : Int) =>
    x_strings_genSplit_k1 a0 a1 a2 x2) (
    x_strings_genSplit_k1 a0 a1 a2 a3)))
theorem x_strings_genSplit_ok (a0 : ByteArray) (a1 : ByteArray) (a2 : Int) (a3 : Int) (q0 : List ByteArray) (h : x_strings_genSplit a0 a1 a2 a3 = some q0) : Ev Tryz.prog 43 [str a0, str a1, i64 a2, i64 a3] [] (oref 0 0 0 q0.length) [⟨0, some (q0.map str)⟩] := by
 refine Ev.start Tryz.func43 rfl rfl 1 (τ := [(0, str a0), (1, str a1), (2, i64 a2), (3, i64 a3)]) rfl (Γ' := [⟨0, none⟩]) rfl (n := 133) rfl (g := 0) rfl (fun _ => rfl) ?_
 unfold x_strings_genSplit at h
 refine zQ ?_
 refine zA (r := nilsl) rfl rfl rfl rfl rfl ?_
 refine zN ?_
 refine RunC.seq ?_
 refine RunC.seq ?_
 rcases bsel_some h with ⟨hc1, h⟩ | ⟨hc1, h⟩
 ·refine RunC.regionW ?_
  refine zM (r := i64 a3) rfl rfl rfl rfl rfl ?_
  refine zL (r := b true) rfl rfl rfl (LOp.eqb (LOp.eql rfl rfl rfl) hc1) ?_
  refine zN ?_
  refine RunC.cond_true rfl rfl ?_
  refine zQ ?_
  refine zA (r := nilsl) rfl rfl rfl rfl rfl ?_
  refine zN ?_
  refine RunC.nil_slot (Γ' := [⟨1, some (([] : List ByteArray).map str)⟩]) 8 0 rfl rfl rfl ?_
  refine RunC.ret ?_
  have hq := Option.some.inj h
  subst q0
  exact bodyQ.mk (r' := oref 0 1 0 (([] : List ByteArray).length)) [(0, 1)] (.inr rfl) rfl (show List.Nodup [0] from by decide) rfl rfl (Res.eq (Res.one rfl (RV.tmp rfl)) (by rw [(show ([] : List ByteArray).length = 0 from rfl)] <;> rfl)) (SelL.arr0 (f := str) (fun _ => rfl) rfl trivial)
 ·refine RunC.regionW ?_
  refine zM (r := i64 a3) rfl rfl rfl rfl rfl ?_
  refine zL (r := b false) rfl rfl rfl (LOp.eqb (LOp.eql rfl rfl rfl) hc1) ?_
  refine zN ?_
  refine RunC.cond_false rfl rfl ?_
  refine RunC.skip ?_
  refine RunC.seq ?_
  refine RunC.seq ?_
  rcases bsel_some h with ⟨hc2, h⟩ | ⟨hc2, h⟩
  ·refine RunC.regionW ?_
   refine zM (r := str a1) rfl rfl rfl rfl rfl ?_
   refine zL (r := b true) rfl rfl rfl (LOp.eqb (LOp.eqs rfl rfl rfl) hc2) ?_
   refine zN ?_
   refine RunC.cond_true rfl rfl ?_
   refine RunC.seq ?_
   cases h
  ·refine RunC.regionW ?_
   refine zM (r := str a1) rfl rfl rfl rfl rfl ?_
   refine zL (r := b false) rfl rfl rfl (LOp.eqb (LOp.eqs rfl rfl rfl) hc2) ?_
   refine zN ?_
   refine RunC.cond_false rfl rfl ?_
   refine RunC.skip ?_
   refine RunC.seq ?_
   refine RunC.cutN (fun τ Γ => ∃ (v3 : Int), WeakLe τ [(0, str a0), (1, str a1), (2, i64 a2), (3, i64 v3)] ∧ DeadLe Γ [⟨0, none⟩] ∧ x_strings_genSplit_k1 a0 a1 a2 v3 = some q0) ?_ ?_
   ·refine RunC.seq ?_
    rcases bsel_some h with ⟨hc3, h⟩ | ⟨hc3, h⟩
    ·refine RunC.regionW ?_
     refine zM (r := i64 a3) rfl rfl rfl rfl rfl ?_
     refine zL (r := b true) rfl rfl rfl (LOp.eqb (LOp.lss rfl rfl rfl) hc3) ?_
     refine zN ?_
     refine RunC.cond_true rfl rfl ?_
     obtain ⟨r1, hf4, h⟩ := obind_some h
     obtain ⟨x2, hx5, h⟩ := olet_some h
     refine RunC.regionW ?_
     refine zM (r := str a0) rfl rfl rfl rfl rfl ?_
     refine zM (r := str a1) rfl rfl rfl rfl rfl ?_
     refine ROps.d (r := i64 r1) (fs := []) (Γ' := [⟨0, none⟩]) rfl rfl rfl (TOp.callB (CallAs.func ent61 rfl rfl) (Bors.cons (Bor.pure rfl) (Bors.cons (Bor.pure rfl) Bors.nil)) rfl rfl (x_strings_Count_ok a0 a1 r1 hf4)) rfl ?_
     refine zL (r := i64 x2) rfl rfl rfl (LOp.eqr (LOp.add rfl rfl rfl) (congrArg (ik .i64) hx5)) ?_
     refine zA (r := i64 x2) rfl rfl rfl rfl rfl ?_
     refine zN ?_
     exact ⟨x2, ⟨aR, aR, aR, aR, trivial⟩, ⟨⟨rfl, .inr rfl⟩, trivial⟩, h⟩
    ·refine RunC.regionW ?_
     refine zM (r := i64 a3) rfl rfl rfl rfl rfl ?_
     refine zL (r := b false) rfl rfl rfl (LOp.eqb (LOp.lss rfl rfl rfl) hc3) ?_
     refine zN ?_
     refine RunC.cond_false rfl rfl ?_
     refine RunC.skip ?_
     exact ⟨a3, ⟨aR, aR, aR, aR, trivial⟩, ⟨⟨rfl, .inr rfl⟩, trivial⟩, h⟩
   ·rintro τ3 Γ3 ⟨v3, hw3, hd3, h⟩
    refine RunC.wl hw3 hd3 ?_
    unfold x_strings_genSplit_k1 at h
    refine RunC.seq ?_
    obtain ⟨x4, hx6, h⟩ := olet_some h
    refine RunC.regionW ?_
    refine zM (r := i64 v3) rfl rfl rfl rfl rfl ?_
    refine zM (r := str a0) rfl rfl rfl rfl rfl ?_
    refine zL (r := i64 (a0.size : Int)) rfl rfl rfl (LOp.len_str und9 rfl rfl) ?_
    refine zL (r := i64 x4) rfl rfl rfl (LOp.eqr (LOp.add rfl rfl rfl) (congrArg (ik .i64) hx6)) ?_
    refine zL (r := i64 (imin v3 x4)) rfl rfl rfl (LOp.min2 rfl rfl rfl) ?_
    refine zA (r := i64 (imin v3 x4)) rfl rfl rfl rfl rfl ?_
    refine zN ?_
    refine RunC.seq ?_
    obtain ⟨hm7, h⟩ := need_some h
    refine RunC.regionW ?_
    refine zM (r := i64 (imin v3 x4)) rfl rfl rfl rfl rfl ?_
    refine ROps.d (r := oref 0 1 0 ((imin v3 x4).toNat)) (fs := [(0, ((List.replicate (imin v3 x4).toNat lit_99ba06bc).map str))]) (Γ' := [⟨1, some ((List.replicate (imin v3 x4).toNat lit_99ba06bc).map str)⟩]) rfl rfl rfl (TOp.mkS (g := ⟨0, none⟩) (t := 46) (e := 9) (by_ := 16) (f := str) (zv := lit_99ba06bc) 0 rfl und46 tin9 rfl siz9 zer9 rfl zel9 rfl rfl rfl hm7) rfl ?_
    refine zA (r := oref 0 1 0 ((imin v3 x4).toNat)) rfl rfl rfl rfl rfl ?_
    refine zN ?_
    refine RunC.seq ?_
    obtain ⟨x5, hx8, h⟩ := olet_some h
    refine RunC.regionW ?_
    refine zM (r := i64 (imin v3 x4)) rfl rfl rfl rfl rfl ?_
    refine zL (r := i64 x5) rfl rfl rfl (LOp.eqr (LOp.sub rfl rfl rfl) (congrArg (ik .i64) hx8)) ?_
    refine zA (r := i64 x5) rfl rfl rfl rfl rfl ?_
    refine zN ?_
    refine zQ ?_
    refine zA (r := i64 0) rfl rfl rfl rfl rfl ?_
    refine zN ?_
    refine RunC.seq ?_
    obtain ⟨z4, hz_4, h⟩ := obind_some h
    refine RunC.cutN (fun τ Γ => ∃ (L17 : List ByteArray) (s19 : ByteArray) (v20 : Int), L17.length = (imin v3 x4).toNat ∧ WeakLe τ [(0, str s19), (9, oref 0 1 0 ((imin v3 x4).toNat)), (10, i64 v20)] ∧ DeadLe Γ [⟨1, some (L17.map str)⟩] ∧ z4 = .inl (L17, s19, v20)) ?_ ?_
    ·refine RunC.block (RunC.loop (RunL.loopM (x := z4) (x_strings_genSplit_s2 a1 a2 x5) (fun (s : (List ByteArray) × ByteArray × Int) τ Γ => s.1.length = (imin v3 x4).toNat ∧ WeakLe τ [(0, str s.2.1), (1, str a1), (2, i64 a2), (3, i64 x5), (9, oref 0 1 0 ((imin v3 x4).toNat)), (10, i64 s.2.2)] ∧ DeadLe Γ [⟨1, some (s.1.map str)⟩]) ?_ _ _ _ hz_4 ⟨List.length_replicate, ⟨aR, aR, aR, aR, aR, aR, trivial⟩, ⟨⟨rfl, .inr rfl⟩, trivial⟩⟩))
     rintro ⟨L6, s8, v9⟩ τ4 Γ4 y4_ ⟨hl7, hw4, hd4⟩ h4_ ho4 hr4
     refine RunC.wl (τ' := [(0, str s8), (1, str a1), (2, i64 a2), (3, i64 x5), (9, oref 0 1 0 ((imin v3 x4).toNat)), (10, i64 v9)]) (Γ' := [⟨1, some (L6.map str)⟩]) hw4 hd4 ?_
     replace hl7 : L6.length = (imin v3 x4).toNat := hl7
     replace h4_ : x_strings_genSplit_b2 a1 a2 x5 L6 s8 v9 = some y4_ := h4_
     unfold x_strings_genSplit_b2 at h4_
     refine RunC.seq ?_
     refine RunC.seq ?_
     rcases bsel_some h4_ with ⟨hc9, h4_⟩ | ⟨hc9, h4_⟩
     ·refine RunC.regionW ?_
      refine zM (r := i64 v9) rfl rfl rfl rfl rfl ?_
      refine zM (r := i64 x5) rfl rfl rfl rfl rfl ?_
      refine zL (r := b true) rfl rfl rfl (LOp.eqb (LOp.lss rfl rfl rfl) hc9) ?_
      refine zN ?_
      refine RunC.cond_true rfl rfl ?_
      refine RunC.skip ?_
      refine RunC.block ?_
      refine RunC.seq ?_
      obtain ⟨r10, hf10, h4_⟩ := obind_some h4_
      refine RunC.regionW ?_
      refine zM (r := str s8) rfl rfl rfl rfl rfl ?_
      refine zM (r := str a1) rfl rfl rfl rfl rfl ?_
      refine ROps.d (r := i64 r10) (fs := []) (Γ' := [⟨1, some (L6.map str)⟩]) rfl rfl rfl (TOp.callB (CallAs.func ent62 rfl rfl) (Bors.cons (Bor.pure rfl) (Bors.cons (Bor.pure rfl) Bors.nil)) rfl rfl (x_strings_Index_ok s8 a1 r10 hf10)) rfl ?_
      refine zA (r := i64 r10) rfl rfl rfl rfl rfl ?_
      refine zN ?_
      refine RunC.seq ?_
      refine RunC.seq ?_
      rcases bsel_some h4_ with ⟨hc11, h4_⟩ | ⟨hc11, h4_⟩
      ·refine RunC.regionW ?_
       refine zM (r := i64 r10) rfl rfl rfl rfl rfl ?_
       refine zL (r := b true) rfl rfl rfl (LOp.eqb (LOp.lss rfl rfl rfl) hc11) ?_
       refine zN ?_
       refine RunC.cond_true rfl rfl ?_
       refine RunC.exit ?_
       cases Option.some.inj h4_
       have hx := ho4 _ rfl
       exact ⟨L6, s8, v9, hl7, ⟨aR, aR, aR, trivial⟩, ⟨⟨rfl, .inr rfl⟩, trivial⟩, hx⟩
      ·refine RunC.regionW ?_
       refine zM (r := i64 r10) rfl rfl rfl rfl rfl ?_
       refine zL (r := b false) rfl rfl rfl (LOp.eqb (LOp.lss rfl rfl rfl) hc11) ?_
       refine zN ?_
       refine RunC.cond_false rfl rfl ?_
       refine RunC.skip ?_
       refine RunC.seq ?_
       obtain ⟨x11, hx12, h4_⟩ := olet_some h4_
       obtain ⟨t12, hs13, h4_⟩ := obind_some h4_
       obtain ⟨L13, he14, h4_⟩ := obind_some h4_
       refine RunC.regionW ?_
       refine zM (r := oref 0 1 0 ((imin v3 x4).toNat)) rfl rfl rfl rfl rfl ?_
       refine zM (r := i64 v9) rfl rfl rfl rfl rfl ?_
       refine zM (r := str s8) rfl rfl rfl rfl rfl ?_
       refine zM (r := i64 r10) rfl rfl rfl rfl rfl ?_
       refine zM (r := i64 a2) rfl rfl rfl rfl rfl ?_
       refine zL (r := i64 x11) rfl rfl rfl (LOp.eqr (LOp.add rfl rfl rfl) (congrArg (ik .i64) hx12)) ?_
       refine zL (r := str t12) rfl rfl rfl (LOp.subs_hi und9 rfl rfl rfl hs13) ?_
       refine ROps.d (r := optr 0 1 v9.toNat) (fs := []) (Γ' := [⟨1, some (L6.map str)⟩]) rfl rfl rfl (TOp.ixo und46 siz9 rfl rfl rfl (set_in he14 hl7) rfl) rfl ?_
       refine ROps.st (f := str) (i := v9) (Γ' := [⟨1, some (L13.map str)⟩]) rfl siz9 rfl rfl rfl aR rfl rfl rfl he14 rfl ?_
       refine zN ?_
       refine RunC.wl (τ' := [(0, str s8), (1, str a1), (2, i64 a2), (3, i64 x5), (9, oref 0 1 0 ((imin v3 x4).toNat)), (10, i64 v9), (11, i64 r10)]) (Γ' := [⟨1, some (L13.map str)⟩]) ⟨aR, aR, aR, aR, aR, aR, aR, trivial⟩ ⟨⟨rfl, .inr rfl⟩, trivial⟩ ?_
       refine RunC.seq ?_
       obtain ⟨x14, hx15, h4_⟩ := olet_some h4_
       obtain ⟨t15, hs16, h4_⟩ := obind_some h4_
       refine RunC.regionW ?_
       refine zM (r := str s8) rfl rfl rfl rfl rfl ?_
       refine zM (r := i64 r10) rfl rfl rfl rfl rfl ?_
       refine zM (r := str a1) rfl rfl rfl rfl rfl ?_
       refine zL (r := i64 (a1.size : Int)) rfl rfl rfl (LOp.len_str und9 rfl rfl) ?_
       refine zL (r := i64 x14) rfl rfl rfl (LOp.eqr (LOp.add rfl rfl rfl) (congrArg (ik .i64) hx15)) ?_
       refine zL (r := str t15) rfl rfl rfl (LOp.subs_lo und9 rfl rfl rfl hs16) ?_
       refine zA (r := str t15) rfl rfl rfl rfl rfl ?_
       refine zN ?_
       obtain ⟨x16, hx17, h4_⟩ := olet_some h4_
       refine RunC.regionW ?_
       refine zM (r := i64 v9) rfl rfl rfl rfl rfl ?_
       refine zL (r := i64 x16) rfl rfl rfl (LOp.eqr (LOp.add rfl rfl rfl) (congrArg (ik .i64) hx17)) ?_
       refine zA (r := i64 x16) rfl rfl rfl rfl rfl ?_
       refine zN ?_
       cases Option.some.inj h4_
       exact ⟨_, rfl, ((setAt?_len he14).trans hl7), ⟨aR, aR, aR, aR, aR, aR, trivial⟩, ⟨⟨rfl, .inr rfl⟩, trivial⟩⟩
     ·refine RunC.regionW ?_
      refine zM (r := i64 v9) rfl rfl rfl rfl rfl ?_
      refine zM (r := i64 x5) rfl rfl rfl rfl rfl ?_
      refine zL (r := b false) rfl rfl rfl (LOp.eqb (LOp.lss rfl rfl rfl) hc9) ?_
      refine zN ?_
      refine RunC.cond_false rfl rfl ?_
      refine RunC.exit ?_
      cases Option.some.inj h4_
      have hx := ho4 _ rfl
      exact ⟨L6, s8, v9, hl7, ⟨aR, aR, aR, trivial⟩, ⟨⟨rfl, .inr rfl⟩, trivial⟩, hx⟩
    ·rintro τ5 Γ5 ⟨L17, s19, v20, hl18, hw5, hd5, rfl⟩
     refine RunC.wl hw5 hd5 ?_
     replace h : x_strings_genSplit_k2 L17 s19 v20 = some q0 := h
     unfold x_strings_genSplit_k2 at h
     refine RunC.seq ?_
     obtain ⟨L21, he18, h⟩ := obind_some h
     refine RunC.regionW ?_
     refine zM (r := oref 0 1 0 ((imin v3 x4).toNat)) rfl rfl rfl rfl rfl ?_
     refine zM (r := i64 v20) rfl rfl rfl rfl rfl ?_
     refine zM (r := str s19) rfl rfl rfl rfl rfl ?_
     refine ROps.d (r := optr 0 1 v20.toNat) (fs := []) (Γ' := [⟨1, some (L17.map str)⟩]) rfl rfl rfl (TOp.ixo und46 siz9 rfl rfl rfl (set_in he18 hl18) rfl) rfl ?_
     refine ROps.st (f := str) (i := v20) (Γ' := [⟨1, some (L21.map str)⟩]) rfl siz9 rfl rfl rfl aR rfl rfl rfl he18 rfl ?_
     refine zN ?_
     refine RunC.seq ?_
     obtain ⟨x22, hx19, h⟩ := olet_some h
     obtain ⟨L23, hs20, h⟩ := obind_some h
     refine RunC.regionW ?_
     refine zM (r := oref 0 1 0 ((imin v3 x4).toNat)) rfl rfl rfl rfl rfl ?_
     refine zM (r := i64 v20) rfl rfl rfl rfl rfl ?_
     refine zL (r := i64 x22) rfl rfl rfl (LOp.eqr (LOp.add rfl rfl rfl) (congrArg (ik .i64) hx19)) ?_
     refine ROps.slice_hi_o (f := str) (Γ' := [⟨1, some (L23.map str)⟩]) rfl und46 siz9 rfl rfl rfl rfl rfl ((setAt?_len he18).trans hl18) hs20 rfl rfl ?_
     refine zA (r := oref 0 1 0 L23.length) rfl rfl rfl rfl rfl ?_
     refine zN ?_
     refine RunC.ret ?_
     have hq := Option.some.inj h
     subst q0
     exact bodyQ.mk (r' := oref 0 1 0 L23.length) [(0, 1)] (.inr rfl) rfl (show List.Nodup [0] from by decide) rfl rfl (Res.one rfl (RV.tmp rfl)) (SelL.arr0 (f := str) (fun _ => rfl) rfl trivial)
noncomputable def x_strings_Split (a0 : ByteArray) (a1 : ByteArray) : Option ((List ByteArray)) :=
 obind (x_strings_genSplit a0 a1 0 (-1)) fun (r1 : List ByteArray) =>
 some r1
theorem x_strings_Split_ok (a0 : ByteArray) (a1 : ByteArray) (q0 : List ByteArray) (h : x_strings_Split a0 a1 = some q0) : Ev Tryz.prog 29 [str a0, str a1] [] (oref 0 0 0 q0.length) [⟨0, some (q0.map str)⟩] := by
 refine Ev.start Tryz.func29 rfl rfl 1 (τ := [(0, str a0), (1, str a1)]) rfl (Γ' := [⟨0, none⟩]) rfl (n := 17) rfl (g := 0) rfl (fun _ => rfl) ?_
 unfold x_strings_Split at h
 refine zQ ?_
 refine zA (r := nilsl) rfl rfl rfl rfl rfl ?_
 refine zN ?_
 refine RunC.seq ?_
 obtain ⟨r1, hf1, h⟩ := obind_some h
 refine RunC.regionW ?_
 refine zM (r := str a0) rfl rfl rfl rfl rfl ?_
 refine zM (r := str a1) rfl rfl rfl rfl rfl ?_
 refine ROps.d (r := oref 0 1 0 r1.length) (fs := [(0, (r1.map str))]) (Γ' := [⟨1, some (r1.map str)⟩]) rfl rfl rfl (TOp.callBN (ls := [(r1.map str)]) [0] (CallAs.func ent43 rfl rfl) (Bors.cons (Bor.pure rfl) (Bors.cons (Bor.pure rfl) (Bors.cons (Bor.pure rfl) (Bors.cons (Bor.pure rfl) Bors.nil)))) rfl (x_strings_genSplit_ok a0 a1 0 (-1) r1 hf1) (and_all (lts0_map (f := str) (fun _ => rfl) _) rfl) (and_all (noss_map (f := str) (fun _ => rfl) _) rfl) rfl (by decide) (ns_of ⟨⟨_, rfl⟩, trivial⟩)) rfl ?_
 refine zA (r := oref 0 1 0 r1.length) rfl rfl rfl rfl rfl ?_
 refine zN ?_
 refine RunC.ret ?_
 have hq := Option.some.inj h
 subst q0
 exact bodyQ.mk (r' := oref 0 1 0 r1.length) [(0, 1)] (.inr rfl) rfl (show List.Nodup [0] from by decide) rfl rfl (Res.one rfl (RV.tmp rfl)) (SelL.arr0 (f := str) (fun _ => rfl) rfl trivial)
noncomputable def x_strconv_ParseInt (a0 : ByteArray) (a1 a2 : Int) : Option (Int ⊕ Int) :=
 need (decide (a1 = 10)) <|
 need (decide (a2 = 64)) <|
 need (decide (a0.size ≤ 281474976710656)) <|
 match Go.Lib.parseIntB 64 a0.data.toList with
 | .ok v => some (.inl v)
 | .range => some (.inr (Go.Lib.intSat 64 a0.data.toList))
 | _ => some (.inr 0)
def pint_ren : Go.Shelf.Ren :=
{
 f := fun x =>
  match x with
  | 174 => 72
  | 247 => 96
  | 245 => 64
  | 287 => 63
  | 279 => 81
  | 280 => 82
  | 281 => 83
  | 282 => 84
  | 321 => 79
  | 322 => 80
  | 316 => 98
  | 171 => 100
  | 205 => 99
  | 243 => 111
  | 246 => 85
  | 283 => 101
  | 284 => 102
  | 285 => 103
  | 286 => 104
  | 129 => 113
  | 317 => 112
  | 318 => 114
  | 319 => 115
  | 320 => 116
  | 337 => 121
  | 338 => 122
  | n => n,
 t := fun x =>
  match x with
  | 9 => 9
  | 3 => 3
  | 2 => 2
  | 75 => 71
  | 85 => 95
  | 4 => 4
  | 167 => 103
  | 5 => 5
  | 53 => 69
  | 175 => 72
  | 46 => 87
  | 168 => 106
  | 37 => 105
  | 0 => 0
  | 210 => 123
  | 21 => 21
  | 127 => 134
  | 145 => 142
  | 143 => 140
  | 171 => 126
  | 173 => 129
  | 212 => 144
  | 51 => 75
  | 20 => 20
  | 213 => 145
  | 232 => 154
  | 233 => 155
  | 80 => 119
  | n => n,
 g := fun x =>
  match x with
  | 15 => 2
  | 16 => 3
  | 17 => 6
  | 18 => 7
  | 19 => 8
  | n => n }
theorem pint_lays : Go.Proofs.LaysC.n174 Tryz.prog pint_ren :=
 {
  f129 := (Eq.trans Tryz.func113 (congrArg some (by kernel_rfl))),
  f171 := (Eq.trans Tryz.func100 (congrArg some (by kernel_rfl))),
  f174 := (Eq.trans Tryz.func72 (congrArg some (by kernel_rfl))),
  f205 := (Eq.trans Tryz.func99 (congrArg some (by kernel_rfl))),
  f243 := (Eq.trans Tryz.func111 (congrArg some (by kernel_rfl))),
  f245 := (Eq.trans Tryz.func64 (congrArg some (by kernel_rfl))),
  f246 := (Eq.trans Tryz.func85 (congrArg some (by kernel_rfl))),
  f247 := (Eq.trans Tryz.func96 (congrArg some (by kernel_rfl))),
  f279 := (Eq.trans Tryz.func81 (congrArg some (by kernel_rfl))),
  f280 := (Eq.trans Tryz.func82 (congrArg some (by kernel_rfl))),
  f281 := (Eq.trans Tryz.func83 (congrArg some (by kernel_rfl))),
  f282 := (Eq.trans Tryz.func84 (congrArg some (by kernel_rfl))),
  f283 := (Eq.trans Tryz.func101 (congrArg some (by kernel_rfl))),
  f284 := (Eq.trans Tryz.func102 (congrArg some (by kernel_rfl))),
  f285 := (Eq.trans Tryz.func103 (congrArg some (by kernel_rfl))),
  f286 := (Eq.trans Tryz.func104 (congrArg some (by kernel_rfl))),
  f287 := (Eq.trans Tryz.func63 (congrArg some (by kernel_rfl))),
  f316 := (Eq.trans Tryz.func98 (congrArg some (by kernel_rfl))),
  f317 := (Eq.trans Tryz.func112 (congrArg some (by kernel_rfl))),
  f318 := (Eq.trans Tryz.func114 (congrArg some (by kernel_rfl))),
  f319 := (Eq.trans Tryz.func115 (congrArg some (by kernel_rfl))),
  f320 := (Eq.trans Tryz.func116 (congrArg some (by kernel_rfl))),
  f321 := (Eq.trans Tryz.func79 (congrArg some (by kernel_rfl))),
  f322 := (Eq.trans Tryz.func80 (congrArg some (by kernel_rfl))),
  f337 := (Eq.trans Tryz.func121 (congrArg some (by kernel_rfl))),
  f338 := (Eq.trans Tryz.func122 (congrArg some (by kernel_rfl))),
  t0 := Tryz.underlying0,
  a0 := Tryz.isAgg0,
  z0 := Tryz.sizeOf0,
  v0 := Tryz.zeroValue0,
  t2 := Tryz.underlying2,
  a2 := Tryz.isAgg2,
  z2 := Tryz.sizeOf2,
  v2 := Tryz.zeroValue2,
  t3 := Tryz.underlying3,
  a3 := Tryz.isAgg3,
  z3 := Tryz.sizeOf3,
  v3 := Tryz.zeroValue3,
  t4 := Tryz.underlying4,
  a4 := Tryz.isAgg4,
  z4 := Tryz.sizeOf4,
  v4 := Tryz.zeroValue4,
  t5 := Tryz.underlying5,
  a5 := Tryz.isAgg5,
  z5 := Tryz.sizeOf5,
  v5 := Tryz.zeroValue5,
  t9 := Tryz.underlying9,
  a9 := Tryz.isAgg9,
  z9 := Tryz.sizeOf9,
  v9 := Tryz.zeroValue9,
  t20 := Tryz.underlying20,
  a20 := Tryz.isAgg20,
  z20 := Tryz.sizeOf20,
  v20 := Tryz.zeroValue20,
  t21 := Tryz.underlying21,
  a21 := Tryz.isAgg21,
  z21 := Tryz.sizeOf21,
  v21 := Tryz.zeroValue21,
  t37 := Tryz.underlying105,
  a37 := Tryz.isAgg105,
  z37 := Tryz.sizeOf105,
  v37 := Tryz.zeroValue105,
  t46 := Tryz.underlying87,
  a46 := Tryz.isAgg87,
  z46 := Tryz.sizeOf87,
  v46 := Tryz.zeroValue87,
  t51 := Tryz.underlying75,
  a51 := Tryz.isAgg75,
  z51 := Tryz.sizeOf75,
  v51 := Tryz.zeroValue75,
  t53 := Tryz.underlying69,
  a53 := Tryz.isAgg69,
  z53 := Tryz.sizeOf69,
  v53 := Tryz.zeroValue69,
  t75 := Tryz.underlying71,
  a75 := Tryz.isAgg71,
  z75 := Tryz.sizeOf71,
  v75 := Tryz.zeroValue71,
  t85 := Tryz.underlying95,
  a85 := Tryz.isAgg95,
  z85 := Tryz.sizeOf95,
  v85 := Tryz.zeroValue95,
  t127 := Tryz.underlying134,
  a127 := Tryz.isAgg134,
  z127 := Tryz.sizeOf134,
  v127 := Tryz.zeroValue134,
  t143 := Tryz.underlying140,
  a143 := Tryz.isAgg140,
  z143 := Tryz.sizeOf140,
  v143 := Tryz.zeroValue140,
  t145 := Tryz.underlying142,
  a145 := Tryz.isAgg142,
  z145 := Tryz.sizeOf142,
  v145 := Tryz.zeroValue142,
  t167 := Tryz.underlying103,
  a167 := Tryz.isAgg103,
  z167 := Tryz.sizeOf103,
  v167 := Tryz.zeroValue103,
  t168 := Tryz.underlying106,
  a168 := Tryz.isAgg106,
  z168 := Tryz.sizeOf106,
  v168 := Tryz.zeroValue106,
  t171 := Tryz.underlying126,
  a171 := Tryz.isAgg126,
  z171 := Tryz.sizeOf126,
  v171 := Tryz.zeroValue126,
  t173 := Tryz.underlying129,
  a173 := Tryz.isAgg129,
  z173 := Tryz.sizeOf129,
  v173 := Tryz.zeroValue129,
  t175 := Tryz.underlying72,
  a175 := Tryz.isAgg72,
  z175 := Tryz.sizeOf72,
  v175 := Tryz.zeroValue72,
  t210 := Tryz.underlying123,
  a210 := Tryz.isAgg123,
  z210 := Tryz.sizeOf123,
  v210 := Tryz.zeroValue123,
  t212 := Tryz.underlying144,
  a212 := Tryz.isAgg144,
  z212 := Tryz.sizeOf144,
  v212 := Tryz.zeroValue144,
  t213 := Tryz.underlying145,
  a213 := Tryz.isAgg145,
  z213 := Tryz.sizeOf145,
  t232 := Tryz.underlying154,
  a232 := Tryz.isAgg154,
  z232 := Tryz.sizeOf154,
  v232 := Tryz.zeroValue154,
  t233 := Tryz.underlying155,
  a233 := Tryz.isAgg155,
  z233 := Tryz.sizeOf155,
  v233 := Tryz.zeroValue155,
  t80 := Tryz.underlying119,
  a80 := Tryz.isAgg119,
  z80 := Tryz.sizeOf119,
  v80 := Tryz.zeroValue119,
  mixed := (by kernel_rfl),
  g15 := (by kernel_rfl),
  g16 := (by kernel_rfl),
  g17 := (by kernel_rfl),
  g18 := (by kernel_rfl),
  g19 := (by kernel_rfl),
  i0 := (by kernel_rfl),
  i2 := (by kernel_rfl),
  i3 := (by kernel_rfl),
  i4 := (by kernel_rfl),
  i5 := (by kernel_rfl),
  i9 := (by kernel_rfl),
  i20 := (by kernel_rfl),
  i21 := (by kernel_rfl),
  i37 := (by kernel_rfl),
  i46 := (by kernel_rfl),
  i51 := (by kernel_rfl),
  i53 := (by kernel_rfl),
  i75 := (by kernel_rfl),
  i80 := (by kernel_rfl),
  i85 := (by kernel_rfl),
  i127 := (by kernel_rfl),
  i143 := (by kernel_rfl),
  i145 := (by kernel_rfl),
  i167 := (by kernel_rfl),
  i168 := (by kernel_rfl),
  i171 := (by kernel_rfl),
  i173 := (by kernel_rfl),
  i175 := (by kernel_rfl),
  i210 := (by kernel_rfl),
  i212 := (by kernel_rfl),
  i232 := (by kernel_rfl),
  i233 := (by kernel_rfl),
  m15 := (by kernel_rfl),
  m16 := (by kernel_rfl),
  m17 := (by kernel_rfl),
  m18 := (by kernel_rfl),
  m19 := (by kernel_rfl),
  c0 := (by kernel_rfl),
  c2 := (by kernel_rfl),
  c3 := (by kernel_rfl),
  c4 := (by kernel_rfl),
  c5 := (by kernel_rfl),
  c9 := (by kernel_rfl),
  c20 := (by kernel_rfl),
  c21 := (by kernel_rfl),
  c37 := (by kernel_rfl),
  c46 := (by kernel_rfl),
  c51 := (by kernel_rfl),
  c53 := (by kernel_rfl),
  c75 := (by kernel_rfl),
  c80 := (by kernel_rfl),
  c85 := (by kernel_rfl),
  c127 := (by kernel_rfl),
  c143 := (by kernel_rfl),
  c145 := (by kernel_rfl),
  c167 := (by kernel_rfl),
  c168 := (by kernel_rfl),
  c171 := (by kernel_rfl),
  c173 := (by kernel_rfl),
  c175 := (by kernel_rfl),
  c210 := (by kernel_rfl),
  c212 := (by kernel_rfl),
  c213 := (by kernel_rfl),
  c232 := (by kernel_rfl),
  c233 := (by kernel_rfl) }
theorem x_strconv_ParseInt_three {vs : Array Value} {S : Snap} {a0 : ByteArray} {a1 a2 : Int} (ha : VL S [] [str a0, i64 a1, i64 a2] vs.toList) : vs = #[.string a0, .int .i64 a1, .int .i64 a2] := by
 obtain ⟨vl⟩ := vs
 match vl, ha with
 | [v0, v1, v2], ha =>
  simp only [VL, V] at ha
  obtain ⟨rfl, rfl, rfl, _⟩ := ha
  rfl
 | [], ha => simp only [VL] at ha
 | [_], ha => simp only [VL] at ha; exact ha.2.elim
 | [_, _], ha => simp only [VL] at ha; exact ha.2.2.elim
 | _ :: _ :: _ :: _ :: _, ha => simp only [VL] at ha; exact ha.2.2.2.elim
theorem x_strconv_ParseInt_ok0 (a0 : ByteArray) (a1 a2 : Int) (q0 : Int) (h : x_strconv_ParseInt a0 a1 a2 = some (Sum.inl q0)) : Ev Tryz.prog 72 [str a0, i64 a1, i64 a2] [] (tup [i64 q0, x .nilIface]) [] := by
 unfold x_strconv_ParseInt at h
 obtain ⟨h1, k1⟩ := need_some h
 obtain ⟨h2, k2⟩ := need_some k1
 obtain ⟨h3, k3⟩ := need_some k2
 clear h k1 k2
 obtain rfl : a1 = 10 := of_decide_eq_true h1
 obtain rfl : a2 = 64 := of_decide_eq_true h2
 have h3 := of_decide_eq_true h3
 refine Ev.ofGrow fun S w vs hs ha => ?_
 rw [x_strconv_ParseInt_three ha]
 cases hp : Go.Lib.parseIntB 64 a0.data.toList with
 | ok v =>
  rw [hp] at k3
  obtain rfl : v = q0 := Sum.inl.inj (Option.some.inj k3)
  refine (Go.Proofs.Any.strconv_ParseInt_10_at64_ok pint_lays a0 (by omega) v hp w).mono ?_
  rintro e w' ⟨rfl, hw⟩
  refine ⟨_, rfl, by simp only [V]; exact ⟨_, rfl, show VL S [] [_, _] [_, _] from by simp only [VL, V]; exact ⟨trivial, trivial, trivial⟩⟩, ?_⟩
  rcases hw with rfl | ⟨t, rfl⟩
  ·exact Grow.refl _
  ·have hB := Go.Lib.bytesWorld_below w (pint_ren.t 5) t
   exact ⟨hB.size, fun k hk => hB.block k hk, hB.os, hB.tape, hB.output⟩
 | range => rw [hp] at k3; cases k3
 | _ => rw [hp] at k3; cases k3
theorem x_strconv_ParseInt_ok1 (a0 : ByteArray) (a1 a2 : Int) (q0 : Int) (h : x_strconv_ParseInt a0 a1 a2 = some (Sum.inr q0)) : Ev Tryz.prog 72 [str a0, i64 a1, i64 a2] [] (tup [i64 q0, nni]) [] := by
 unfold x_strconv_ParseInt at h
 obtain ⟨h1, k1⟩ := need_some h
 obtain ⟨h2, k2⟩ := need_some k1
 obtain ⟨h3, k3⟩ := need_some k2
 clear h k1 k2
 obtain rfl : a1 = 10 := of_decide_eq_true h1
 obtain rfl : a2 = 64 := of_decide_eq_true h2
 have h3 := of_decide_eq_true h3
 refine Ev.ofGrow fun S w vs hs ha => ?_
 rw [x_strconv_ParseInt_three ha]
 cases hp : Go.Lib.parseIntB 64 a0.data.toList with
 | ok v => rw [hp] at k3; cases k3
 | range =>
  rw [hp] at k3
  obtain rfl : Go.Lib.intSat 64 a0.data.toList = q0 := Sum.inr.inj (Option.some.inj k3)
  obtain ⟨ev, hv, hev⟩ := globs_err hs (g := 3) (by unfold globsI; simp)
  refine (Go.Proofs.Any.strconv_ParseInt_10_at64_range pint_lays a0 h3 hp ev w hv hev).mono ?_
  rintro e w' ⟨N, rfl, _, _, hB⟩
  exact ⟨_, rfl, by simp only [V]; exact ⟨_, rfl, show VL S [] [_, _] [_, _] from by simp only [VL, V]; exact ⟨trivial, ⟨_, _, rfl⟩, trivial⟩⟩, hB.size, fun k hk => hB.block k hk, hB.os, hB.tape, hB.output⟩
 | _ =>
  rw [hp] at k3
  obtain rfl : (0 : Int) = q0 := Sum.inr.inj (Option.some.inj k3)
  obtain ⟨ev, hv, hev⟩ := globs_err hs (g := 2) (by unfold globsI; simp)
  refine (Go.Proofs.Any.strconv_ParseInt_10_at64_syntax pint_lays a0 h3 hp ev w hv hev).mono ?_
  rintro e w' ⟨N, rfl, _, _, hB⟩
  exact ⟨_, rfl, by simp only [V]; exact ⟨_, rfl, show VL S [] [_, _] [_, _] from by simp only [VL, V]; exact ⟨trivial, ⟨_, _, rfl⟩, trivial⟩⟩, hB.size, fun k hk => hB.block k hk, hB.os, hB.tape, hB.output⟩
noncomputable def i_inRange (a0 : Int) (a1 : Int) (a2 : Int) : Option (Bool) :=
 bsel (decide (a1 ≤ a0)) (
  some (decide (a0 ≤ a2))) (
  some false)
theorem i_inRange_ok (a0 : Int) (a1 : Int) (a2 : Int) (q0 : Bool) (h : i_inRange a0 a1 a2 = some q0) : Ev Tryz.prog 47 [i64 a0, i64 a1, i64 a2] [] (b q0) [] := by
 refine Ev.start Tryz.func47 rfl rfl 0 (τ := [(0, i64 a0), (1, i64 a1), (2, i64 a2)]) rfl (Γ' := []) rfl (n := 31) rfl (g := 0) rfl (fun _ => rfl) ?_
 unfold i_inRange at h
 refine zQ ?_
 refine zA (r := b false) rfl rfl rfl rfl rfl ?_
 refine zN ?_
 refine RunC.seq ?_
 rcases bsel_some h with ⟨hc1, h⟩ | ⟨hc1, h⟩
 ·refine RunC.regionW ?_
  refine zM (r := i64 a1) rfl rfl rfl rfl rfl ?_
  refine zM (r := i64 a0) rfl rfl rfl rfl rfl ?_
  refine zL (r := b true) rfl rfl rfl (LOp.eqb (LOp.leq rfl rfl rfl) hc1) ?_
  refine zM (r := b true) rfl rfl rfl rfl rfl ?_
  refine zM (r := i64 a0) rfl rfl rfl rfl rfl ?_
  refine zM (r := i64 a2) rfl rfl rfl rfl rfl ?_
  refine zL (r := b (decide (a0 ≤ a2))) rfl rfl rfl (LOp.leq rfl rfl rfl) ?_
  refine zL (r := b (decide (a0 ≤ a2))) rfl rfl rfl (LOp.pick_true rfl rfl rfl) ?_
  refine zA (r := b (decide (a0 ≤ a2))) rfl rfl rfl rfl rfl ?_
  refine zN ?_
  refine RunC.ret ?_
  have hq := Option.some.inj h
  subst q0
  exact bodyQ.pure (.inr rfl) rfl (Res.one rfl (RV.tmp rfl))
 ·refine RunC.regionW ?_
  refine zM (r := i64 a1) rfl rfl rfl rfl rfl ?_
  refine zM (r := i64 a0) rfl rfl rfl rfl rfl ?_
  refine zL (r := b false) rfl rfl rfl (LOp.eqb (LOp.leq rfl rfl rfl) hc1) ?_
  refine zM (r := b false) rfl rfl rfl rfl rfl ?_
  refine ROps.s rfl rfl rfl ?_
  refine ROps.s rfl rfl rfl ?_
  refine ROps.s rfl rfl rfl ?_
  refine zL (r := b false) rfl rfl rfl (LOp.pick_false rfl rfl rfl) ?_
  refine zA (r := b false) rfl rfl rfl rfl rfl ?_
  refine zN ?_
  refine RunC.ret ?_
  have hq := Option.some.inj h
  subst q0
  exact bodyQ.pure (.inr rfl) rfl (Res.one rfl (RV.tmp rfl))
noncomputable def x_strconv_FormatInt (a0 a1 : Int) : Option ByteArray :=
 need (decide (a1 = 10)) <|
 need (decide (-9223372036854775808 ≤ a0)) <|
 need (decide (a0 ≤ 9223372036854775807)) <|
 some ⟨(Go.Lib.itoa a0).toArray⟩
def fmt_ren : Go.Shelf.Ren :=
{
 f := fun x =>
  match x with
  | 173 => 65
  | 246 => 85
  | 283 => 101
  | 284 => 102
  | 285 => 103
  | 286 => 104
  | 129 => 113
  | 317 => 112
  | 318 => 114
  | 319 => 115
  | 320 => 116
  | 337 => 121
  | 338 => 122
  | n => n,
 t := fun x =>
  match x with
  | 2 => 2
  | 3 => 3
  | 9 => 9
  | 4 => 4
  | 171 => 126
  | 0 => 0
  | 53 => 69
  | 37 => 105
  | 5 => 5
  | 173 => 129
  | 212 => 144
  | 51 => 75
  | 20 => 20
  | 213 => 145
  | 46 => 87
  | 232 => 154
  | 233 => 155
  | n => n,
 g := fun x =>
  match x with
  | 17 => 6
  | 18 => 7
  | 19 => 8
  | n => n }
theorem fmt_lays : Go.Proofs.LaysM.n173 Tryz.prog fmt_ren :=
 {
  f129 := (Eq.trans Tryz.func113 (congrArg some (by kernel_rfl))),
  f173 := (Eq.trans Tryz.func65 (congrArg some (by kernel_rfl))),
  f246 := (Eq.trans Tryz.func85 (congrArg some (by kernel_rfl))),
  f283 := (Eq.trans Tryz.func101 (congrArg some (by kernel_rfl))),
  f284 := (Eq.trans Tryz.func102 (congrArg some (by kernel_rfl))),
  f285 := (Eq.trans Tryz.func103 (congrArg some (by kernel_rfl))),
  f286 := (Eq.trans Tryz.func104 (congrArg some (by kernel_rfl))),
  f317 := (Eq.trans Tryz.func112 (congrArg some (by kernel_rfl))),
  f318 := (Eq.trans Tryz.func114 (congrArg some (by kernel_rfl))),
  f319 := (Eq.trans Tryz.func115 (congrArg some (by kernel_rfl))),
  f320 := (Eq.trans Tryz.func116 (congrArg some (by kernel_rfl))),
  f337 := (Eq.trans Tryz.func121 (congrArg some (by kernel_rfl))),
  f338 := (Eq.trans Tryz.func122 (congrArg some (by kernel_rfl))),
  t0 := Tryz.underlying0,
  a0 := Tryz.isAgg0,
  z0 := Tryz.sizeOf0,
  v0 := Tryz.zeroValue0,
  t2 := Tryz.underlying2,
  a2 := Tryz.isAgg2,
  z2 := Tryz.sizeOf2,
  v2 := Tryz.zeroValue2,
  t3 := Tryz.underlying3,
  a3 := Tryz.isAgg3,
  z3 := Tryz.sizeOf3,
  v3 := Tryz.zeroValue3,
  t4 := Tryz.underlying4,
  a4 := Tryz.isAgg4,
  z4 := Tryz.sizeOf4,
  v4 := Tryz.zeroValue4,
  t5 := Tryz.underlying5,
  a5 := Tryz.isAgg5,
  z5 := Tryz.sizeOf5,
  v5 := Tryz.zeroValue5,
  t9 := Tryz.underlying9,
  a9 := Tryz.isAgg9,
  z9 := Tryz.sizeOf9,
  v9 := Tryz.zeroValue9,
  t20 := Tryz.underlying20,
  a20 := Tryz.isAgg20,
  z20 := Tryz.sizeOf20,
  v20 := Tryz.zeroValue20,
  t37 := Tryz.underlying105,
  a37 := Tryz.isAgg105,
  z37 := Tryz.sizeOf105,
  v37 := Tryz.zeroValue105,
  t46 := Tryz.underlying87,
  a46 := Tryz.isAgg87,
  z46 := Tryz.sizeOf87,
  v46 := Tryz.zeroValue87,
  t51 := Tryz.underlying75,
  a51 := Tryz.isAgg75,
  z51 := Tryz.sizeOf75,
  v51 := Tryz.zeroValue75,
  t53 := Tryz.underlying69,
  a53 := Tryz.isAgg69,
  z53 := Tryz.sizeOf69,
  v53 := Tryz.zeroValue69,
  t171 := Tryz.underlying126,
  a171 := Tryz.isAgg126,
  z171 := Tryz.sizeOf126,
  v171 := Tryz.zeroValue126,
  t173 := Tryz.underlying129,
  a173 := Tryz.isAgg129,
  z173 := Tryz.sizeOf129,
  v173 := Tryz.zeroValue129,
  t212 := Tryz.underlying144,
  a212 := Tryz.isAgg144,
  z212 := Tryz.sizeOf144,
  v212 := Tryz.zeroValue144,
  t213 := Tryz.underlying145,
  a213 := Tryz.isAgg145,
  z213 := Tryz.sizeOf145,
  t232 := Tryz.underlying154,
  a232 := Tryz.isAgg154,
  z232 := Tryz.sizeOf154,
  v232 := Tryz.zeroValue154,
  t233 := Tryz.underlying155,
  a233 := Tryz.isAgg155,
  z233 := Tryz.sizeOf155,
  v233 := Tryz.zeroValue155,
  mixed := (by kernel_rfl),
  g17 := (by kernel_rfl),
  g18 := (by kernel_rfl),
  g19 := (by kernel_rfl),
  i0 := (by kernel_rfl),
  i2 := (by kernel_rfl),
  i3 := (by kernel_rfl),
  i4 := (by kernel_rfl),
  i5 := (by kernel_rfl),
  i9 := (by kernel_rfl),
  i20 := (by kernel_rfl),
  i37 := (by kernel_rfl),
  i46 := (by kernel_rfl),
  i51 := (by kernel_rfl),
  i53 := (by kernel_rfl),
  i171 := (by kernel_rfl),
  i173 := (by kernel_rfl),
  i212 := (by kernel_rfl),
  i232 := (by kernel_rfl),
  i233 := (by kernel_rfl),
  m17 := (by kernel_rfl),
  m18 := (by kernel_rfl),
  m19 := (by kernel_rfl) }
theorem x_strconv_FormatInt_tab {S : Snap} {w : World} (h : SnapOK S w) : Go.Lib.TabIs Tryz.prog w "internal/strconv.uint64pow10" .u64 Go.Lib.pow10Tab := by
 obtain ⟨T, m, e⟩ := globs_at h (g := 6) (cs := (Go.Lib.pow10Tab.map fun z => Value.int .u64 z).toArray) (by unfold globs; simp)
 unfold Go.Lib.TabIs World.var?
 rw [show Tryz.prog.globalNamed "internal/strconv.uint64pow10" = some 6 by kernel_rfl]
 simp only [Option.bind_some, e]
theorem x_strconv_FormatInt_ok (a0 a1 : Int) (q0 : ByteArray) (h : x_strconv_FormatInt a0 a1 = some q0) : Ev Tryz.prog 65 [i64 a0, i64 a1] [] (str q0) [] := by
 unfold x_strconv_FormatInt at h
 obtain ⟨h1, h⟩ := need_some h
 obtain ⟨h2, h⟩ := need_some h
 obtain ⟨h3, h⟩ := need_some h
 have hq := Option.some.inj h
 subst hq
 have e1 : a1 = 10 := of_decide_eq_true h1
 subst e1
 refine Ev.ofGrow fun S w vs hs ha => ?_
 obtain ⟨vl⟩ := vs
 match vl, ha with
 | [v0, v1], ha =>
  simp only [VL, V] at ha
  obtain ⟨rfl, rfl, _⟩ := ha
  refine (Go.Proofs.Any.strconv_FormatInt_10 fmt_lays a0 (of_decide_eq_true h2) (of_decide_eq_true h3) w (x_strconv_FormatInt_tab hs)).mono ?_
  rintro e w' ⟨rfl, k, os, rfl⟩
  refine ⟨_, rfl, by simp only [V], ?_⟩
  exact ⟨by simp [Go.Sort.grow, World.drewN], fun b hb => by simp [Go.Sort.grow, World.drewN, Array.getElem?_append, hb], rfl, rfl, rfl⟩
 | [], ha => simp only [VL] at ha
 | [_], ha => simp only [VL] at ha; exact ha.2.elim
 | _ :: _ :: _ :: _, ha => simp only [VL] at ha; exact ha.2.2.elim
noncomputable def i_Decimal (a0 : Int) : Option (ByteArray) :=
 obind (x_strconv_FormatInt a0 10) fun (r1 : ByteArray) =>
 some r1
theorem i_Decimal_ok (a0 : Int) (q0 : ByteArray) (h : i_Decimal a0 = some q0) : Ev Tryz.prog 73 [i64 a0] [] (str q0) [] := by
 refine Ev.start Tryz.func73 rfl rfl 0 (τ := [(0, i64 a0)]) rfl (Γ' := []) rfl (n := 11) rfl (g := 0) rfl (fun _ => rfl) ?_
 unfold i_Decimal at h
 refine zQ ?_
 refine zA (r := str lit_99ba06bc) rfl rfl rfl rfl rfl ?_
 refine zN ?_
 refine RunC.seq ?_
 obtain ⟨r1, hf1, h⟩ := obind_some h
 refine RunC.regionW ?_
 refine zM (r := i64 a0) rfl rfl rfl rfl rfl ?_
 refine ROps.d (r := str r1) (fs := []) (Γ' := []) rfl rfl rfl (TOp.callB (CallAs.func ent65 rfl rfl) (Bors.cons (Bor.pure rfl) (Bors.cons (Bor.pure rfl) Bors.nil)) rfl rfl (x_strconv_FormatInt_ok a0 10 r1 hf1)) rfl ?_
 refine zA (r := str r1) rfl rfl rfl rfl rfl ?_
 refine zN ?_
 refine RunC.ret ?_
 have hq := Option.some.inj h
 subst q0
 exact bodyQ.pure (.inr rfl) rfl (Res.one rfl (RV.tmp rfl))
noncomputable def i_ReadDecimal (a0 : ByteArray) : Option (Int × Bool) :=
 obind (x_strconv_ParseInt a0 10 64) (fun z => osum z (fun (r1 : Int) =>
  obind (i_inRange r1 (-1000000000000000) 1000000000000000) fun (r3 : Bool) =>
  bsel r3 (
   obind (i_Decimal r1) fun (r4 : ByteArray) =>
   bsel (!eqs r4 a0) (
    some (0, false)) (
    some (r1, true))) (
   some (0, false))) (fun (r2 : Int) =>
  some (0, false)))
theorem i_ReadDecimal_ok (a0 : ByteArray) (q0 : Int) (q1 : Bool) (h : i_ReadDecimal a0 = some (q0, q1)) : Ev Tryz.prog 53 [str a0] [] (tup [i64 q0, b q1]) [] := by
 refine Ev.start Tryz.func53 rfl rfl 0 (τ := [(0, str a0)]) rfl (Γ' := []) rfl (n := 51) rfl (g := 0) rfl (fun _ => rfl) ?_
 unfold i_ReadDecimal at h
 refine zQ ?_
 refine zA (r := i64 0) rfl rfl rfl rfl rfl ?_
 refine zA (r := b false) rfl rfl rfl rfl rfl ?_
 refine zN ?_
 refine RunC.seq ?_
 obtain ⟨z1, hf1, h⟩ := obind_some h
 rcases z1 with r1 | r2
 ·replace h := (osum_inl _ _ _).symm.trans h
  refine RunC.regionW ?_
  refine zM (r := str a0) rfl rfl rfl rfl rfl ?_
  refine ROps.d (r := tup [i64 r1, x .nilIface]) (fs := []) (Γ' := []) rfl rfl rfl (TOp.callB (CallAs.func ent72 rfl rfl) (Bors.cons (Bor.pure rfl) (Bors.cons (Bor.pure rfl) (Bors.cons (Bor.pure rfl) Bors.nil))) rfl rfl (x_strconv_ParseInt_ok0 a0 10 64 r1 hf1)) rfl ?_
  refine zM (r := tup [i64 r1, x .nilIface]) rfl rfl rfl rfl rfl ?_
  refine zL (r := i64 r1) rfl rfl rfl (LOp.extract rfl rfl rfl) ?_
  refine zL (r := x .nilIface) rfl rfl rfl (LOp.extract rfl rfl rfl) ?_
  refine zA (r := i64 r1) rfl rfl rfl rfl rfl ?_
  refine zA (r := x .nilIface) rfl rfl rfl rfl rfl ?_
  refine zN ?_
  refine RunC.seq ?_
  refine RunC.seq ?_
  obtain ⟨r3, hf2, h⟩ := obind_some h
  rcases bsel_some h with ⟨hc3, h⟩ | ⟨hc3, h⟩
  ·obtain ⟨r4, hf4, h⟩ := obind_some h
   rcases bsel_some h with ⟨hc5, h⟩ | ⟨hc5, h⟩
   ·refine RunC.regionW ?_
    refine zM (r := x .nilIface) rfl rfl rfl rfl rfl ?_
    refine zL (r := b false) rfl rfl rfl (LOp.neq_nil_nil pun71 rfl rfl) ?_
    refine zM (r := b false) rfl rfl rfl rfl rfl ?_
    refine zM (r := i64 r1) rfl rfl rfl rfl rfl ?_
    refine ROps.d (r := b true) (fs := []) (Γ' := []) rfl rfl rfl (TOp.eqb (TOp.callB (CallAs.func ent47 rfl rfl) (Bors.cons (Bor.pure rfl) (Bors.cons (Bor.pure rfl) (Bors.cons (Bor.pure rfl) Bors.nil))) rfl rfl (i_inRange_ok r1 (-1000000000000000) 1000000000000000 r3 hf2)) hc3) rfl ?_
    refine zL (r := b false) rfl rfl rfl (LOp.eqb (LOp.not rfl rfl) rfl) ?_
    refine zL (r := b false) rfl rfl rfl (LOp.pick_false rfl rfl rfl) ?_
    refine zM (r := b false) rfl rfl rfl rfl rfl ?_
    refine zM (r := i64 r1) rfl rfl rfl rfl rfl ?_
    refine ROps.d (r := str r4) (fs := []) (Γ' := []) rfl rfl rfl (TOp.callB (CallAs.func ent73 rfl rfl) (Bors.cons (Bor.pure rfl) Bors.nil) rfl rfl (i_Decimal_ok r1 r4 hf4)) rfl ?_
    refine zM (r := str a0) rfl rfl rfl rfl rfl ?_
    refine zL (r := b true) rfl rfl rfl (LOp.eqb (LOp.neqs rfl rfl rfl) hc5) ?_
    refine zL (r := b true) rfl rfl rfl (LOp.pick_false rfl rfl rfl) ?_
    refine zN ?_
    refine RunC.wl (τ' := [(4, i64 r1), (23, b true)]) (Γ' := []) ⟨aR, aR, trivial⟩ trivial ?_
    refine RunC.cond_true rfl rfl ?_
    refine zQ ?_
    refine zA (r := i64 0) rfl rfl rfl rfl rfl ?_
    refine zA (r := b false) rfl rfl rfl rfl rfl ?_
    refine zN ?_
    refine RunC.ret ?_
    have hq := Option.some.inj h
    obtain ⟨hq0, hq⟩ := Prod.mk.inj hq
    subst q0
    subst q1
    exact bodyQ.pure (.inr rfl) rfl (Res.two rfl (RV.tmp rfl) (RV.tmp rfl))
   ·refine RunC.regionW ?_
    refine zM (r := x .nilIface) rfl rfl rfl rfl rfl ?_
    refine zL (r := b false) rfl rfl rfl (LOp.neq_nil_nil pun71 rfl rfl) ?_
    refine zM (r := b false) rfl rfl rfl rfl rfl ?_
    refine zM (r := i64 r1) rfl rfl rfl rfl rfl ?_
    refine ROps.d (r := b true) (fs := []) (Γ' := []) rfl rfl rfl (TOp.eqb (TOp.callB (CallAs.func ent47 rfl rfl) (Bors.cons (Bor.pure rfl) (Bors.cons (Bor.pure rfl) (Bors.cons (Bor.pure rfl) Bors.nil))) rfl rfl (i_inRange_ok r1 (-1000000000000000) 1000000000000000 r3 hf2)) hc3) rfl ?_
    refine zL (r := b false) rfl rfl rfl (LOp.eqb (LOp.not rfl rfl) rfl) ?_
    refine zL (r := b false) rfl rfl rfl (LOp.pick_false rfl rfl rfl) ?_
    refine zM (r := b false) rfl rfl rfl rfl rfl ?_
    refine zM (r := i64 r1) rfl rfl rfl rfl rfl ?_
    refine ROps.d (r := str r4) (fs := []) (Γ' := []) rfl rfl rfl (TOp.callB (CallAs.func ent73 rfl rfl) (Bors.cons (Bor.pure rfl) Bors.nil) rfl rfl (i_Decimal_ok r1 r4 hf4)) rfl ?_
    refine zM (r := str a0) rfl rfl rfl rfl rfl ?_
    refine zL (r := b false) rfl rfl rfl (LOp.eqb (LOp.neqs rfl rfl rfl) hc5) ?_
    refine zL (r := b false) rfl rfl rfl (LOp.pick_false rfl rfl rfl) ?_
    refine zN ?_
    refine RunC.wl (τ' := [(4, i64 r1), (23, b false)]) (Γ' := []) ⟨aR, aR, trivial⟩ trivial ?_
    refine RunC.cond_false rfl rfl ?_
    refine RunC.skip ?_
    refine zQ ?_
    refine zM (r := i64 r1) rfl rfl rfl rfl rfl ?_
    refine zA (r := i64 r1) rfl rfl rfl rfl rfl ?_
    refine zA (r := b true) rfl rfl rfl rfl rfl ?_
    refine zN ?_
    refine RunC.ret ?_
    have hq := Option.some.inj h
    obtain ⟨hq0, hq⟩ := Prod.mk.inj hq
    subst q0
    subst q1
    exact bodyQ.pure (.inr rfl) rfl (Res.two rfl (RV.tmp rfl) (RV.tmp rfl))
  ·refine RunC.regionW ?_
   refine zM (r := x .nilIface) rfl rfl rfl rfl rfl ?_
   refine zL (r := b false) rfl rfl rfl (LOp.neq_nil_nil pun71 rfl rfl) ?_
   refine zM (r := b false) rfl rfl rfl rfl rfl ?_
   refine zM (r := i64 r1) rfl rfl rfl rfl rfl ?_
   refine ROps.d (r := b false) (fs := []) (Γ' := []) rfl rfl rfl (TOp.eqb (TOp.callB (CallAs.func ent47 rfl rfl) (Bors.cons (Bor.pure rfl) (Bors.cons (Bor.pure rfl) (Bors.cons (Bor.pure rfl) Bors.nil))) rfl rfl (i_inRange_ok r1 (-1000000000000000) 1000000000000000 r3 hf2)) hc3) rfl ?_
   refine zL (r := b true) rfl rfl rfl (LOp.eqb (LOp.not rfl rfl) rfl) ?_
   refine zL (r := b true) rfl rfl rfl (LOp.pick_false rfl rfl rfl) ?_
   refine zM (r := b true) rfl rfl rfl rfl rfl ?_
   refine ROps.s rfl rfl rfl ?_
   refine ROps.s rfl rfl rfl ?_
   refine ROps.s rfl rfl rfl ?_
   refine ROps.s rfl rfl rfl ?_
   refine zL (r := b true) rfl rfl rfl (LOp.pick_true rfl rfl rfl) ?_
   refine zN ?_
   refine RunC.wl (τ' := [(4, i64 r1), (23, b true)]) (Γ' := []) ⟨aR, aR, trivial⟩ trivial ?_
   refine RunC.cond_true rfl rfl ?_
   refine zQ ?_
   refine zA (r := i64 0) rfl rfl rfl rfl rfl ?_
   refine zA (r := b false) rfl rfl rfl rfl rfl ?_
   refine zN ?_
   refine RunC.ret ?_
   have hq := Option.some.inj h
   obtain ⟨hq0, hq⟩ := Prod.mk.inj hq
   subst q0
   subst q1
   exact bodyQ.pure (.inr rfl) rfl (Res.two rfl (RV.tmp rfl) (RV.tmp rfl))
 ·replace h := (osum_inr _ _ _).symm.trans h
  refine RunC.regionW ?_
  refine zM (r := str a0) rfl rfl rfl rfl rfl ?_
  refine ROps.d (r := tup [i64 r2, nni]) (fs := []) (Γ' := []) rfl rfl rfl (TOp.callB (CallAs.func ent72 rfl rfl) (Bors.cons (Bor.pure rfl) (Bors.cons (Bor.pure rfl) (Bors.cons (Bor.pure rfl) Bors.nil))) rfl rfl (x_strconv_ParseInt_ok1 a0 10 64 r2 hf1)) rfl ?_
  refine zM (r := tup [i64 r2, nni]) rfl rfl rfl rfl rfl ?_
  refine zL (r := i64 r2) rfl rfl rfl (LOp.extract rfl rfl rfl) ?_
  refine zL (r := nni) rfl rfl rfl (LOp.extract rfl rfl rfl) ?_
  refine zA (r := i64 r2) rfl rfl rfl rfl rfl ?_
  refine zA (r := nni) rfl rfl rfl rfl rfl ?_
  refine zN ?_
  refine RunC.seq ?_
  refine zQ ?_
  refine zM (r := nni) rfl rfl rfl rfl rfl ?_
  refine zL (r := b true) rfl rfl rfl (LOp.neq_nni pun71 rfl rfl rfl) ?_
  refine zM (r := b true) rfl rfl rfl rfl rfl ?_
  refine ROps.s rfl rfl rfl ?_
  refine ROps.s rfl rfl rfl ?_
  refine ROps.s rfl rfl rfl ?_
  refine zL (r := b true) rfl rfl rfl (LOp.pick_true rfl rfl rfl) ?_
  refine zM (r := b true) rfl rfl rfl rfl rfl ?_
  refine ROps.s rfl rfl rfl ?_
  refine ROps.s rfl rfl rfl ?_
  refine ROps.s rfl rfl rfl ?_
  refine ROps.s rfl rfl rfl ?_
  refine zL (r := b true) rfl rfl rfl (LOp.pick_true rfl rfl rfl) ?_
  refine zN ?_
  refine RunC.wl (τ' := [(4, i64 r2), (23, b true)]) (Γ' := []) ⟨aR, aR, trivial⟩ trivial ?_
  refine RunC.cond_true rfl rfl ?_
  refine zQ ?_
  refine zA (r := i64 0) rfl rfl rfl rfl rfl ?_
  refine zA (r := b false) rfl rfl rfl rfl rfl ?_
  refine zN ?_
  refine RunC.ret ?_
  have hq := Option.some.inj h
  obtain ⟨hq0, hq⟩ := Prod.mk.inj hq
  subst q0
  subst q1
  exact bodyQ.pure (.inr rfl) rfl (Res.two rfl (RV.tmp rfl) (RV.tmp rfl))
noncomputable def i_ReadList_b1 (r1 : List ByteArray) (L4 : List Int) (v5 : Int) : Option (LR ((List Int) × Int) ((List Int)) (Bool × (List Int))) :=
 bsel (decide (v5 < ((r1.length : Nat) : Int))) (
  obind (at? r1 v5) fun (e6 : ByteArray) =>
  obind2 (i_ReadDecimal e6) fun (r7 : Int) (r8 : Bool) =>
  bsel r8 (
   bsel (decide (((L4.length : Nat) : Int) = 64)) (
    some (LR.ret (false, ([] : List Int)))) (
    need (apok 8 L4.length 1) <|
    olet (IntKind.i64.wrap (v5 + 1)) fun (x9 : Int) =>
    some (LR.next ((L4 ++ ([r7] : List Int)), x9)))) (
   some (LR.ret (false, ([] : List Int))))) (
  some (LR.out L4))
noncomputable def i_ReadList_s1 (r1 : List ByteArray) : ((List Int) × Int) → Option (LR ((List Int) × Int) ((List Int)) (Bool × (List Int))) := fun s => i_ReadList_b1 r1 s.1 s.2
noncomputable def i_ReadList_k1 (L12 : List Int) : Option (Bool × (List Int)) :=
 some (true, L12)
noncomputable def i_ReadList (a0 : ByteArray) : Option (Bool × (List Int)) :=
 bsel (eqs a0 lit_5ac87db9) (
  some (true, ([] : List Int))) (
  obind (x_strings_Split a0 lit_be717853) fun (r1 : List ByteArray) =>
  obind (loopM (i_ReadList_s1 r1) (([] : List Int), 0)) fun z => osum z (fun e => i_ReadList_k1 e) (fun r => some r))
theorem i_ReadList_ok (a0 : ByteArray) (q0 : Bool) (q1 : List Int) (h : i_ReadList a0 = some (q0, q1)) : Ev Tryz.prog 37 [str a0] [] (tup [oref 0 0 0 q1.length, b q0]) [⟨0, some (q1.map i64)⟩] := by
 refine Ev.start Tryz.func37 rfl rfl 3 (τ := [(0, str a0)]) rfl (Γ' := [⟨0, none⟩, ⟨0, none⟩, ⟨0, none⟩]) rfl (n := 77) rfl (g := 0) rfl (fun _ => rfl) ?_
 unfold i_ReadList at h
 refine zQ ?_
 refine zA (r := nilsl) rfl rfl rfl rfl rfl ?_
 refine zA (r := b false) rfl rfl rfl rfl rfl ?_
 refine zN ?_
 refine zQ ?_
 refine ROps.d (r := oref 0 1 0 0) (fs := [(0, (([] : List Int).map i64))]) (Γ' := [⟨1, some (([] : List Int).map i64)⟩, ⟨0, none⟩, ⟨0, none⟩]) rfl rfl rfl (TOp.buildSlice_o (g := ⟨0, none⟩) (za := i64 0) (qs := []) 0 rfl und60 siz2 zer2 rfl zel2 rfl rfl trivial rfl) rfl ?_
 refine zA (r := oref 0 1 0 0) rfl rfl rfl rfl rfl ?_
 refine zN ?_
 refine RunC.seq ?_
 refine RunC.seq ?_
 rcases bsel_some h with ⟨hc1, h⟩ | ⟨hc1, h⟩
 ·refine RunC.regionW ?_
  refine zM (r := str a0) rfl rfl rfl rfl rfl ?_
  refine zL (r := b true) rfl rfl rfl (LOp.eqb (LOp.eqs rfl rfl rfl) hc1) ?_
  refine zN ?_
  refine RunC.cond_true rfl rfl ?_
  refine zQ ?_
  refine zM (r := oref 0 1 0 0) rfl rfl rfl rfl rfl ?_
  refine zA (r := oref 0 1 0 0) rfl rfl rfl rfl rfl ?_
  refine zA (r := b true) rfl rfl rfl rfl rfl ?_
  refine zN ?_
  refine RunC.ret ?_
  have hq := Option.some.inj h
  obtain ⟨hq0, hq⟩ := Prod.mk.inj hq
  subst q0
  subst q1
  exact bodyQ.mk (r' := tup [oref 0 1 0 (([] : List Int).length), b true]) [(0, 1)] (.inr rfl) rfl (show List.Nodup [0] from by decide) rfl rfl (Res.eq (Res.two rfl (RV.tmp rfl) (RV.tmp rfl)) (by rw [(show ([] : List Int).length = 0 from rfl)] <;> rfl)) (SelL.arr0 (f := i64) (fun _ => rfl) rfl trivial)
 ·refine RunC.regionW ?_
  refine zM (r := str a0) rfl rfl rfl rfl rfl ?_
  refine zL (r := b false) rfl rfl rfl (LOp.eqb (LOp.eqs rfl rfl rfl) hc1) ?_
  refine zN ?_
  refine RunC.cond_false rfl rfl ?_
  refine RunC.skip ?_
  refine RunC.seq ?_
  refine RunC.seq ?_
  obtain ⟨r1, hf2, h⟩ := obind_some h
  refine RunC.regionW ?_
  refine zM (r := str a0) rfl rfl rfl rfl rfl ?_
  refine ROps.d (r := oref 1 1 0 r1.length) (fs := [(1, (r1.map str))]) (Γ' := [⟨1, some (([] : List Int).map i64)⟩, ⟨1, some (r1.map str)⟩, ⟨0, none⟩]) rfl rfl rfl (TOp.callBN (ls := [(r1.map str)]) [1] (CallAs.func ent29 rfl rfl) (Bors.cons (Bor.pure rfl) (Bors.cons (Bor.pure rfl) Bors.nil)) rfl (x_strings_Split_ok a0 lit_be717853 r1 hf2) (and_all (lts0_map (f := str) (fun _ => rfl) _) rfl) (and_all (noss_map (f := str) (fun _ => rfl) _) rfl) rfl (by decide) (ns_of ⟨⟨_, rfl⟩, trivial⟩)) rfl ?_
  refine zL (r := i64 ((r1.length : Nat) : Int)) rfl rfl rfl (LOp.len_oref und46 rfl rfl) ?_
  refine zM (r := i64 0) rfl rfl rfl rfl rfl ?_
  refine zN ?_
  obtain ⟨z2, hz_2, h⟩ := obind_some h
  refine RunC.cutN (fun τ Γ => ∃ (L12 : List Int) (u10 : Nat) (u11 : Nat), WeakLe τ [(4, oref 0 u10 0 L12.length)] ∧ DeadLe Γ [⟨u10, some (L12.map i64)⟩, ⟨1, none⟩, ⟨u11, none⟩] ∧ z2 = .inl L12) ?_ ?_
  ·refine RunC.block (RunC.loop (RunL.loopM (x := z2) (i_ReadList_s1 r1) (fun (s : (List Int) × Int) τ Γ => ∃ (u2 : Nat) (u3 : Nat), WeakLe τ [(4, oref 0 u2 0 s.1.length), (14, oref 1 1 0 r1.length), (15, i64 ((r1.length : Nat) : Int)), (16, i64 s.2)] ∧ DeadLe Γ [⟨u2, some (s.1.map i64)⟩, ⟨1, some (r1.map str)⟩, ⟨u3, none⟩]) ?_ _ _ _ hz_2 ⟨1, 0, ⟨aR, aR, aR, aR, trivial⟩, ⟨⟨rfl, .inr rfl⟩, ⟨rfl, .inr rfl⟩, ⟨rfl, .inl rfl⟩, trivial⟩⟩))
   rintro ⟨L4, v5⟩ τ2 Γ2 y2_ ⟨u2, u3, hw2, hd2⟩ h2_ ho2 hr2
   refine RunC.wl (τ' := [(4, oref 0 u2 0 L4.length), (14, oref 1 1 0 r1.length), (15, i64 ((r1.length : Nat) : Int)), (16, i64 v5)]) (Γ' := [⟨u2, some (L4.map i64)⟩, ⟨1, some (r1.map str)⟩, ⟨u3, none⟩]) hw2 hd2 ?_
   replace h2_ : i_ReadList_b1 r1 L4 v5 = some y2_ := h2_
   unfold i_ReadList_b1 at h2_
   refine RunC.seq ?_
   rcases bsel_some h2_ with ⟨hc3, h2_⟩ | ⟨hc3, h2_⟩
   ·refine RunC.regionW ?_
    refine zL (r := b true) rfl rfl rfl (LOp.eqb (LOp.lss rfl rfl rfl) hc3) ?_
    refine zN ?_
    refine RunC.seq ?_
    refine RunC.cond_true rfl rfl ?_
    refine RunC.skip ?_
    refine RunC.seq ?_
    refine RunC.block ?_
    refine RunC.seq ?_
    obtain ⟨e6, he4, h2_⟩ := obind_some h2_
    refine RunC.regionW ?_
    refine ROps.d (r := optr 1 1 v5.toNat) (fs := []) (Γ' := [⟨u2, some (L4.map i64)⟩, ⟨1, some (r1.map str)⟩, ⟨u3, none⟩]) rfl rfl rfl (TOp.ixo und46 siz9 rfl rfl rfl (at_in he4 rfl) rfl) rfl ?_
    refine ROps.d (r := str e6) (fs := []) (Γ' := [⟨u2, some (L4.map i64)⟩, ⟨1, some (r1.map str)⟩, ⟨u3, none⟩]) rfl rfl rfl (TOp.load1_o rfl (at_cell he4) agg9 rfl rfl) rfl ?_
    refine zA (r := str e6) rfl rfl rfl rfl rfl ?_
    refine zN ?_
    refine RunC.seq ?_
    obtain ⟨r7, r8, hf5, h2_⟩ := obind2_some h2_
    rcases bsel_some h2_ with ⟨hc6, h2_⟩ | ⟨hc6, h2_⟩
    ·refine RunC.regionW ?_
     refine zM (r := str e6) rfl rfl rfl rfl rfl ?_
     refine ROps.d (r := tup [i64 r7, b r8]) (fs := []) (Γ' := [⟨u2, some (L4.map i64)⟩, ⟨1, some (r1.map str)⟩, ⟨u3, none⟩]) rfl rfl rfl (TOp.callB (CallAs.func ent53 rfl rfl) (Bors.cons (Bor.pure rfl) Bors.nil) rfl rfl (i_ReadDecimal_ok e6 r7 r8 hf5)) rfl ?_
     refine zM (r := tup [i64 r7, b r8]) rfl rfl rfl rfl rfl ?_
     refine zL (r := i64 r7) rfl rfl rfl (LOp.extract rfl rfl rfl) ?_
     refine zL (r := b true) rfl rfl rfl (LOp.eqb (LOp.extract rfl rfl rfl) hc6) ?_
     refine zA (r := i64 r7) rfl rfl rfl rfl rfl ?_
     refine zA (r := b true) rfl rfl rfl rfl rfl ?_
     refine zN ?_
     refine RunC.seq ?_
     refine RunC.seq ?_
     rcases bsel_some h2_ with ⟨hc7, h2_⟩ | ⟨hc7, h2_⟩
     ·refine RunC.regionW ?_
      refine zM (r := b true) rfl rfl rfl rfl rfl ?_
      refine zL (r := b false) rfl rfl rfl (LOp.eqb (LOp.not rfl rfl) rfl) ?_
      refine zM (r := b false) rfl rfl rfl rfl rfl ?_
      refine zM (r := oref 0 u2 0 L4.length) rfl rfl rfl rfl rfl ?_
      refine zL (r := i64 ((L4.length : Nat) : Int)) rfl rfl rfl (LOp.len_oref und60 rfl rfl) ?_
      refine zL (r := b true) rfl rfl rfl (LOp.eqb (LOp.eql rfl rfl rfl) hc7) ?_
      refine zL (r := b true) rfl rfl rfl (LOp.pick_false rfl rfl rfl) ?_
      refine zN ?_
      refine RunC.wl (τ' := [(4, oref 0 u2 0 L4.length), (7, i64 r7), (14, oref 1 1 0 r1.length), (15, i64 ((r1.length : Nat) : Int)), (16, i64 v5), (28, oref 0 u2 0 L4.length), (29, i64 ((L4.length : Nat) : Int)), (30, b true), (31, b true)]) (Γ' := [⟨u2, some (L4.map i64)⟩, ⟨1, some (r1.map str)⟩, ⟨u3, none⟩]) ⟨aR, aR, aR, aR, aR, aR, aR, aR, aR, trivial⟩ ⟨⟨rfl, .inr rfl⟩, ⟨rfl, .inr rfl⟩, ⟨rfl, .inl rfl⟩, trivial⟩ ?_
      refine RunC.cond_true rfl rfl ?_
      refine zQ ?_
      refine zA (r := nilsl) rfl rfl rfl rfl rfl ?_
      refine zA (r := b false) rfl rfl rfl rfl rfl ?_
      refine zN ?_
      refine RunC.nil_slot (Γ' := [⟨u2, some (L4.map i64)⟩, ⟨1, some (r1.map str)⟩, ⟨(u3 + 1), some (([] : List Int).map i64)⟩]) 2 2 rfl rfl rfl ?_
      refine RunC.ret ?_
      cases Option.some.inj h2_
      have hx3_ := hr2 _ rfl
      subst hx3_
      have hq := Option.some.inj h
      obtain ⟨hq0, hq⟩ := Prod.mk.inj hq
      subst q0
      subst q1
      exact bodyQ.mk (r' := tup [oref 2 (u3 + 1) 0 (([] : List Int).length), b false]) [(2, (u3 + 1))] (.inr rfl) rfl (show List.Nodup [2] from by decide) (by simp [ren, rens, sigma]) rfl (Res.eq (Res.two rfl (RV.tmp rfl) (RV.tmp rfl)) (by rw [(show ([] : List Int).length = 0 from rfl)] <;> rfl)) (SelL.arr0 (f := i64) (fun _ => rfl) rfl trivial)
     ·refine RunC.regionW ?_
      refine zM (r := b true) rfl rfl rfl rfl rfl ?_
      refine zL (r := b false) rfl rfl rfl (LOp.eqb (LOp.not rfl rfl) rfl) ?_
      refine zM (r := b false) rfl rfl rfl rfl rfl ?_
      refine zM (r := oref 0 u2 0 L4.length) rfl rfl rfl rfl rfl ?_
      refine zL (r := i64 ((L4.length : Nat) : Int)) rfl rfl rfl (LOp.len_oref und60 rfl rfl) ?_
      refine zL (r := b false) rfl rfl rfl (LOp.eqb (LOp.eql rfl rfl rfl) hc7) ?_
      refine zL (r := b false) rfl rfl rfl (LOp.pick_false rfl rfl rfl) ?_
      refine zN ?_
      refine RunC.wl (τ' := [(4, oref 0 u2 0 L4.length), (7, i64 r7), (14, oref 1 1 0 r1.length), (15, i64 ((r1.length : Nat) : Int)), (16, i64 v5), (28, oref 0 u2 0 L4.length), (29, i64 ((L4.length : Nat) : Int)), (30, b false), (31, b false)]) (Γ' := [⟨u2, some (L4.map i64)⟩, ⟨1, some (r1.map str)⟩, ⟨u3, none⟩]) ⟨aR, aR, aR, aR, aR, aR, aR, aR, aR, trivial⟩ ⟨⟨rfl, .inr rfl⟩, ⟨rfl, .inr rfl⟩, ⟨rfl, .inl rfl⟩, trivial⟩ ?_
      refine RunC.cond_false rfl rfl ?_
      refine RunC.skip ?_
      obtain ⟨hm8, h2_⟩ := need_some h2_
      refine RunC.regionW ?_
      refine zM (r := oref 0 u2 0 L4.length) rfl rfl rfl rfl rfl ?_
      refine zM (r := i64 r7) rfl rfl rfl rfl rfl ?_
      refine ROps.d (r := oref 2 (u3 + 1) 0 1) (fs := [(2, (([r7] : List Int).map i64))]) (Γ' := [⟨u2, some (L4.map i64)⟩, ⟨1, some (r1.map str)⟩, ⟨(u3 + 1), some (([r7] : List Int).map i64)⟩]) rfl rfl rfl (TOp.buildSlice_o (g := ⟨u3, none⟩) (za := i64 0) (qs := [(0, [i64 r7])]) 2 rfl und60 siz2 zer2 rfl zel2 rfl rfl ⟨rfl, ⟨_, ALe.refl _, rfl⟩, trivial⟩ rfl) rfl ?_
      refine ROps.app (f := i64) (xs := L4) (ys := ([r7] : List Int)) (Γ' := [⟨(u2 + 1), some ((L4 ++ ([r7] : List Int)).map i64)⟩, ⟨1, some (r1.map str)⟩, ⟨(u3 + 1), some (([r7] : List Int).map i64)⟩]) rfl pun60 inf2 rfl rfl rfl rfl rfl rfl rfl rfl rfl (by simp) (ReadAs.own rfl (by simp)) (ones_map (fun _ => rfl)) (ap_by hm8) (ap_mx hm8) rfl ?_
      refine zA (r := oref 0 (u2 + 1) 0 (L4.length + 1)) rfl rfl rfl rfl rfl ?_
      refine zN ?_
      refine RunC.wl (τ' := [(4, oref 0 (u2 + 1) 0 (L4.length + 1)), (14, oref 1 1 0 r1.length), (15, i64 ((r1.length : Nat) : Int)), (16, i64 v5), (28, oref 0 u2 0 L4.length), (29, i64 ((L4.length : Nat) : Int)), (30, b false)]) (Γ' := [⟨(u2 + 1), some ((L4 ++ ([r7] : List Int)).map i64)⟩, ⟨1, some (r1.map str)⟩, ⟨(u3 + 1), none⟩]) ⟨aR, aR, aR, aR, aR, aR, aR, trivial⟩ ⟨⟨rfl, .inr rfl⟩, ⟨rfl, .inr rfl⟩, ⟨rfl, .inl rfl⟩, trivial⟩ ?_
      obtain ⟨x9, hx9, h2_⟩ := olet_some h2_
      refine RunC.regionW ?_
      refine zL (r := i64 x9) rfl rfl rfl (LOp.eqr (LOp.add rfl rfl rfl) (congrArg (ik .i64) hx9)) ?_
      refine zM (r := i64 x9) rfl rfl rfl rfl rfl ?_
      refine zN ?_
      cases Option.some.inj h2_
      exact ⟨_, rfl, (u2 + 1), (u3 + 1), ⟨(ALe.eq (by rw [(app_len rfl rfl)] <;> rfl)), aR, aR, aR, trivial⟩, ⟨⟨rfl, .inr rfl⟩, ⟨rfl, .inr rfl⟩, ⟨rfl, .inl rfl⟩, trivial⟩⟩
    ·refine RunC.regionW ?_
     refine zM (r := str e6) rfl rfl rfl rfl rfl ?_
     refine ROps.d (r := tup [i64 r7, b r8]) (fs := []) (Γ' := [⟨u2, some (L4.map i64)⟩, ⟨1, some (r1.map str)⟩, ⟨u3, none⟩]) rfl rfl rfl (TOp.callB (CallAs.func ent53 rfl rfl) (Bors.cons (Bor.pure rfl) Bors.nil) rfl rfl (i_ReadDecimal_ok e6 r7 r8 hf5)) rfl ?_
     refine zM (r := tup [i64 r7, b r8]) rfl rfl rfl rfl rfl ?_
     refine zL (r := i64 r7) rfl rfl rfl (LOp.extract rfl rfl rfl) ?_
     refine zL (r := b false) rfl rfl rfl (LOp.eqb (LOp.extract rfl rfl rfl) hc6) ?_
     refine zA (r := i64 r7) rfl rfl rfl rfl rfl ?_
     refine zA (r := b false) rfl rfl rfl rfl rfl ?_
     refine zN ?_
     refine RunC.seq ?_
     refine zQ ?_
     refine zM (r := b false) rfl rfl rfl rfl rfl ?_
     refine zL (r := b true) rfl rfl rfl (LOp.eqb (LOp.not rfl rfl) rfl) ?_
     refine zM (r := b true) rfl rfl rfl rfl rfl ?_
     refine ROps.s rfl rfl rfl ?_
     refine ROps.s rfl rfl rfl ?_
     refine ROps.s rfl rfl rfl ?_
     refine zL (r := b true) rfl rfl rfl (LOp.pick_true rfl rfl rfl) ?_
     refine zN ?_
     refine RunC.wl (τ' := [(4, oref 0 u2 0 L4.length), (7, i64 r7), (14, oref 1 1 0 r1.length), (15, i64 ((r1.length : Nat) : Int)), (16, i64 v5), (31, b true)]) (Γ' := [⟨u2, some (L4.map i64)⟩, ⟨1, some (r1.map str)⟩, ⟨u3, none⟩]) ⟨aR, aR, aR, aR, aR, aR, trivial⟩ ⟨⟨rfl, .inr rfl⟩, ⟨rfl, .inr rfl⟩, ⟨rfl, .inl rfl⟩, trivial⟩ ?_
     refine RunC.cond_true rfl rfl ?_
     refine zQ ?_
     refine zA (r := nilsl) rfl rfl rfl rfl rfl ?_
     refine zA (r := b false) rfl rfl rfl rfl rfl ?_
     refine zN ?_
     refine RunC.nil_slot (Γ' := [⟨u2, some (L4.map i64)⟩, ⟨1, some (r1.map str)⟩, ⟨(u3 + 1), some (([] : List Int).map i64)⟩]) 2 2 rfl rfl rfl ?_
     refine RunC.ret ?_
     cases Option.some.inj h2_
     have hx4_ := hr2 _ rfl
     subst hx4_
     have hq := Option.some.inj h
     obtain ⟨hq0, hq⟩ := Prod.mk.inj hq
     subst q0
     subst q1
     exact bodyQ.mk (r' := tup [oref 2 (u3 + 1) 0 (([] : List Int).length), b false]) [(2, (u3 + 1))] (.inr rfl) rfl (show List.Nodup [2] from by decide) (by simp [ren, rens, sigma]) rfl (Res.eq (Res.two rfl (RV.tmp rfl) (RV.tmp rfl)) (by rw [(show ([] : List Int).length = 0 from rfl)] <;> rfl)) (SelL.arr0 (f := i64) (fun _ => rfl) rfl trivial)
   ·refine RunC.regionW ?_
    refine zL (r := b false) rfl rfl rfl (LOp.eqb (LOp.lss rfl rfl rfl) hc3) ?_
    refine zN ?_
    refine RunC.seq ?_
    refine RunC.cond_false rfl rfl ?_
    refine RunC.exit ?_
    cases Option.some.inj h2_
    have hx := ho2 _ rfl
    exact ⟨L4, u2, u3, ⟨aR, trivial⟩, ⟨⟨rfl, .inr rfl⟩, ⟨rfl, .inl rfl⟩, ⟨rfl, .inl rfl⟩, trivial⟩, hx⟩
  ·rintro τ5 Γ5 ⟨L12, u10, u11, hw5, hd5, rfl⟩
   refine RunC.wl hw5 hd5 ?_
   replace h : i_ReadList_k1 L12 = some (q0, q1) := h
   unfold i_ReadList_k1 at h
   refine zQ ?_
   refine zM (r := oref 0 u10 0 L12.length) rfl rfl rfl rfl rfl ?_
   refine zA (r := oref 0 u10 0 L12.length) rfl rfl rfl rfl rfl ?_
   refine zA (r := b true) rfl rfl rfl rfl rfl ?_
   refine zN ?_
   refine RunC.ret ?_
   have hq := Option.some.inj h
   obtain ⟨hq0, hq⟩ := Prod.mk.inj hq
   subst q0
   subst q1
   exact bodyQ.mk (r' := tup [oref 0 u10 0 L12.length, b true]) [(0, u10)] (.inr rfl) rfl (show List.Nodup [0] from by decide) (by simp [ren, rens, sigma]) rfl (Res.two rfl (RV.tmp rfl) (RV.tmp rfl)) (SelL.arr0 (f := i64) (fun _ => rfl) rfl trivial)
noncomputable def i_readSides (a0 : ByteArray) : Option (Int × Int × ByteArray × Bool) :=
 obind3 (x_strings_Cut a0 lit_b7340269) fun (r1 : ByteArray) (r2 : ByteArray) (r3 : Bool) =>
 bsel r3 (
  obind2 (i_ReadList r1) fun (r4 : Bool) (r5 : List Int) =>
  bsel r4 (
   bsel (!decide (((r5.length : Nat) : Int) = 2)) (
    some (0, 0, lit_99ba06bc, false)) (
    obind (at? r5 0) fun (e6 : Int) =>
    obind (at? r5 1) fun (e7 : Int) =>
    some (e6, e7, r2, true))) (
   some (0, 0, lit_99ba06bc, false))) (
  obind2 (i_ReadList r1) fun (r8 : Bool) (r9 : List Int) =>
  bsel r8 (
   some (0, 0, lit_99ba06bc, false)) (
   some (0, 0, lit_99ba06bc, false)))
theorem i_readSides_ok (a0 : ByteArray) (q0 : Int) (q1 : Int) (q2 : ByteArray) (q3 : Bool) (h : i_readSides a0 = some (q0, q1, q2, q3)) : Ev Tryz.prog 23 [str a0] [] (tup [i64 q0, i64 q1, str q2, b q3]) [] := by
 refine Ev.start Tryz.func23 rfl rfl 1 (τ := [(0, str a0)]) rfl (Γ' := [⟨0, none⟩]) rfl (n := 81) rfl (g := 0) rfl (fun _ => rfl) ?_
 unfold i_readSides at h
 refine zQ ?_
 refine zA (r := i64 0) rfl rfl rfl rfl rfl ?_
 refine zA (r := i64 0) rfl rfl rfl rfl rfl ?_
 refine zA (r := str lit_99ba06bc) rfl rfl rfl rfl rfl ?_
 refine zA (r := b false) rfl rfl rfl rfl rfl ?_
 refine zN ?_
 refine RunC.seq ?_
 obtain ⟨r1, r2, r3, hf1, h⟩ := obind3_some h
 rcases bsel_some h with ⟨hc2, h⟩ | ⟨hc2, h⟩
 ·refine RunC.regionW ?_
  refine zM (r := str a0) rfl rfl rfl rfl rfl ?_
  refine ROps.d (r := tup [str r1, str r2, b r3]) (fs := []) (Γ' := [⟨0, none⟩]) rfl rfl rfl (TOp.callB (CallAs.func ent16 rfl rfl) (Bors.cons (Bor.pure rfl) (Bors.cons (Bor.pure rfl) Bors.nil)) rfl rfl (x_strings_Cut_ok a0 lit_b7340269 r1 r2 r3 hf1)) rfl ?_
  refine zM (r := tup [str r1, str r2, b r3]) rfl rfl rfl rfl rfl ?_
  refine zL (r := str r1) rfl rfl rfl (LOp.extract rfl rfl rfl) ?_
  refine zL (r := str r2) rfl rfl rfl (LOp.extract rfl rfl rfl) ?_
  refine zL (r := b true) rfl rfl rfl (LOp.eqb (LOp.extract rfl rfl rfl) hc2) ?_
  refine zA (r := str r1) rfl rfl rfl rfl rfl ?_
  refine zA (r := str r2) rfl rfl rfl rfl rfl ?_
  refine zA (r := b true) rfl rfl rfl rfl rfl ?_
  refine zN ?_
  refine RunC.seq ?_
  obtain ⟨r4, r5, hf3, h⟩ := obind2_some h
  rcases bsel_some h with ⟨hc4, h⟩ | ⟨hc4, h⟩
  ·refine RunC.regionW ?_
   refine zM (r := str r1) rfl rfl rfl rfl rfl ?_
   refine ROps.d (r := tup [oref 0 1 0 r5.length, b r4]) (fs := [(0, (r5.map i64))]) (Γ' := [⟨1, some (r5.map i64)⟩]) rfl rfl rfl (TOp.callBN (ls := [(r5.map i64)]) [0] (CallAs.func ent37 rfl rfl) (Bors.cons (Bor.pure rfl) Bors.nil) rfl (i_ReadList_ok r1 r4 r5 hf3) (and_all (lts0_map (f := i64) (fun _ => rfl) _) rfl) (and_all (noss_map (f := i64) (fun _ => rfl) _) rfl) rfl (by decide) (ns_of ⟨⟨_, rfl⟩, trivial⟩)) rfl ?_
   refine zM (r := tup [oref 0 1 0 r5.length, b r4]) rfl rfl rfl rfl rfl ?_
   refine zL (r := oref 0 1 0 r5.length) rfl rfl rfl (LOp.extract rfl rfl rfl) ?_
   refine zL (r := b true) rfl rfl rfl (LOp.eqb (LOp.extract rfl rfl rfl) hc4) ?_
   refine zA (r := oref 0 1 0 r5.length) rfl rfl rfl rfl rfl ?_
   refine zA (r := b true) rfl rfl rfl rfl rfl ?_
   refine zN ?_
   refine RunC.seq ?_
   refine RunC.seq ?_
   rcases bsel_some h with ⟨hc5, h⟩ | ⟨hc5, h⟩
   ·refine RunC.regionW ?_
    refine zM (r := b true) rfl rfl rfl rfl rfl ?_
    refine zL (r := b false) rfl rfl rfl (LOp.eqb (LOp.not rfl rfl) rfl) ?_
    refine zM (r := b false) rfl rfl rfl rfl rfl ?_
    refine zM (r := b true) rfl rfl rfl rfl rfl ?_
    refine zL (r := b false) rfl rfl rfl (LOp.eqb (LOp.not rfl rfl) rfl) ?_
    refine zL (r := b false) rfl rfl rfl (LOp.pick_false rfl rfl rfl) ?_
    refine zM (r := b false) rfl rfl rfl rfl rfl ?_
    refine zM (r := oref 0 1 0 r5.length) rfl rfl rfl rfl rfl ?_
    refine zL (r := i64 ((r5.length : Nat) : Int)) rfl rfl rfl (LOp.len_oref und60 rfl rfl) ?_
    refine zL (r := b true) rfl rfl rfl (LOp.eqb (LOp.neq rfl rfl rfl) hc5) ?_
    refine zL (r := b true) rfl rfl rfl (LOp.pick_false rfl rfl rfl) ?_
    refine zN ?_
    refine RunC.wl (τ' := [(7, str r2), (9, oref 0 1 0 r5.length), (32, b true)]) (Γ' := [⟨1, some (r5.map i64)⟩]) ⟨aR, aR, aR, trivial⟩ ⟨⟨rfl, .inr rfl⟩, trivial⟩ ?_
    refine RunC.cond_true rfl rfl ?_
    refine zQ ?_
    refine zA (r := i64 0) rfl rfl rfl rfl rfl ?_
    refine zA (r := i64 0) rfl rfl rfl rfl rfl ?_
    refine zA (r := str lit_99ba06bc) rfl rfl rfl rfl rfl ?_
    refine zA (r := b false) rfl rfl rfl rfl rfl ?_
    refine zN ?_
    refine RunC.ret ?_
    have hq := Option.some.inj h
    obtain ⟨hq0, hq⟩ := Prod.mk.inj hq
    obtain ⟨hq1, hq⟩ := Prod.mk.inj hq
    obtain ⟨hq2, hq⟩ := Prod.mk.inj hq
    subst q0
    subst q1
    subst q2
    subst q3
    exact bodyQ.pure (.inr rfl) rfl (Res.four rfl (RV.tmp rfl) (RV.tmp rfl) (RV.tmp rfl) (RV.tmp rfl))
   ·refine RunC.regionW ?_
    refine zM (r := b true) rfl rfl rfl rfl rfl ?_
    refine zL (r := b false) rfl rfl rfl (LOp.eqb (LOp.not rfl rfl) rfl) ?_
    refine zM (r := b false) rfl rfl rfl rfl rfl ?_
    refine zM (r := b true) rfl rfl rfl rfl rfl ?_
    refine zL (r := b false) rfl rfl rfl (LOp.eqb (LOp.not rfl rfl) rfl) ?_
    refine zL (r := b false) rfl rfl rfl (LOp.pick_false rfl rfl rfl) ?_
    refine zM (r := b false) rfl rfl rfl rfl rfl ?_
    refine zM (r := oref 0 1 0 r5.length) rfl rfl rfl rfl rfl ?_
    refine zL (r := i64 ((r5.length : Nat) : Int)) rfl rfl rfl (LOp.len_oref und60 rfl rfl) ?_
    refine zL (r := b false) rfl rfl rfl (LOp.eqb (LOp.neq rfl rfl rfl) hc5) ?_
    refine zL (r := b false) rfl rfl rfl (LOp.pick_false rfl rfl rfl) ?_
    refine zN ?_
    refine RunC.wl (τ' := [(7, str r2), (9, oref 0 1 0 r5.length), (32, b false)]) (Γ' := [⟨1, some (r5.map i64)⟩]) ⟨aR, aR, aR, trivial⟩ ⟨⟨rfl, .inr rfl⟩, trivial⟩ ?_
    refine RunC.cond_false rfl rfl ?_
    refine RunC.skip ?_
    refine RunC.seq ?_
    obtain ⟨e6, he6, h⟩ := obind_some h
    obtain ⟨e7, he7, h⟩ := obind_some h
    refine RunC.region_draw (Γ' := [⟨1, some (r5.map i64)⟩]) 11 mixed 
     (TR.l (r := oref 0 1 0 r5.length) rfl rfl (LOp.move rfl rfl) <|
     (TR.d (r := optr 0 1 ((0 : Int).toNat)) (fs := []) rfl rfl (TOp.ixo und60 siz2 rfl rfl rfl (at_in he6 rfl) rfl) <|
     (TR.d (r := i64 e6) (fs := []) rfl rfl (TOp.load1_o rfl (at_cell he6) agg2 rfl rfl) <|
     (TR.l (r := oref 0 1 0 r5.length) rfl rfl (LOp.move rfl rfl) <|
     (TR.d (r := optr 0 1 ((1 : Int).toNat)) (fs := []) rfl rfl (TOp.ixo und60 siz2 rfl rfl rfl (at_in he7 rfl) rfl) <|
     (TR.d (r := i64 e7) (fs := []) rfl rfl (TOp.load1_o rfl (at_cell he7) agg2 rfl rfl) <|
     (TR.l (r := str r2) rfl rfl (LOp.move rfl rfl) <|
     (TR.l (r := i64 e6) rfl rfl (LOp.assign rfl rfl) <|
     (TR.l (r := i64 e7) rfl rfl (LOp.assign rfl rfl) <|
     (TR.l (r := str r2) rfl rfl (LOp.assign rfl rfl) <|
     (TR.l (r := b true) rfl rfl (LOp.assign rfl rfl) <|
     TR.nil))))))))))) rfl (by kernel_rfl) rfl fills_nil rfl ?_
    iterate 11 refine ROps.dropS ?_
    refine ROps.drop0 ?_
    refine zN ?_
    refine RunC.ret ?_
    have hq := Option.some.inj h
    obtain ⟨hq0, hq⟩ := Prod.mk.inj hq
    obtain ⟨hq1, hq⟩ := Prod.mk.inj hq
    obtain ⟨hq2, hq⟩ := Prod.mk.inj hq
    subst q0
    subst q1
    subst q2
    subst q3
    exact bodyQ.pure (.inr rfl) rfl (Res.four rfl (RV.tmp rfl) (RV.tmp rfl) (RV.tmp rfl) (RV.tmp rfl))
  ·refine RunC.regionW ?_
   refine zM (r := str r1) rfl rfl rfl rfl rfl ?_
   refine ROps.d (r := tup [oref 0 1 0 r5.length, b r4]) (fs := [(0, (r5.map i64))]) (Γ' := [⟨1, some (r5.map i64)⟩]) rfl rfl rfl (TOp.callBN (ls := [(r5.map i64)]) [0] (CallAs.func ent37 rfl rfl) (Bors.cons (Bor.pure rfl) Bors.nil) rfl (i_ReadList_ok r1 r4 r5 hf3) (and_all (lts0_map (f := i64) (fun _ => rfl) _) rfl) (and_all (noss_map (f := i64) (fun _ => rfl) _) rfl) rfl (by decide) (ns_of ⟨⟨_, rfl⟩, trivial⟩)) rfl ?_
   refine zM (r := tup [oref 0 1 0 r5.length, b r4]) rfl rfl rfl rfl rfl ?_
   refine zL (r := oref 0 1 0 r5.length) rfl rfl rfl (LOp.extract rfl rfl rfl) ?_
   refine zL (r := b false) rfl rfl rfl (LOp.eqb (LOp.extract rfl rfl rfl) hc4) ?_
   refine zA (r := oref 0 1 0 r5.length) rfl rfl rfl rfl rfl ?_
   refine zA (r := b false) rfl rfl rfl rfl rfl ?_
   refine zN ?_
   refine RunC.seq ?_
   refine zQ ?_
   refine zM (r := b true) rfl rfl rfl rfl rfl ?_
   refine zL (r := b false) rfl rfl rfl (LOp.eqb (LOp.not rfl rfl) rfl) ?_
   refine zM (r := b false) rfl rfl rfl rfl rfl ?_
   refine zM (r := b false) rfl rfl rfl rfl rfl ?_
   refine zL (r := b true) rfl rfl rfl (LOp.eqb (LOp.not rfl rfl) rfl) ?_
   refine zL (r := b true) rfl rfl rfl (LOp.pick_false rfl rfl rfl) ?_
   refine zM (r := b true) rfl rfl rfl rfl rfl ?_
   refine ROps.s rfl rfl rfl ?_
   refine ROps.s rfl rfl rfl ?_
   refine ROps.s rfl rfl rfl ?_
   refine zL (r := b true) rfl rfl rfl (LOp.pick_true rfl rfl rfl) ?_
   refine zN ?_
   refine RunC.wl (τ' := [(7, str r2), (9, oref 0 1 0 r5.length), (32, b true)]) (Γ' := [⟨1, some (r5.map i64)⟩]) ⟨aR, aR, aR, trivial⟩ ⟨⟨rfl, .inr rfl⟩, trivial⟩ ?_
   refine RunC.cond_true rfl rfl ?_
   refine zQ ?_
   refine zA (r := i64 0) rfl rfl rfl rfl rfl ?_
   refine zA (r := i64 0) rfl rfl rfl rfl rfl ?_
   refine zA (r := str lit_99ba06bc) rfl rfl rfl rfl rfl ?_
   refine zA (r := b false) rfl rfl rfl rfl rfl ?_
   refine zN ?_
   refine RunC.ret ?_
   have hq := Option.some.inj h
   obtain ⟨hq0, hq⟩ := Prod.mk.inj hq
   obtain ⟨hq1, hq⟩ := Prod.mk.inj hq
   obtain ⟨hq2, hq⟩ := Prod.mk.inj hq
   subst q0
   subst q1
   subst q2
   subst q3
   exact bodyQ.pure (.inr rfl) rfl (Res.four rfl (RV.tmp rfl) (RV.tmp rfl) (RV.tmp rfl) (RV.tmp rfl))
 ·refine RunC.regionW ?_
  refine zM (r := str a0) rfl rfl rfl rfl rfl ?_
  refine ROps.d (r := tup [str r1, str r2, b r3]) (fs := []) (Γ' := [⟨0, none⟩]) rfl rfl rfl (TOp.callB (CallAs.func ent16 rfl rfl) (Bors.cons (Bor.pure rfl) (Bors.cons (Bor.pure rfl) Bors.nil)) rfl rfl (x_strings_Cut_ok a0 lit_b7340269 r1 r2 r3 hf1)) rfl ?_
  refine zM (r := tup [str r1, str r2, b r3]) rfl rfl rfl rfl rfl ?_
  refine zL (r := str r1) rfl rfl rfl (LOp.extract rfl rfl rfl) ?_
  refine zL (r := str r2) rfl rfl rfl (LOp.extract rfl rfl rfl) ?_
  refine zL (r := b false) rfl rfl rfl (LOp.eqb (LOp.extract rfl rfl rfl) hc2) ?_
  refine zA (r := str r1) rfl rfl rfl rfl rfl ?_
  refine zA (r := str r2) rfl rfl rfl rfl rfl ?_
  refine zA (r := b false) rfl rfl rfl rfl rfl ?_
  refine zN ?_
  refine RunC.seq ?_
  obtain ⟨r8, r9, hf8, h⟩ := obind2_some h
  rcases bsel_some h with ⟨hc9, h⟩ | ⟨hc9, h⟩
  ·refine RunC.regionW ?_
   refine zM (r := str r1) rfl rfl rfl rfl rfl ?_
   refine ROps.d (r := tup [oref 0 1 0 r9.length, b r8]) (fs := [(0, (r9.map i64))]) (Γ' := [⟨1, some (r9.map i64)⟩]) rfl rfl rfl (TOp.callBN (ls := [(r9.map i64)]) [0] (CallAs.func ent37 rfl rfl) (Bors.cons (Bor.pure rfl) Bors.nil) rfl (i_ReadList_ok r1 r8 r9 hf8) (and_all (lts0_map (f := i64) (fun _ => rfl) _) rfl) (and_all (noss_map (f := i64) (fun _ => rfl) _) rfl) rfl (by decide) (ns_of ⟨⟨_, rfl⟩, trivial⟩)) rfl ?_
   refine zM (r := tup [oref 0 1 0 r9.length, b r8]) rfl rfl rfl rfl rfl ?_
   refine zL (r := oref 0 1 0 r9.length) rfl rfl rfl (LOp.extract rfl rfl rfl) ?_
   refine zL (r := b true) rfl rfl rfl (LOp.eqb (LOp.extract rfl rfl rfl) hc9) ?_
   refine zA (r := oref 0 1 0 r9.length) rfl rfl rfl rfl rfl ?_
   refine zA (r := b true) rfl rfl rfl rfl rfl ?_
   refine zN ?_
   refine RunC.seq ?_
   refine zQ ?_
   refine zM (r := b false) rfl rfl rfl rfl rfl ?_
   refine zL (r := b true) rfl rfl rfl (LOp.eqb (LOp.not rfl rfl) rfl) ?_
   refine zM (r := b true) rfl rfl rfl rfl rfl ?_
   refine ROps.s rfl rfl rfl ?_
   refine ROps.s rfl rfl rfl ?_
   refine zL (r := b true) rfl rfl rfl (LOp.pick_true rfl rfl rfl) ?_
   refine zM (r := b true) rfl rfl rfl rfl rfl ?_
   refine ROps.s rfl rfl rfl ?_
   refine ROps.s rfl rfl rfl ?_
   refine ROps.s rfl rfl rfl ?_
   refine zL (r := b true) rfl rfl rfl (LOp.pick_true rfl rfl rfl) ?_
   refine zN ?_
   refine RunC.wl (τ' := [(7, str r2), (9, oref 0 1 0 r9.length), (32, b true)]) (Γ' := [⟨1, some (r9.map i64)⟩]) ⟨aR, aR, aR, trivial⟩ ⟨⟨rfl, .inr rfl⟩, trivial⟩ ?_
   refine RunC.cond_true rfl rfl ?_
   refine zQ ?_
   refine zA (r := i64 0) rfl rfl rfl rfl rfl ?_
   refine zA (r := i64 0) rfl rfl rfl rfl rfl ?_
   refine zA (r := str lit_99ba06bc) rfl rfl rfl rfl rfl ?_
   refine zA (r := b false) rfl rfl rfl rfl rfl ?_
   refine zN ?_
   refine RunC.ret ?_
   have hq := Option.some.inj h
   obtain ⟨hq0, hq⟩ := Prod.mk.inj hq
   obtain ⟨hq1, hq⟩ := Prod.mk.inj hq
   obtain ⟨hq2, hq⟩ := Prod.mk.inj hq
   subst q0
   subst q1
   subst q2
   subst q3
   exact bodyQ.pure (.inr rfl) rfl (Res.four rfl (RV.tmp rfl) (RV.tmp rfl) (RV.tmp rfl) (RV.tmp rfl))
  ·refine RunC.regionW ?_
   refine zM (r := str r1) rfl rfl rfl rfl rfl ?_
   refine ROps.d (r := tup [oref 0 1 0 r9.length, b r8]) (fs := [(0, (r9.map i64))]) (Γ' := [⟨1, some (r9.map i64)⟩]) rfl rfl rfl (TOp.callBN (ls := [(r9.map i64)]) [0] (CallAs.func ent37 rfl rfl) (Bors.cons (Bor.pure rfl) Bors.nil) rfl (i_ReadList_ok r1 r8 r9 hf8) (and_all (lts0_map (f := i64) (fun _ => rfl) _) rfl) (and_all (noss_map (f := i64) (fun _ => rfl) _) rfl) rfl (by decide) (ns_of ⟨⟨_, rfl⟩, trivial⟩)) rfl ?_
   refine zM (r := tup [oref 0 1 0 r9.length, b r8]) rfl rfl rfl rfl rfl ?_
   refine zL (r := oref 0 1 0 r9.length) rfl rfl rfl (LOp.extract rfl rfl rfl) ?_
   refine zL (r := b false) rfl rfl rfl (LOp.eqb (LOp.extract rfl rfl rfl) hc9) ?_
   refine zA (r := oref 0 1 0 r9.length) rfl rfl rfl rfl rfl ?_
   refine zA (r := b false) rfl rfl rfl rfl rfl ?_
   refine zN ?_
   refine RunC.seq ?_
   refine zQ ?_
   refine zM (r := b false) rfl rfl rfl rfl rfl ?_
   refine zL (r := b true) rfl rfl rfl (LOp.eqb (LOp.not rfl rfl) rfl) ?_
   refine zM (r := b true) rfl rfl rfl rfl rfl ?_
   refine ROps.s rfl rfl rfl ?_
   refine ROps.s rfl rfl rfl ?_
   refine zL (r := b true) rfl rfl rfl (LOp.pick_true rfl rfl rfl) ?_
   refine zM (r := b true) rfl rfl rfl rfl rfl ?_
   refine ROps.s rfl rfl rfl ?_
   refine ROps.s rfl rfl rfl ?_
   refine ROps.s rfl rfl rfl ?_
   refine zL (r := b true) rfl rfl rfl (LOp.pick_true rfl rfl rfl) ?_
   refine zN ?_
   refine RunC.wl (τ' := [(7, str r2), (9, oref 0 1 0 r9.length), (32, b true)]) (Γ' := [⟨1, some (r9.map i64)⟩]) ⟨aR, aR, aR, trivial⟩ ⟨⟨rfl, .inr rfl⟩, trivial⟩ ?_
   refine RunC.cond_true rfl rfl ?_
   refine zQ ?_
   refine zA (r := i64 0) rfl rfl rfl rfl rfl ?_
   refine zA (r := i64 0) rfl rfl rfl rfl rfl ?_
   refine zA (r := str lit_99ba06bc) rfl rfl rfl rfl rfl ?_
   refine zA (r := b false) rfl rfl rfl rfl rfl ?_
   refine zN ?_
   refine RunC.ret ?_
   have hq := Option.some.inj h
   obtain ⟨hq0, hq⟩ := Prod.mk.inj hq
   obtain ⟨hq1, hq⟩ := Prod.mk.inj hq
   obtain ⟨hq2, hq⟩ := Prod.mk.inj hq
   subst q0
   subst q1
   subst q2
   subst q3
   exact bodyQ.pure (.inr rfl) rfl (Res.four rfl (RV.tmp rfl) (RV.tmp rfl) (RV.tmp rfl) (RV.tmp rfl))
noncomputable def x_internal_strconv_lower (a0 : Int) : Option (Int) :=
 olet (ior .u8 a0 32) fun (x1 : Int) =>
 some x1
theorem x_internal_strconv_lower_ok (a0 : Int) (q0 : Int) (h : x_internal_strconv_lower a0 = some q0) : Ev Tryz.prog 79 [ik .u8 a0] [] (ik .u8 q0) [] := by
 refine Ev.start Tryz.func79 rfl rfl 0 (τ := [(0, ik .u8 a0)]) rfl (Γ' := []) rfl (n := 11) rfl (g := 0) rfl (fun _ => rfl) ?_
 unfold x_internal_strconv_lower at h
 refine zQ ?_
 refine zA (r := ik .u8 0) rfl rfl rfl rfl rfl ?_
 refine zN ?_
 refine RunC.seq ?_
 obtain ⟨x1, hx1, h⟩ := olet_some h
 refine RunC.regionW ?_
 refine zM (r := ik .u8 a0) rfl rfl rfl rfl rfl ?_
 refine zL (r := ik .u8 x1) rfl rfl rfl (LOp.eqr (LOp.ior rfl rfl rfl) (congrArg (ik .u8) hx1)) ?_
 refine zA (r := ik .u8 x1) rfl rfl rfl rfl rfl ?_
 refine zN ?_
 refine RunC.ret ?_
 have hq := Option.some.inj h
 subst q0
 exact bodyQ.pure (.inr rfl) rfl (Res.one rfl (RV.tmp rfl))
end Go.Proofs.YticpoofjnfiebaaGreatDoor
