/- Generated. -/
import Derived.Test.YticpoofjnfiebaaGreatDoorTys
namespace Go.Proofs.YticpoofjnfiebaaGreatDoor
open Go Go.AM Go.AM.AV
set_option maxRecDepth 20000
set_option maxHeartbeats 4000000
set_option linter.unusedVariables false
set_option linter.unusedSimpArgs false
noncomputable def s_l01Cut_k2 (v5 : Int) (L13 : List ByteArray) (v14 : Int) : Option (LR ((List ByteArray) × Int × Int) ((List ByteArray)) ((List ByteArray))) :=
 olet (IntKind.i64.wrap (v5 + 1)) fun (x15 : Int) =>
 some (LR.next (L13, v14, x15))
noncomputable def s_l01Cut_b3 (a0 : ByteArray) (a1 : Int) (L3 : List ByteArray) (v4 : Int) (v5 : Int) : Option (LR ((List ByteArray) × Int × Int) ((List ByteArray)) ((List ByteArray))) :=
 bsel (decide (v5 ≤ (a0.size : Int))) (
  bsel (decide (v5 = (a0.size : Int))) (
   obind (subs? a0 v4 v5) fun (t7 : ByteArray) =>
   need (apok 16 L3.length 1) <|
   olet (IntKind.i64.wrap (v5 + 1)) fun (x8 : Int) =>
   s_l01Cut_k2 v5 (L3 ++ ([t7] : List ByteArray)) x8) (
   obind (sat? a0 v5) fun (e6 : Int) =>
   bsel (decide (e6 = a1)) (
    obind (subs? a0 v4 v5) fun (t9 : ByteArray) =>
    need (apok 16 L3.length 1) <|
    olet (IntKind.i64.wrap (v5 + 1)) fun (x10 : Int) =>
    s_l01Cut_k2 v5 (L3 ++ ([t9] : List ByteArray)) x10) (
    s_l01Cut_k2 v5 L3 v4))) (
  some (LR.out L3))
noncomputable def s_l01Cut_s3 (a0 : ByteArray) (a1 : Int) : ((List ByteArray) × Int × Int) → Option (LR ((List ByteArray) × Int × Int) ((List ByteArray)) ((List ByteArray))) := fun s => s_l01Cut_b3 a0 a1 s.1 s.2.1 s.2.2
noncomputable def s_l01Cut_k3 (L18 : List ByteArray) : Option ((List ByteArray)) :=
 some L18
noncomputable def s_l01Cut (a0 : ByteArray) (a1 : Int) : Option ((List ByteArray)) :=
 obind (loopM (s_l01Cut_s3 a0 a1) (([] : List ByteArray), 0, 0)) fun z => osum z (fun e => s_l01Cut_k3 e) (fun r => some r)
theorem s_l01Cut_ok (a0 : ByteArray) (a1 : Int) (q0 : List ByteArray) (h : s_l01Cut a0 a1 = some q0) : Ev Tryz.prog 25 [str a0, ik .u8 a1] [] (oref 0 0 0 q0.length) [⟨0, some (q0.map str)⟩] := by
 refine Ev.start Tryz.func25 rfl rfl 2 (τ := [(0, str a0), (1, ik .u8 a1)]) rfl (Γ' := [⟨0, none⟩, ⟨0, none⟩]) rfl (n := 73) rfl (g := 0) rfl (fun _ => rfl) ?_
 unfold s_l01Cut at h
 refine zQ ?_
 refine zA (r := nilsl) rfl rfl rfl rfl rfl ?_
 refine zN ?_
 refine zQ ?_
 refine ROps.d (r := oref 0 1 0 0) (fs := [(0, (([] : List ByteArray).map str))]) (Γ' := [⟨1, some (([] : List ByteArray).map str)⟩, ⟨0, none⟩]) rfl rfl rfl (TOp.buildSlice_o (g := ⟨0, none⟩) (za := str lit_99ba06bc) (qs := []) 0 rfl und46 siz9 zer9 rfl zel9 rfl rfl trivial rfl) rfl ?_
 refine zA (r := oref 0 1 0 0) rfl rfl rfl rfl rfl ?_
 refine zN ?_
 refine zQ ?_
 refine zA (r := i64 0) rfl rfl rfl rfl rfl ?_
 refine zN ?_
 refine RunC.seq ?_
 refine zQ ?_
 refine zA (r := i64 0) rfl rfl rfl rfl rfl ?_
 refine zN ?_
 obtain ⟨z4, hz_4, h⟩ := obind_some h
 refine RunC.cutN (fun τ Γ => ∃ (L18 : List ByteArray) (u16 : Nat) (u17 : Nat), WeakLe τ [(5, oref 0 u16 0 L18.length)] ∧ DeadLe Γ [⟨u16, some (L18.map str)⟩, ⟨u17, none⟩] ∧ z4 = .inl L18) ?_ ?_
 ·refine RunC.block (RunC.loop (RunL.loopM (x := z4) (s_l01Cut_s3 a0 a1) (fun (s : (List ByteArray) × Int × Int) τ Γ => ∃ (u1 : Nat) (u2 : Nat), WeakLe τ [(0, str a0), (1, ik .u8 a1), (5, oref 0 u1 0 s.1.length), (6, i64 s.2.1), (7, i64 s.2.2)] ∧ DeadLe Γ [⟨u1, some (s.1.map str)⟩, ⟨u2, none⟩]) ?_ _ _ _ hz_4 ⟨1, 0, ⟨aR, aR, aR, aR, aR, trivial⟩, ⟨⟨rfl, .inr rfl⟩, ⟨rfl, .inl rfl⟩, trivial⟩⟩))
  rintro ⟨L3, v4, v5⟩ τ4 Γ4 y4_ ⟨u1, u2, hw4, hd4⟩ h4_ ho4 hr4
  refine RunC.wl (τ' := [(0, str a0), (1, ik .u8 a1), (5, oref 0 u1 0 L3.length), (6, i64 v4), (7, i64 v5)]) (Γ' := [⟨u1, some (L3.map str)⟩, ⟨u2, none⟩]) hw4 hd4 ?_
  replace h4_ : s_l01Cut_b3 a0 a1 L3 v4 v5 = some y4_ := h4_
  unfold s_l01Cut_b3 at h4_
  refine RunC.seq ?_
  refine RunC.seq ?_
  rcases bsel_some h4_ with ⟨hc1, h4_⟩ | ⟨hc1, h4_⟩
  ·refine RunC.regionW ?_
   refine zM (r := i64 v5) rfl rfl rfl rfl rfl ?_
   refine zM (r := str a0) rfl rfl rfl rfl rfl ?_
   refine zL (r := i64 (a0.size : Int)) rfl rfl rfl (LOp.len_str und9 rfl rfl) ?_
   refine zL (r := b true) rfl rfl rfl (LOp.eqb (LOp.leq rfl rfl rfl) hc1) ?_
   refine zN ?_
   refine RunC.cond_true rfl rfl ?_
   refine RunC.skip ?_
   refine RunC.seq ?_
   refine RunC.cutN (fun τ Γ => ∃ (L13 : List ByteArray) (v14 : Int) (u11 : Nat) (u12 : Nat), WeakLe τ [(0, str a0), (1, ik .u8 a1), (5, oref 0 u11 0 L13.length), (6, i64 v14), (7, i64 v5)] ∧ DeadLe Γ [⟨u11, some (L13.map str)⟩, ⟨u12, none⟩] ∧ s_l01Cut_k2 v5 L13 v14 = some y4_) ?_ ?_
   ·refine RunC.block ?_
    refine RunC.seq ?_
    rcases bsel_some h4_ with ⟨hc2, h4_⟩ | ⟨hc2, h4_⟩
    ·refine RunC.regionW ?_
     refine zM (r := i64 v5) rfl rfl rfl rfl rfl ?_
     refine zM (r := str a0) rfl rfl rfl rfl rfl ?_
     refine zL (r := i64 (a0.size : Int)) rfl rfl rfl (LOp.len_str und9 rfl rfl) ?_
     refine zL (r := b true) rfl rfl rfl (LOp.eqb (LOp.eql rfl rfl rfl) hc2) ?_
     refine zM (r := b true) rfl rfl rfl rfl rfl ?_
     refine ROps.s rfl rfl rfl ?_
     refine ROps.s rfl rfl rfl ?_
     refine ROps.s rfl rfl rfl ?_
     refine ROps.s rfl rfl rfl ?_
     refine ROps.s rfl rfl rfl ?_
     refine zL (r := b true) rfl rfl rfl (LOp.pick_true rfl rfl rfl) ?_
     refine zN ?_
     refine RunC.cond_true rfl rfl ?_
     refine RunC.seq ?_
     obtain ⟨t7, hs5, h4_⟩ := obind_some h4_
     obtain ⟨hm6, h4_⟩ := need_some h4_
     refine RunC.regionW ?_
     refine zM (r := oref 0 u1 0 L3.length) rfl rfl rfl rfl rfl ?_
     refine zM (r := str a0) rfl rfl rfl rfl rfl ?_
     refine zM (r := i64 v4) rfl rfl rfl rfl rfl ?_
     refine zM (r := i64 v5) rfl rfl rfl rfl rfl ?_
     refine zL (r := str t7) rfl rfl rfl (LOp.subs und9 rfl rfl rfl rfl hs5) ?_
     refine ROps.d (r := oref 1 (u2 + 1) 0 1) (fs := [(1, (([t7] : List ByteArray).map str))]) (Γ' := [⟨u1, some (L3.map str)⟩, ⟨(u2 + 1), some (([t7] : List ByteArray).map str)⟩]) rfl rfl rfl (TOp.buildSlice_o (g := ⟨u2, none⟩) (za := str lit_99ba06bc) (qs := [(0, [str t7])]) 1 rfl und46 siz9 zer9 rfl zel9 rfl rfl ⟨rfl, ⟨_, ALe.refl _, rfl⟩, trivial⟩ rfl) rfl ?_
     refine ROps.app (f := str) (xs := L3) (ys := ([t7] : List ByteArray)) (Γ' := [⟨(u1 + 1), some ((L3 ++ ([t7] : List ByteArray)).map str)⟩, ⟨(u2 + 1), some (([t7] : List ByteArray).map str)⟩]) rfl pun46 inf9 rfl rfl rfl rfl rfl rfl rfl rfl rfl (by simp) (ReadAs.own rfl (by simp)) (ones_map (fun _ => rfl)) (ap_by hm6) (ap_mx hm6) rfl ?_
     refine zA (r := oref 0 (u1 + 1) 0 (L3.length + 1)) rfl rfl rfl rfl rfl ?_
     refine zN ?_
     refine RunC.wl (τ' := [(0, str a0), (1, ik .u8 a1), (5, oref 0 (u1 + 1) 0 (L3.length + 1)), (7, i64 v5)]) (Γ' := [⟨(u1 + 1), some ((L3 ++ ([t7] : List ByteArray)).map str)⟩, ⟨(u2 + 1), none⟩]) ⟨aR, aR, aR, aR, trivial⟩ ⟨⟨rfl, .inr rfl⟩, ⟨rfl, .inl rfl⟩, trivial⟩ ?_
     obtain ⟨x8, hx7, h4_⟩ := olet_some h4_
     refine RunC.regionW ?_
     refine zM (r := i64 v5) rfl rfl rfl rfl rfl ?_
     refine zL (r := i64 x8) rfl rfl rfl (LOp.eqr (LOp.add rfl rfl rfl) (congrArg (ik .i64) hx7)) ?_
     refine zA (r := i64 x8) rfl rfl rfl rfl rfl ?_
     refine zN ?_
     exact ⟨(L3 ++ ([t7] : List ByteArray)), x8, (u1 + 1), (u2 + 1), ⟨aR, aR, (ALe.eq (by rw [(app_len rfl rfl)] <;> rfl)), aR, aR, trivial⟩, ⟨⟨rfl, .inr rfl⟩, ⟨rfl, .inl rfl⟩, trivial⟩, h4_⟩
    ·obtain ⟨e6, he3, h4_⟩ := obind_some h4_
     rcases bsel_some h4_ with ⟨hc4, h4_⟩ | ⟨hc4, h4_⟩
     ·refine RunC.regionW ?_
      refine zM (r := i64 v5) rfl rfl rfl rfl rfl ?_
      refine zM (r := str a0) rfl rfl rfl rfl rfl ?_
      refine zL (r := i64 (a0.size : Int)) rfl rfl rfl (LOp.len_str und9 rfl rfl) ?_
      refine zL (r := b false) rfl rfl rfl (LOp.eqb (LOp.eql rfl rfl rfl) hc2) ?_
      refine zM (r := b false) rfl rfl rfl rfl rfl ?_
      refine zM (r := str a0) rfl rfl rfl rfl rfl ?_
      refine zM (r := i64 v5) rfl rfl rfl rfl rfl ?_
      refine zL (r := ik .u8 e6) rfl rfl rfl (LOp.index_str und9 rfl rfl rfl he3) ?_
      refine zM (r := ik .u8 a1) rfl rfl rfl rfl rfl ?_
      refine zL (r := b true) rfl rfl rfl (LOp.eqb (LOp.eql rfl rfl rfl) hc4) ?_
      refine zL (r := b true) rfl rfl rfl (LOp.pick_false rfl rfl rfl) ?_
      refine zN ?_
      refine RunC.cond_true rfl rfl ?_
      refine RunC.seq ?_
      obtain ⟨t9, hs8, h4_⟩ := obind_some h4_
      obtain ⟨hm9, h4_⟩ := need_some h4_
      refine RunC.regionW ?_
      refine zM (r := oref 0 u1 0 L3.length) rfl rfl rfl rfl rfl ?_
      refine zM (r := str a0) rfl rfl rfl rfl rfl ?_
      refine zM (r := i64 v4) rfl rfl rfl rfl rfl ?_
      refine zM (r := i64 v5) rfl rfl rfl rfl rfl ?_
      refine zL (r := str t9) rfl rfl rfl (LOp.subs und9 rfl rfl rfl rfl hs8) ?_
      refine ROps.d (r := oref 1 (u2 + 1) 0 1) (fs := [(1, (([t9] : List ByteArray).map str))]) (Γ' := [⟨u1, some (L3.map str)⟩, ⟨(u2 + 1), some (([t9] : List ByteArray).map str)⟩]) rfl rfl rfl (TOp.buildSlice_o (g := ⟨u2, none⟩) (za := str lit_99ba06bc) (qs := [(0, [str t9])]) 1 rfl und46 siz9 zer9 rfl zel9 rfl rfl ⟨rfl, ⟨_, ALe.refl _, rfl⟩, trivial⟩ rfl) rfl ?_
      refine ROps.app (f := str) (xs := L3) (ys := ([t9] : List ByteArray)) (Γ' := [⟨(u1 + 1), some ((L3 ++ ([t9] : List ByteArray)).map str)⟩, ⟨(u2 + 1), some (([t9] : List ByteArray).map str)⟩]) rfl pun46 inf9 rfl rfl rfl rfl rfl rfl rfl rfl rfl (by simp) (ReadAs.own rfl (by simp)) (ones_map (fun _ => rfl)) (ap_by hm9) (ap_mx hm9) rfl ?_
      refine zA (r := oref 0 (u1 + 1) 0 (L3.length + 1)) rfl rfl rfl rfl rfl ?_
      refine zN ?_
      refine RunC.wl (τ' := [(0, str a0), (1, ik .u8 a1), (5, oref 0 (u1 + 1) 0 (L3.length + 1)), (7, i64 v5), (20, str a0), (21, i64 v5), (22, ik .u8 e6), (23, ik .u8 a1), (24, b true)]) (Γ' := [⟨(u1 + 1), some ((L3 ++ ([t9] : List ByteArray)).map str)⟩, ⟨(u2 + 1), none⟩]) ⟨aR, aR, aR, aR, aR, aR, aR, aR, aR, trivial⟩ ⟨⟨rfl, .inr rfl⟩, ⟨rfl, .inl rfl⟩, trivial⟩ ?_
      obtain ⟨x10, hx10, h4_⟩ := olet_some h4_
      refine RunC.regionW ?_
      refine zM (r := i64 v5) rfl rfl rfl rfl rfl ?_
      refine zL (r := i64 x10) rfl rfl rfl (LOp.eqr (LOp.add rfl rfl rfl) (congrArg (ik .i64) hx10)) ?_
      refine zA (r := i64 x10) rfl rfl rfl rfl rfl ?_
      refine zN ?_
      exact ⟨(L3 ++ ([t9] : List ByteArray)), x10, (u1 + 1), (u2 + 1), ⟨aR, aR, (ALe.eq (by rw [(app_len rfl rfl)] <;> rfl)), aR, aR, trivial⟩, ⟨⟨rfl, .inr rfl⟩, ⟨rfl, .inl rfl⟩, trivial⟩, h4_⟩
     ·refine RunC.regionW ?_
      refine zM (r := i64 v5) rfl rfl rfl rfl rfl ?_
      refine zM (r := str a0) rfl rfl rfl rfl rfl ?_
      refine zL (r := i64 (a0.size : Int)) rfl rfl rfl (LOp.len_str und9 rfl rfl) ?_
      refine zL (r := b false) rfl rfl rfl (LOp.eqb (LOp.eql rfl rfl rfl) hc2) ?_
      refine zM (r := b false) rfl rfl rfl rfl rfl ?_
      refine zM (r := str a0) rfl rfl rfl rfl rfl ?_
      refine zM (r := i64 v5) rfl rfl rfl rfl rfl ?_
      refine zL (r := ik .u8 e6) rfl rfl rfl (LOp.index_str und9 rfl rfl rfl he3) ?_
      refine zM (r := ik .u8 a1) rfl rfl rfl rfl rfl ?_
      refine zL (r := b false) rfl rfl rfl (LOp.eqb (LOp.eql rfl rfl rfl) hc4) ?_
      refine zL (r := b false) rfl rfl rfl (LOp.pick_false rfl rfl rfl) ?_
      refine zN ?_
      refine RunC.cond_false rfl rfl ?_
      refine RunC.skip ?_
      exact ⟨L3, v4, u1, u2, ⟨aR, aR, aR, aR, aR, trivial⟩, ⟨⟨rfl, .inr rfl⟩, ⟨rfl, .inl rfl⟩, trivial⟩, h4_⟩
   ·rintro τ5 Γ5 ⟨L13, v14, u11, u12, hw5, hd5, h4_⟩
    refine RunC.wl hw5 hd5 ?_
    unfold s_l01Cut_k2 at h4_
    obtain ⟨x15, hx11, h4_⟩ := olet_some h4_
    refine RunC.regionW ?_
    refine zM (r := i64 v5) rfl rfl rfl rfl rfl ?_
    refine zL (r := i64 x15) rfl rfl rfl (LOp.eqr (LOp.add rfl rfl rfl) (congrArg (ik .i64) hx11)) ?_
    refine zA (r := i64 x15) rfl rfl rfl rfl rfl ?_
    refine zN ?_
    cases Option.some.inj h4_
    exact ⟨_, rfl, u11, u12, ⟨aR, aR, aR, aR, aR, trivial⟩, ⟨⟨rfl, .inr rfl⟩, ⟨rfl, .inl rfl⟩, trivial⟩⟩
  ·refine RunC.regionW ?_
   refine zM (r := i64 v5) rfl rfl rfl rfl rfl ?_
   refine zM (r := str a0) rfl rfl rfl rfl rfl ?_
   refine zL (r := i64 (a0.size : Int)) rfl rfl rfl (LOp.len_str und9 rfl rfl) ?_
   refine zL (r := b false) rfl rfl rfl (LOp.eqb (LOp.leq rfl rfl rfl) hc1) ?_
   refine zN ?_
   refine RunC.cond_false rfl rfl ?_
   refine RunC.exit ?_
   cases Option.some.inj h4_
   have hx := ho4 _ rfl
   exact ⟨L3, u1, u2, ⟨aR, trivial⟩, ⟨⟨rfl, .inr rfl⟩, ⟨rfl, .inl rfl⟩, trivial⟩, hx⟩
 ·rintro τ6 Γ6 ⟨L18, u16, u17, hw6, hd6, rfl⟩
  refine RunC.wl hw6 hd6 ?_
  replace h : s_l01Cut_k3 L18 = some q0 := h
  unfold s_l01Cut_k3 at h
  refine zQ ?_
  refine zM (r := oref 0 u16 0 L18.length) rfl rfl rfl rfl rfl ?_
  refine zA (r := oref 0 u16 0 L18.length) rfl rfl rfl rfl rfl ?_
  refine zN ?_
  refine RunC.ret ?_
  have hq := Option.some.inj h
  subst q0
  exact bodyQ.mk (r' := oref 0 u16 0 L18.length) [(0, u16)] (.inr rfl) rfl (show List.Nodup [0] from by decide) (by simp [ren, rens, sigma]) rfl (Res.one rfl (RV.tmp rfl)) (SelL.arr0 (f := str) (fun _ => rfl) rfl trivial)
noncomputable def s_l01From (a0 : Int) : Option (F) :=
 olet (IntKind.u32.wrap a0) fun (x1 : Int) =>
 need ((decide (0 ≤ x1) && decide (x1.toNat < 2 ^ FloatKind.f32.format.width))) <|
 some (ffb .f32 x1)
theorem s_l01From_ok (a0 : Int) (q0 : F) (h : s_l01From a0 = some q0) : Ev Tryz.prog 39 [i64 a0] [] (f32 q0) [] := by
 refine Ev.start Tryz.func39 rfl rfl 0 (τ := [(0, i64 a0)]) rfl (Γ' := []) rfl (n := 13) rfl (g := 0) rfl (fun _ => rfl) ?_
 unfold s_l01From at h
 refine zQ ?_
 refine zL (r := f32 (some 0)) rfl rfl rfl (LOp.le (LOp.assign rfl rfl) (ALe.fl (by kernel_rfl) (by kernel_rfl))) ?_
 refine zN ?_
 refine RunC.seq ?_
 obtain ⟨x1, hx1, h⟩ := olet_some h
 obtain ⟨hz2, h⟩ := need_some h
 refine RunC.regionW ?_
 refine zM (r := i64 a0) rfl rfl rfl rfl rfl ?_
 refine zL (r := ik .u32 x1) rfl rfl rfl (LOp.eqr (LOp.i2i (src := 2) (dst := 75) ⟨_, pun2⟩ pun75 rfl rfl) (congrArg (ik .u32) hx1)) ?_
 refine zL (r := f32 (ffb .f32 x1)) rfl rfl rfl (LOp.ffromx ext45 rfl rfl hz2) ?_
 refine zA (r := f32 (ffb .f32 x1)) rfl rfl rfl rfl rfl ?_
 refine zN ?_
 refine RunC.ret ?_
 have hq := Option.some.inj h
 subst q0
 exact bodyQ.pure (.inr rfl) rfl (Res.one rfl (RV.tmp rfl))
noncomputable def s_l01Bits (a0 : F) : Option (Int) :=
 bsel (!feq .f32 a0 a0) (
  some 2143289344) (
  obind (a0) fun (b1 : Nat) =>
  olet (IntKind.i64.wrap (b1 : Int)) fun (x2 : Int) =>
  some x2)
theorem s_l01Bits_ok (a0 : F) (q0 : Int) (h : s_l01Bits a0 = some q0) : Ev Tryz.prog 40 [f32 a0] [] (i64 q0) [] := by
 refine Ev.start Tryz.func40 rfl rfl 0 (τ := [(0, f32 a0)]) rfl (Γ' := []) rfl (n := 19) rfl (g := 0) rfl (fun _ => rfl) ?_
 unfold s_l01Bits at h
 refine zQ ?_
 refine zA (r := i64 0) rfl rfl rfl rfl rfl ?_
 refine zN ?_
 refine RunC.seq ?_
 refine RunC.seq ?_
 rcases bsel_some h with ⟨hc1, h⟩ | ⟨hc1, h⟩
 ·refine RunC.regionW ?_
  refine zM (r := f32 a0) rfl rfl rfl rfl rfl ?_
  refine zM (r := f32 a0) rfl rfl rfl rfl rfl ?_
  refine zL (r := b true) rfl rfl rfl (LOp.eqb (LOp.fne rfl (OpF.tmp rfl) (OpF.tmp rfl)) hc1) ?_
  refine zN ?_
  refine RunC.cond_true rfl rfl ?_
  refine zQ ?_
  refine zA (r := i64 2143289344) rfl rfl rfl rfl rfl ?_
  refine zN ?_
  refine RunC.ret ?_
  have hq := Option.some.inj h
  subst q0
  exact bodyQ.pure (.inr rfl) rfl (Res.one rfl (RV.tmp rfl))
 ·refine RunC.regionW ?_
  refine zM (r := f32 a0) rfl rfl rfl rfl rfl ?_
  refine zM (r := f32 a0) rfl rfl rfl rfl rfl ?_
  refine zL (r := b false) rfl rfl rfl (LOp.eqb (LOp.fne rfl (OpF.tmp rfl) (OpF.tmp rfl)) hc1) ?_
  refine zN ?_
  refine RunC.cond_false rfl rfl ?_
  refine RunC.skip ?_
  refine RunC.seq ?_
  obtain ⟨b1, he2, h⟩ := obind_some h
  obtain ⟨x2, hx3, h⟩ := olet_some h
  refine RunC.regionW ?_
  refine zM (r := f32 a0) rfl rfl rfl rfl rfl ?_
  refine zL (r := ik .u32 (b1 : Int)) rfl rfl rfl (LOp.fbx ext54 rfl (OpF.tmp rfl) he2) ?_
  refine zL (r := i64 x2) rfl rfl rfl (LOp.eqr (LOp.i2i (src := 75) (dst := 2) ⟨_, pun75⟩ pun2 rfl rfl) (congrArg (ik .i64) hx3)) ?_
  refine zA (r := i64 x2) rfl rfl rfl rfl rfl ?_
  refine zN ?_
  refine RunC.ret ?_
  have hq := Option.some.inj h
  subst q0
  exact bodyQ.pure (.inr rfl) rfl (Res.one rfl (RV.tmp rfl))
noncomputable def s_l01NRead_k9 (v7 : Int) (v8 : Int) (v17 : Int) : Option (LR (Int × Int) (Int) (Bool × (List F))) :=
 bsel (decide (v17 < 0)) (
  some (LR.ret (false, ([] : List F)))) (
  olet (IntKind.i64.wrap (16 * v7)) fun (x18 : Int) =>
  olet (IntKind.i64.wrap (x18 + v17)) fun (x19 : Int) =>
  olet (IntKind.i64.wrap (v8 + 1)) fun (x20 : Int) =>
  some (LR.next (x19, x20)))
noncomputable def s_l01NRead_k8 (v7 : Int) (v8 : Int) (e10 : Int) (v13 : Int) : Option (LR (Int × Int) (Int) (Bool × (List F))) :=
 bsel (decide (97 ≤ e10)) (
  bsel (decide (e10 ≤ 102)) (
   olet (IntKind.u8.wrap (e10 - 97)) fun (x14 : Int) =>
   olet (IntKind.i64.wrap x14) fun (x15 : Int) =>
   olet (IntKind.i64.wrap (x15 + 10)) fun (x16 : Int) =>
   s_l01NRead_k9 v7 v8 x16) (
   s_l01NRead_k9 v7 v8 v13)) (
  s_l01NRead_k9 v7 v8 v13)
noncomputable def s_l01NRead_b10 (r1 : List ByteArray) (v5 : Int) (v7 : Int) (v8 : Int) : Option (LR (Int × Int) (Int) (Bool × (List F))) :=
 bsel (decide (v8 < 8)) (
  obind (at? r1 v5) fun (e9 : ByteArray) =>
  obind (sat? e9 v8) fun (e10 : Int) =>
  bsel (decide (48 ≤ e10)) (
   bsel (decide (e10 ≤ 57)) (
    olet (IntKind.u8.wrap (e10 - 48)) fun (x11 : Int) =>
    olet (IntKind.i64.wrap x11) fun (x12 : Int) =>
    s_l01NRead_k8 v7 v8 e10 x12) (
    s_l01NRead_k8 v7 v8 e10 (-1))) (
   s_l01NRead_k8 v7 v8 e10 (-1))) (
  some (LR.out v7))
noncomputable def s_l01NRead_s10 (r1 : List ByteArray) (v5 : Int) : (Int × Int) → Option (LR (Int × Int) (Int) (Bool × (List F))) := fun s => s_l01NRead_b10 r1 v5 s.1 s.2
noncomputable def s_l01NRead_k10 (L4 : List F) (v5 : Int) (v21 : Int) : Option (LR ((List F) × Int) ((List F)) (Bool × (List F))) :=
 obind (s_l01From v21) fun (r22 : F) =>
 obind (s_l01Bits r22) fun (r23 : Int) =>
 bsel (!decide (r23 = v21)) (
  some (LR.ret (false, ([] : List F)))) (
  need (apok 4 L4.length 1) <|
  olet (IntKind.i64.wrap (v5 + 1)) fun (x24 : Int) =>
  some (LR.next ((L4 ++ ([r22] : List F)), x24)))
noncomputable def s_l01NRead_b11 (r1 : List ByteArray) (L4 : List F) (v5 : Int) : Option (LR ((List F) × Int) ((List F)) (Bool × (List F))) :=
 bsel (decide (v5 < ((r1.length : Nat) : Int))) (
  obind (at? r1 v5) fun (e6 : ByteArray) =>
  bsel (!decide ((e6.size : Int) = 8)) (
   some (LR.ret (false, ([] : List F)))) (
   obind (loopM (s_l01NRead_s10 r1 v5) (0, 0)) fun z => osum z (fun e => s_l01NRead_k10 L4 v5 e) (fun r => some (LR.ret r)))) (
  some (LR.out L4))
noncomputable def s_l01NRead_s11 (r1 : List ByteArray) : ((List F) × Int) → Option (LR ((List F) × Int) ((List F)) (Bool × (List F))) := fun s => s_l01NRead_b11 r1 s.1 s.2
noncomputable def s_l01NRead_k11 (L27 : List F) : Option (Bool × (List F)) :=
 some (true, L27)
noncomputable def s_l01NRead (a0 : ByteArray) : Option (Bool × (List F)) :=
 bsel (eqs a0 lit_5ac87db9) (
  some (true, ([] : List F))) (
  obind (s_l01Cut a0 44) fun (r1 : List ByteArray) =>
  bsel (decide (256 < ((r1.length : Nat) : Int))) (
   some (false, ([] : List F))) (
   obind (loopM (s_l01NRead_s11 r1) (([] : List F), 0)) fun z => osum z (fun e => s_l01NRead_k11 e) (fun r => some r)))
theorem s_l01NRead_ok (a0 : ByteArray) (q0 : Bool) (q1 : List F) (h : s_l01NRead a0 = some (q0, q1)) : Ev Tryz.prog 26 [str a0] [] (tup [oref 0 0 0 q1.length, b q0]) [⟨0, some (q1.map f32)⟩] := by
 refine Ev.start Tryz.func26 rfl rfl 3 (τ := [(0, str a0)]) rfl (Γ' := [⟨0, none⟩, ⟨0, none⟩, ⟨0, none⟩]) rfl (n := 159) rfl (g := 0) rfl (fun _ => rfl) ?_
 unfold s_l01NRead at h
 refine zQ ?_
 refine zA (r := nilsl) rfl rfl rfl rfl rfl ?_
 refine zA (r := b false) rfl rfl rfl rfl rfl ?_
 refine zN ?_
 refine zQ ?_
 refine ROps.d (r := oref 0 1 0 0) (fs := [(0, (([] : List F).map f32))]) (Γ' := [⟨1, some (([] : List F).map f32)⟩, ⟨0, none⟩, ⟨0, none⟩]) rfl rfl rfl (TOp.buildSlice_o (g := ⟨0, none⟩) (za := f32 (some 0)) (qs := []) 0 rfl und22 siz51 zer51 rfl zel51 rfl rfl trivial rfl) rfl ?_
 refine zA (r := oref 0 1 0 0) rfl rfl rfl rfl rfl ?_
 refine zN ?_
 refine RunC.seq ?_
 refine RunC.seq ?_
 rcases bsel_some h with ⟨hc1, h⟩ | ⟨hc1, h⟩
 ·refine RunC.regionW ?_
  refine zM (r := str a0) rfl rfl rfl rfl rfl ?_
  refine zL (r := b true) rfl rfl rfl (LOp.eqb (LOp.eqs rfl rfl rfl) hc1) ?_
  refine zN ?_
  refine RunC.cond_true rfl rfl ?_
  refine zQ ?_
  refine zM (r := oref 0 1 0 0) rfl rfl rfl rfl rfl ?_
  refine zA (r := oref 0 1 0 0) rfl rfl rfl rfl rfl ?_
  refine zA (r := b true) rfl rfl rfl rfl rfl ?_
  refine zN ?_
  refine RunC.ret ?_
  have hq := Option.some.inj h
  obtain ⟨hq0, hq⟩ := Prod.mk.inj hq
  subst q0
  subst q1
  exact bodyQ.mk (r' := tup [oref 0 1 0 (([] : List F).length), b true]) [(0, 1)] (.inr rfl) rfl (show List.Nodup [0] from by decide) rfl rfl (Res.eq (Res.two rfl (RV.tmp rfl) (RV.tmp rfl)) (by rw [(show ([] : List F).length = 0 from rfl)] <;> rfl)) (SelL.arr0 (f := f32) (fun _ => rfl) rfl trivial)
 ·refine RunC.regionW ?_
  refine zM (r := str a0) rfl rfl rfl rfl rfl ?_
  refine zL (r := b false) rfl rfl rfl (LOp.eqb (LOp.eqs rfl rfl rfl) hc1) ?_
  refine zN ?_
  refine RunC.cond_false rfl rfl ?_
  refine RunC.skip ?_
  refine RunC.seq ?_
  obtain ⟨r1, hf2, h⟩ := obind_some h
  refine RunC.regionW ?_
  refine zM (r := str a0) rfl rfl rfl rfl rfl ?_
  refine ROps.d (r := oref 1 1 0 r1.length) (fs := [(1, (r1.map str))]) (Γ' := [⟨1, some (([] : List F).map f32)⟩, ⟨1, some (r1.map str)⟩, ⟨0, none⟩]) rfl rfl rfl (TOp.callBN (ls := [(r1.map str)]) [1] (CallAs.func ent25 rfl rfl) (Bors.cons (Bor.pure rfl) (Bors.cons (Bor.pure rfl) Bors.nil)) rfl (s_l01Cut_ok a0 44 r1 hf2) (and_all (lts0_map (f := str) (fun _ => rfl) _) rfl) (and_all (noss_map (f := str) (fun _ => rfl) _) rfl) rfl (by decide) (ns_of ⟨⟨_, rfl⟩, trivial⟩)) rfl ?_
  refine zA (r := oref 1 1 0 r1.length) rfl rfl rfl rfl rfl ?_
  refine zN ?_
  refine RunC.seq ?_
  refine RunC.seq ?_
  rcases bsel_some h with ⟨hc3, h⟩ | ⟨hc3, h⟩
  ·refine RunC.regionW ?_
   refine zM (r := oref 1 1 0 r1.length) rfl rfl rfl rfl rfl ?_
   refine zL (r := i64 ((r1.length : Nat) : Int)) rfl rfl rfl (LOp.len_oref und46 rfl rfl) ?_
   refine zL (r := b true) rfl rfl rfl (LOp.eqb (LOp.gtr rfl rfl rfl) hc3) ?_
   refine zN ?_
   refine RunC.cond_true rfl rfl ?_
   refine zQ ?_
   refine zA (r := nilsl) rfl rfl rfl rfl rfl ?_
   refine zA (r := b false) rfl rfl rfl rfl rfl ?_
   refine zN ?_
   refine RunC.nil_slot (Γ' := [⟨1, some (([] : List F).map f32)⟩, ⟨1, some (r1.map str)⟩, ⟨1, some (([] : List F).map f32)⟩]) 2 2 rfl rfl rfl ?_
   refine RunC.ret ?_
   have hq := Option.some.inj h
   obtain ⟨hq0, hq⟩ := Prod.mk.inj hq
   subst q0
   subst q1
   exact bodyQ.mk (r' := tup [oref 2 1 0 (([] : List F).length), b false]) [(2, 1)] (.inr rfl) rfl (show List.Nodup [2] from by decide) rfl rfl (Res.eq (Res.two rfl (RV.tmp rfl) (RV.tmp rfl)) (by rw [(show ([] : List F).length = 0 from rfl)] <;> rfl)) (SelL.arr0 (f := f32) (fun _ => rfl) rfl trivial)
  ·refine RunC.regionW ?_
   refine zM (r := oref 1 1 0 r1.length) rfl rfl rfl rfl rfl ?_
   refine zL (r := i64 ((r1.length : Nat) : Int)) rfl rfl rfl (LOp.len_oref und46 rfl rfl) ?_
   refine zL (r := b false) rfl rfl rfl (LOp.eqb (LOp.gtr rfl rfl rfl) hc3) ?_
   refine zN ?_
   refine RunC.cond_false rfl rfl ?_
   refine RunC.skip ?_
   refine RunC.seq ?_
   refine zQ ?_
   refine zA (r := i64 0) rfl rfl rfl rfl rfl ?_
   refine zN ?_
   obtain ⟨z12, hz_12, h⟩ := obind_some h
   refine RunC.cutN (fun τ Γ => ∃ (L27 : List F) (u25 : Nat) (u26 : Nat), WeakLe τ [(4, oref 0 u25 0 L27.length)] ∧ DeadLe Γ [⟨u25, some (L27.map f32)⟩, ⟨1, none⟩, ⟨u26, none⟩] ∧ z12 = .inl L27) ?_ ?_
   ·refine RunC.block (RunC.loop (RunL.loopM (x := z12) (s_l01NRead_s11 r1) (fun (s : (List F) × Int) τ Γ => ∃ (u2 : Nat) (u3 : Nat), WeakLe τ [(4, oref 0 u2 0 s.1.length), (5, oref 1 1 0 r1.length), (6, i64 s.2)] ∧ DeadLe Γ [⟨u2, some (s.1.map f32)⟩, ⟨1, some (r1.map str)⟩, ⟨u3, none⟩]) ?_ _ _ _ hz_12 ⟨1, 0, ⟨aR, aR, aR, trivial⟩, ⟨⟨rfl, .inr rfl⟩, ⟨rfl, .inr rfl⟩, ⟨rfl, .inl rfl⟩, trivial⟩⟩))
    rintro ⟨L4, v5⟩ τ12 Γ12 y12_ ⟨u2, u3, hw12, hd12⟩ h12_ ho12 hr12
    refine RunC.wl (τ' := [(4, oref 0 u2 0 L4.length), (5, oref 1 1 0 r1.length), (6, i64 v5)]) (Γ' := [⟨u2, some (L4.map f32)⟩, ⟨1, some (r1.map str)⟩, ⟨u3, none⟩]) hw12 hd12 ?_
    replace h12_ : s_l01NRead_b11 r1 L4 v5 = some y12_ := h12_
    unfold s_l01NRead_b11 at h12_
    refine RunC.seq ?_
    refine RunC.seq ?_
    rcases bsel_some h12_ with ⟨hc4, h12_⟩ | ⟨hc4, h12_⟩
    ·refine RunC.regionW ?_
     refine zM (r := i64 v5) rfl rfl rfl rfl rfl ?_
     refine zM (r := oref 1 1 0 r1.length) rfl rfl rfl rfl rfl ?_
     refine zL (r := i64 ((r1.length : Nat) : Int)) rfl rfl rfl (LOp.len_oref und46 rfl rfl) ?_
     refine zL (r := b true) rfl rfl rfl (LOp.eqb (LOp.lss rfl rfl rfl) hc4) ?_
     refine zN ?_
     refine RunC.cond_true rfl rfl ?_
     refine RunC.skip ?_
     refine RunC.seq ?_
     refine RunC.block ?_
     refine RunC.seq ?_
     refine RunC.seq ?_
     obtain ⟨e6, he5, h12_⟩ := obind_some h12_
     rcases bsel_some h12_ with ⟨hc6, h12_⟩ | ⟨hc6, h12_⟩
     ·refine RunC.regionW ?_
      refine zM (r := oref 1 1 0 r1.length) rfl rfl rfl rfl rfl ?_
      refine zM (r := i64 v5) rfl rfl rfl rfl rfl ?_
      refine ROps.d (r := optr 1 1 v5.toNat) (fs := []) (Γ' := [⟨u2, some (L4.map f32)⟩, ⟨1, some (r1.map str)⟩, ⟨u3, none⟩]) rfl rfl rfl (TOp.ixo und46 siz9 rfl rfl rfl (at_in he5 rfl) rfl) rfl ?_
      refine ROps.d (r := str e6) (fs := []) (Γ' := [⟨u2, some (L4.map f32)⟩, ⟨1, some (r1.map str)⟩, ⟨u3, none⟩]) rfl rfl rfl (TOp.load1_o rfl (at_cell he5) agg9 rfl rfl) rfl ?_
      refine zL (r := i64 (e6.size : Int)) rfl rfl rfl (LOp.len_str und9 rfl rfl) ?_
      refine zL (r := b true) rfl rfl rfl (LOp.eqb (LOp.neq rfl rfl rfl) hc6) ?_
      refine zN ?_
      refine RunC.cond_true rfl rfl ?_
      refine zQ ?_
      refine zA (r := nilsl) rfl rfl rfl rfl rfl ?_
      refine zA (r := b false) rfl rfl rfl rfl rfl ?_
      refine zN ?_
      refine RunC.nil_slot (Γ' := [⟨u2, some (L4.map f32)⟩, ⟨1, some (r1.map str)⟩, ⟨(u3 + 1), some (([] : List F).map f32)⟩]) 2 2 rfl rfl rfl ?_
      refine RunC.ret ?_
      cases Option.some.inj h12_
      have hx13_ := hr12 _ rfl
      subst hx13_
      have hq := Option.some.inj h
      obtain ⟨hq0, hq⟩ := Prod.mk.inj hq
      subst q0
      subst q1
      exact bodyQ.mk (r' := tup [oref 2 (u3 + 1) 0 (([] : List F).length), b false]) [(2, (u3 + 1))] (.inr rfl) rfl (show List.Nodup [2] from by decide) (by simp [ren, rens, sigma]) rfl (Res.eq (Res.two rfl (RV.tmp rfl) (RV.tmp rfl)) (by rw [(show ([] : List F).length = 0 from rfl)] <;> rfl)) (SelL.arr0 (f := f32) (fun _ => rfl) rfl trivial)
     ·refine RunC.regionW ?_
      refine zM (r := oref 1 1 0 r1.length) rfl rfl rfl rfl rfl ?_
      refine zM (r := i64 v5) rfl rfl rfl rfl rfl ?_
      refine ROps.d (r := optr 1 1 v5.toNat) (fs := []) (Γ' := [⟨u2, some (L4.map f32)⟩, ⟨1, some (r1.map str)⟩, ⟨u3, none⟩]) rfl rfl rfl (TOp.ixo und46 siz9 rfl rfl rfl (at_in he5 rfl) rfl) rfl ?_
      refine ROps.d (r := str e6) (fs := []) (Γ' := [⟨u2, some (L4.map f32)⟩, ⟨1, some (r1.map str)⟩, ⟨u3, none⟩]) rfl rfl rfl (TOp.load1_o rfl (at_cell he5) agg9 rfl rfl) rfl ?_
      refine zL (r := i64 (e6.size : Int)) rfl rfl rfl (LOp.len_str und9 rfl rfl) ?_
      refine zL (r := b false) rfl rfl rfl (LOp.eqb (LOp.neq rfl rfl rfl) hc6) ?_
      refine zN ?_
      refine RunC.cond_false rfl rfl ?_
      refine RunC.skip ?_
      refine zQ ?_
      refine zA (r := i64 0) rfl rfl rfl rfl rfl ?_
      refine zN ?_
      refine RunC.seq ?_
      refine zQ ?_
      refine zA (r := i64 0) rfl rfl rfl rfl rfl ?_
      refine zN ?_
      obtain ⟨z14, hz_14, h12_⟩ := obind_some h12_
      refine RunC.cutN (fun τ Γ => ∃ (v21 : Int), WeakLe τ [(4, oref 0 u2 0 L4.length), (5, oref 1 1 0 r1.length), (6, i64 v5), (7, i64 v21)] ∧ DeadLe Γ [⟨u2, some (L4.map f32)⟩, ⟨1, some (r1.map str)⟩, ⟨u3, none⟩] ∧ z14 = .inl v21) ?_ ?_
      ·refine RunC.block (RunC.loop (RunL.loopM (x := z14) (s_l01NRead_s10 r1 v5) (fun (s : Int × Int) τ Γ => WeakLe τ [(4, oref 0 u2 0 L4.length), (5, oref 1 1 0 r1.length), (6, i64 v5), (7, i64 s.1), (8, i64 s.2)] ∧ DeadLe Γ [⟨u2, some (L4.map f32)⟩, ⟨1, some (r1.map str)⟩, ⟨u3, none⟩]) ?_ _ _ _ hz_14 ⟨⟨aR, aR, aR, aR, aR, trivial⟩, ⟨⟨rfl, .inr rfl⟩, ⟨rfl, .inr rfl⟩, ⟨rfl, .inl rfl⟩, trivial⟩⟩))
       rintro ⟨v7, v8⟩ τ14 Γ14 y14_ ⟨hw14, hd14⟩ h14_ ho14 hr14
       refine RunC.wl (τ' := [(4, oref 0 u2 0 L4.length), (5, oref 1 1 0 r1.length), (6, i64 v5), (7, i64 v7), (8, i64 v8)]) (Γ' := [⟨u2, some (L4.map f32)⟩, ⟨1, some (r1.map str)⟩, ⟨u3, none⟩]) hw14 hd14 ?_
       replace h14_ : s_l01NRead_b10 r1 v5 v7 v8 = some y14_ := h14_
       unfold s_l01NRead_b10 at h14_
       refine RunC.seq ?_
       refine RunC.seq ?_
       rcases bsel_some h14_ with ⟨hc7, h14_⟩ | ⟨hc7, h14_⟩
       ·refine RunC.regionW ?_
        refine zM (r := i64 v8) rfl rfl rfl rfl rfl ?_
        refine zL (r := b true) rfl rfl rfl (LOp.eqb (LOp.lss rfl rfl rfl) hc7) ?_
        refine zN ?_
        refine RunC.cond_true rfl rfl ?_
        refine RunC.skip ?_
        refine RunC.seq ?_
        refine RunC.block ?_
        refine RunC.seq ?_
        obtain ⟨e9, he8, h14_⟩ := obind_some h14_
        obtain ⟨e10, he9, h14_⟩ := obind_some h14_
        refine RunC.regionW ?_
        refine zM (r := oref 1 1 0 r1.length) rfl rfl rfl rfl rfl ?_
        refine zM (r := i64 v5) rfl rfl rfl rfl rfl ?_
        refine ROps.d (r := optr 1 1 v5.toNat) (fs := []) (Γ' := [⟨u2, some (L4.map f32)⟩, ⟨1, some (r1.map str)⟩, ⟨u3, none⟩]) rfl rfl rfl (TOp.ixo und46 siz9 rfl rfl rfl (at_in he8 rfl) rfl) rfl ?_
        refine ROps.d (r := str e9) (fs := []) (Γ' := [⟨u2, some (L4.map f32)⟩, ⟨1, some (r1.map str)⟩, ⟨u3, none⟩]) rfl rfl rfl (TOp.load1_o rfl (at_cell he8) agg9 rfl rfl) rfl ?_
        refine zM (r := i64 v8) rfl rfl rfl rfl rfl ?_
        refine zL (r := ik .u8 e10) rfl rfl rfl (LOp.index_str und9 rfl rfl rfl he9) ?_
        refine zA (r := ik .u8 e10) rfl rfl rfl rfl rfl ?_
        refine zN ?_
        refine zQ ?_
        refine zA (r := i64 (-1)) rfl rfl rfl rfl rfl ?_
        refine zN ?_
        refine RunC.seq ?_
        refine RunC.cutN (fun τ Γ => ∃ (v13 : Int), WeakLe τ [(4, oref 0 u2 0 L4.length), (5, oref 1 1 0 r1.length), (6, i64 v5), (7, i64 v7), (8, i64 v8), (9, ik .u8 e10), (10, i64 v13)] ∧ DeadLe Γ [⟨u2, some (L4.map f32)⟩, ⟨1, some (r1.map str)⟩, ⟨u3, none⟩] ∧ s_l01NRead_k8 v7 v8 e10 v13 = some y14_) ?_ ?_
        ·refine RunC.seq ?_
         rcases bsel_some h14_ with ⟨hc10, h14_⟩ | ⟨hc10, h14_⟩
         ·rcases bsel_some h14_ with ⟨hc11, h14_⟩ | ⟨hc11, h14_⟩
          ·refine RunC.regionW ?_
           refine zM (r := ik .u8 e10) rfl rfl rfl rfl rfl ?_
           refine zL (r := b true) rfl rfl rfl (LOp.eqb (LOp.geq rfl rfl rfl) hc10) ?_
           refine zM (r := b true) rfl rfl rfl rfl rfl ?_
           refine zM (r := ik .u8 e10) rfl rfl rfl rfl rfl ?_
           refine zL (r := b true) rfl rfl rfl (LOp.eqb (LOp.leq rfl rfl rfl) hc11) ?_
           refine zL (r := b true) rfl rfl rfl (LOp.pick_true rfl rfl rfl) ?_
           refine zN ?_
           refine RunC.cond_true rfl rfl ?_
           obtain ⟨x11, hx12, h14_⟩ := olet_some h14_
           obtain ⟨x12, hx13, h14_⟩ := olet_some h14_
           refine RunC.regionW ?_
           refine zM (r := ik .u8 e10) rfl rfl rfl rfl rfl ?_
           refine zL (r := ik .u8 x11) rfl rfl rfl (LOp.eqr (LOp.sub rfl rfl rfl) (congrArg (ik .u8) hx12)) ?_
           refine zL (r := i64 x12) rfl rfl rfl (LOp.eqr (LOp.i2i (src := 5) (dst := 2) ⟨_, pun5⟩ pun2 rfl rfl) (congrArg (ik .i64) hx13)) ?_
           refine zA (r := i64 x12) rfl rfl rfl rfl rfl ?_
           refine zN ?_
           exact ⟨x12, ⟨aR, aR, aR, aR, aR, aR, aR, trivial⟩, ⟨⟨rfl, .inr rfl⟩, ⟨rfl, .inr rfl⟩, ⟨rfl, .inl rfl⟩, trivial⟩, h14_⟩
          ·refine RunC.regionW ?_
           refine zM (r := ik .u8 e10) rfl rfl rfl rfl rfl ?_
           refine zL (r := b true) rfl rfl rfl (LOp.eqb (LOp.geq rfl rfl rfl) hc10) ?_
           refine zM (r := b true) rfl rfl rfl rfl rfl ?_
           refine zM (r := ik .u8 e10) rfl rfl rfl rfl rfl ?_
           refine zL (r := b false) rfl rfl rfl (LOp.eqb (LOp.leq rfl rfl rfl) hc11) ?_
           refine zL (r := b false) rfl rfl rfl (LOp.pick_true rfl rfl rfl) ?_
           refine zN ?_
           refine RunC.cond_false rfl rfl ?_
           refine RunC.skip ?_
           exact ⟨(-1), ⟨aR, aR, aR, aR, aR, aR, aR, trivial⟩, ⟨⟨rfl, .inr rfl⟩, ⟨rfl, .inr rfl⟩, ⟨rfl, .inl rfl⟩, trivial⟩, h14_⟩
         ·refine RunC.regionW ?_
          refine zM (r := ik .u8 e10) rfl rfl rfl rfl rfl ?_
          refine zL (r := b false) rfl rfl rfl (LOp.eqb (LOp.geq rfl rfl rfl) hc10) ?_
          refine zM (r := b false) rfl rfl rfl rfl rfl ?_
          refine ROps.s rfl rfl rfl ?_
          refine ROps.s rfl rfl rfl ?_
          refine zL (r := b false) rfl rfl rfl (LOp.pick_false rfl rfl rfl) ?_
          refine zN ?_
          refine RunC.cond_false rfl rfl ?_
          refine RunC.skip ?_
          exact ⟨(-1), ⟨aR, aR, aR, aR, aR, aR, aR, trivial⟩, ⟨⟨rfl, .inr rfl⟩, ⟨rfl, .inr rfl⟩, ⟨rfl, .inl rfl⟩, trivial⟩, h14_⟩
        ·rintro τ15 Γ15 ⟨v13, hw15, hd15, h14_⟩
         refine RunC.wl hw15 hd15 ?_
         unfold s_l01NRead_k8 at h14_
         refine RunC.seq ?_
         refine RunC.cutN (fun τ Γ => ∃ (v17 : Int), WeakLe τ [(4, oref 0 u2 0 L4.length), (5, oref 1 1 0 r1.length), (6, i64 v5), (7, i64 v7), (8, i64 v8), (10, i64 v17)] ∧ DeadLe Γ [⟨u2, some (L4.map f32)⟩, ⟨1, some (r1.map str)⟩, ⟨u3, none⟩] ∧ s_l01NRead_k9 v7 v8 v17 = some y14_) ?_ ?_
         ·refine RunC.seq ?_
          rcases bsel_some h14_ with ⟨hc14, h14_⟩ | ⟨hc14, h14_⟩
          ·rcases bsel_some h14_ with ⟨hc15, h14_⟩ | ⟨hc15, h14_⟩
           ·refine RunC.regionW ?_
            refine zM (r := ik .u8 e10) rfl rfl rfl rfl rfl ?_
            refine zL (r := b true) rfl rfl rfl (LOp.eqb (LOp.geq rfl rfl rfl) hc14) ?_
            refine zM (r := b true) rfl rfl rfl rfl rfl ?_
            refine zM (r := ik .u8 e10) rfl rfl rfl rfl rfl ?_
            refine zL (r := b true) rfl rfl rfl (LOp.eqb (LOp.leq rfl rfl rfl) hc15) ?_
            refine zL (r := b true) rfl rfl rfl (LOp.pick_true rfl rfl rfl) ?_
            refine zN ?_
            refine RunC.cond_true rfl rfl ?_
            obtain ⟨x14, hx16, h14_⟩ := olet_some h14_
            obtain ⟨x15, hx17, h14_⟩ := olet_some h14_
            obtain ⟨x16, hx18, h14_⟩ := olet_some h14_
            refine RunC.regionW ?_
            refine zM (r := ik .u8 e10) rfl rfl rfl rfl rfl ?_
            refine zL (r := ik .u8 x14) rfl rfl rfl (LOp.eqr (LOp.sub rfl rfl rfl) (congrArg (ik .u8) hx16)) ?_
            refine zL (r := i64 x15) rfl rfl rfl (LOp.eqr (LOp.i2i (src := 5) (dst := 2) ⟨_, pun5⟩ pun2 rfl rfl) (congrArg (ik .i64) hx17)) ?_
            refine zL (r := i64 x16) rfl rfl rfl (LOp.eqr (LOp.add rfl rfl rfl) (congrArg (ik .i64) hx18)) ?_
            refine zA (r := i64 x16) rfl rfl rfl rfl rfl ?_
            refine zN ?_
            exact ⟨x16, ⟨aR, aR, aR, aR, aR, aR, trivial⟩, ⟨⟨rfl, .inr rfl⟩, ⟨rfl, .inr rfl⟩, ⟨rfl, .inl rfl⟩, trivial⟩, h14_⟩
           ·refine RunC.regionW ?_
            refine zM (r := ik .u8 e10) rfl rfl rfl rfl rfl ?_
            refine zL (r := b true) rfl rfl rfl (LOp.eqb (LOp.geq rfl rfl rfl) hc14) ?_
            refine zM (r := b true) rfl rfl rfl rfl rfl ?_
            refine zM (r := ik .u8 e10) rfl rfl rfl rfl rfl ?_
            refine zL (r := b false) rfl rfl rfl (LOp.eqb (LOp.leq rfl rfl rfl) hc15) ?_
            refine zL (r := b false) rfl rfl rfl (LOp.pick_true rfl rfl rfl) ?_
            refine zN ?_
            refine RunC.cond_false rfl rfl ?_
            refine RunC.skip ?_
            exact ⟨v13, ⟨aR, aR, aR, aR, aR, aR, trivial⟩, ⟨⟨rfl, .inr rfl⟩, ⟨rfl, .inr rfl⟩, ⟨rfl, .inl rfl⟩, trivial⟩, h14_⟩
          ·refine RunC.regionW ?_
           refine zM (r := ik .u8 e10) rfl rfl rfl rfl rfl ?_
           refine zL (r := b false) rfl rfl rfl (LOp.eqb (LOp.geq rfl rfl rfl) hc14) ?_
           refine zM (r := b false) rfl rfl rfl rfl rfl ?_
           refine ROps.s rfl rfl rfl ?_
           refine ROps.s rfl rfl rfl ?_
           refine zL (r := b false) rfl rfl rfl (LOp.pick_false rfl rfl rfl) ?_
           refine zN ?_
           refine RunC.cond_false rfl rfl ?_
           refine RunC.skip ?_
           exact ⟨v13, ⟨aR, aR, aR, aR, aR, aR, trivial⟩, ⟨⟨rfl, .inr rfl⟩, ⟨rfl, .inr rfl⟩, ⟨rfl, .inl rfl⟩, trivial⟩, h14_⟩
         ·rintro τ16 Γ16 ⟨v17, hw16, hd16, h14_⟩
          refine RunC.wl hw16 hd16 ?_
          unfold s_l01NRead_k9 at h14_
          refine RunC.seq ?_
          refine RunC.seq ?_
          rcases bsel_some h14_ with ⟨hc19, h14_⟩ | ⟨hc19, h14_⟩
          ·refine RunC.regionW ?_
           refine zM (r := i64 v17) rfl rfl rfl rfl rfl ?_
           refine zL (r := b true) rfl rfl rfl (LOp.eqb (LOp.lss rfl rfl rfl) hc19) ?_
           refine zN ?_
           refine RunC.cond_true rfl rfl ?_
           refine zQ ?_
           refine zA (r := nilsl) rfl rfl rfl rfl rfl ?_
           refine zA (r := b false) rfl rfl rfl rfl rfl ?_
           refine zN ?_
           refine RunC.nil_slot (Γ' := [⟨u2, some (L4.map f32)⟩, ⟨1, some (r1.map str)⟩, ⟨(u3 + 1), some (([] : List F).map f32)⟩]) 2 2 rfl rfl rfl ?_
           refine RunC.ret ?_
           cases Option.some.inj h14_
           have hx17_ := hr14 _ rfl
           subst hx17_
           cases Option.some.inj h12_
           have hx18_ := hr12 _ rfl
           subst hx18_
           have hq := Option.some.inj h
           obtain ⟨hq0, hq⟩ := Prod.mk.inj hq
           subst q0
           subst q1
           exact bodyQ.mk (r' := tup [oref 2 (u3 + 1) 0 (([] : List F).length), b false]) [(2, (u3 + 1))] (.inr rfl) rfl (show List.Nodup [2] from by decide) (by simp [ren, rens, sigma]) rfl (Res.eq (Res.two rfl (RV.tmp rfl) (RV.tmp rfl)) (by rw [(show ([] : List F).length = 0 from rfl)] <;> rfl)) (SelL.arr0 (f := f32) (fun _ => rfl) rfl trivial)
          ·refine RunC.regionW ?_
           refine zM (r := i64 v17) rfl rfl rfl rfl rfl ?_
           refine zL (r := b false) rfl rfl rfl (LOp.eqb (LOp.lss rfl rfl rfl) hc19) ?_
           refine zN ?_
           refine RunC.cond_false rfl rfl ?_
           refine RunC.skip ?_
           obtain ⟨x18, hx20, h14_⟩ := olet_some h14_
           obtain ⟨x19, hx21, h14_⟩ := olet_some h14_
           refine RunC.regionW ?_
           refine zM (r := i64 v7) rfl rfl rfl rfl rfl ?_
           refine zL (r := i64 x18) rfl rfl rfl (LOp.eqr (LOp.mul rfl rfl rfl) (congrArg (ik .i64) hx20)) ?_
           refine zM (r := i64 v17) rfl rfl rfl rfl rfl ?_
           refine zL (r := i64 x19) rfl rfl rfl (LOp.eqr (LOp.add rfl rfl rfl) (congrArg (ik .i64) hx21)) ?_
           refine zA (r := i64 x19) rfl rfl rfl rfl rfl ?_
           refine zN ?_
           obtain ⟨x20, hx22, h14_⟩ := olet_some h14_
           refine RunC.regionW ?_
           refine zM (r := i64 v8) rfl rfl rfl rfl rfl ?_
           refine zL (r := i64 x20) rfl rfl rfl (LOp.eqr (LOp.add rfl rfl rfl) (congrArg (ik .i64) hx22)) ?_
           refine zA (r := i64 x20) rfl rfl rfl rfl rfl ?_
           refine zN ?_
           cases Option.some.inj h14_
           exact ⟨_, rfl, ⟨aR, aR, aR, aR, aR, trivial⟩, ⟨⟨rfl, .inr rfl⟩, ⟨rfl, .inr rfl⟩, ⟨rfl, .inl rfl⟩, trivial⟩⟩
       ·refine RunC.regionW ?_
        refine zM (r := i64 v8) rfl rfl rfl rfl rfl ?_
        refine zL (r := b false) rfl rfl rfl (LOp.eqb (LOp.lss rfl rfl rfl) hc7) ?_
        refine zN ?_
        refine RunC.cond_false rfl rfl ?_
        refine RunC.exit ?_
        cases Option.some.inj h14_
        have hx := ho14 _ rfl
        exact ⟨v7, ⟨aR, aR, aR, aR, trivial⟩, ⟨⟨rfl, .inr rfl⟩, ⟨rfl, .inr rfl⟩, ⟨rfl, .inl rfl⟩, trivial⟩, hx⟩
      ·rintro τ19 Γ19 ⟨v21, hw19, hd19, rfl⟩
       refine RunC.wl hw19 hd19 ?_
       replace h12_ : s_l01NRead_k10 L4 v5 v21 = some y12_ := h12_
       unfold s_l01NRead_k10 at h12_
       refine RunC.seq ?_
       obtain ⟨r22, hf23, h12_⟩ := obind_some h12_
       refine RunC.regionW ?_
       refine zM (r := i64 v21) rfl rfl rfl rfl rfl ?_
       refine ROps.d (r := f32 r22) (fs := []) (Γ' := [⟨u2, some (L4.map f32)⟩, ⟨1, some (r1.map str)⟩, ⟨u3, none⟩]) rfl rfl rfl (TOp.callB (CallAs.func ent39 rfl rfl) (Bors.cons (Bor.pure rfl) Bors.nil) rfl rfl (s_l01From_ok v21 r22 hf23)) rfl ?_
       refine zA (r := f32 r22) rfl rfl rfl rfl rfl ?_
       refine zN ?_
       refine RunC.seq ?_
       refine RunC.seq ?_
       obtain ⟨r23, hf24, h12_⟩ := obind_some h12_
       rcases bsel_some h12_ with ⟨hc25, h12_⟩ | ⟨hc25, h12_⟩
       ·refine RunC.regionW ?_
        refine zM (r := f32 r22) rfl rfl rfl rfl rfl ?_
        refine ROps.d (r := i64 r23) (fs := []) (Γ' := [⟨u2, some (L4.map f32)⟩, ⟨1, some (r1.map str)⟩, ⟨u3, none⟩]) rfl rfl rfl (TOp.callB (CallAs.func ent40 rfl rfl) (Bors.cons (Bor.pure rfl) Bors.nil) rfl rfl (s_l01Bits_ok r22 r23 hf24)) rfl ?_
        refine zM (r := i64 v21) rfl rfl rfl rfl rfl ?_
        refine zL (r := b true) rfl rfl rfl (LOp.eqb (LOp.neq rfl rfl rfl) hc25) ?_
        refine zN ?_
        refine RunC.cond_true rfl rfl ?_
        refine zQ ?_
        refine zA (r := nilsl) rfl rfl rfl rfl rfl ?_
        refine zA (r := b false) rfl rfl rfl rfl rfl ?_
        refine zN ?_
        refine RunC.nil_slot (Γ' := [⟨u2, some (L4.map f32)⟩, ⟨1, some (r1.map str)⟩, ⟨(u3 + 1), some (([] : List F).map f32)⟩]) 2 2 rfl rfl rfl ?_
        refine RunC.ret ?_
        cases Option.some.inj h12_
        have hx20_ := hr12 _ rfl
        subst hx20_
        have hq := Option.some.inj h
        obtain ⟨hq0, hq⟩ := Prod.mk.inj hq
        subst q0
        subst q1
        exact bodyQ.mk (r' := tup [oref 2 (u3 + 1) 0 (([] : List F).length), b false]) [(2, (u3 + 1))] (.inr rfl) rfl (show List.Nodup [2] from by decide) (by simp [ren, rens, sigma]) rfl (Res.eq (Res.two rfl (RV.tmp rfl) (RV.tmp rfl)) (by rw [(show ([] : List F).length = 0 from rfl)] <;> rfl)) (SelL.arr0 (f := f32) (fun _ => rfl) rfl trivial)
       ·refine RunC.regionW ?_
        refine zM (r := f32 r22) rfl rfl rfl rfl rfl ?_
        refine ROps.d (r := i64 r23) (fs := []) (Γ' := [⟨u2, some (L4.map f32)⟩, ⟨1, some (r1.map str)⟩, ⟨u3, none⟩]) rfl rfl rfl (TOp.callB (CallAs.func ent40 rfl rfl) (Bors.cons (Bor.pure rfl) Bors.nil) rfl rfl (s_l01Bits_ok r22 r23 hf24)) rfl ?_
        refine zM (r := i64 v21) rfl rfl rfl rfl rfl ?_
        refine zL (r := b false) rfl rfl rfl (LOp.eqb (LOp.neq rfl rfl rfl) hc25) ?_
        refine zN ?_
        refine RunC.cond_false rfl rfl ?_
        refine RunC.skip ?_
        obtain ⟨hm26, h12_⟩ := need_some h12_
        refine RunC.regionW ?_
        refine zM (r := oref 0 u2 0 L4.length) rfl rfl rfl rfl rfl ?_
        refine zM (r := f32 r22) rfl rfl rfl rfl rfl ?_
        refine ROps.d (r := oref 2 (u3 + 1) 0 1) (fs := [(2, (([r22] : List F).map f32))]) (Γ' := [⟨u2, some (L4.map f32)⟩, ⟨1, some (r1.map str)⟩, ⟨(u3 + 1), some (([r22] : List F).map f32)⟩]) rfl rfl rfl (TOp.buildSlice_o (g := ⟨u3, none⟩) (za := f32 (some 0)) (qs := [(0, [f32 r22])]) 2 rfl und22 siz51 zer51 rfl zel51 rfl rfl ⟨rfl, ⟨_, ALe.refl _, rfl⟩, trivial⟩ rfl) rfl ?_
        refine ROps.app (f := f32) (xs := L4) (ys := ([r22] : List F)) (Γ' := [⟨(u2 + 1), some ((L4 ++ ([r22] : List F)).map f32)⟩, ⟨1, some (r1.map str)⟩, ⟨(u3 + 1), some (([r22] : List F).map f32)⟩]) rfl pun22 inf51 rfl rfl rfl rfl rfl rfl rfl rfl rfl (by simp) (ReadAs.own rfl (by simp)) (ones_map (fun _ => rfl)) (ap_by hm26) (ap_mx hm26) rfl ?_
        refine zA (r := oref 0 (u2 + 1) 0 (L4.length + 1)) rfl rfl rfl rfl rfl ?_
        refine zN ?_
        refine RunC.wl (τ' := [(4, oref 0 (u2 + 1) 0 (L4.length + 1)), (5, oref 1 1 0 r1.length), (6, i64 v5)]) (Γ' := [⟨(u2 + 1), some ((L4 ++ ([r22] : List F)).map f32)⟩, ⟨1, some (r1.map str)⟩, ⟨(u3 + 1), none⟩]) ⟨aR, aR, aR, trivial⟩ ⟨⟨rfl, .inr rfl⟩, ⟨rfl, .inr rfl⟩, ⟨rfl, .inl rfl⟩, trivial⟩ ?_
        obtain ⟨x24, hx27, h12_⟩ := olet_some h12_
        refine RunC.regionW ?_
        refine zM (r := i64 v5) rfl rfl rfl rfl rfl ?_
        refine zL (r := i64 x24) rfl rfl rfl (LOp.eqr (LOp.add rfl rfl rfl) (congrArg (ik .i64) hx27)) ?_
        refine zA (r := i64 x24) rfl rfl rfl rfl rfl ?_
        refine zN ?_
        cases Option.some.inj h12_
        exact ⟨_, rfl, (u2 + 1), (u3 + 1), ⟨(ALe.eq (by rw [(app_len rfl rfl)] <;> rfl)), aR, aR, trivial⟩, ⟨⟨rfl, .inr rfl⟩, ⟨rfl, .inr rfl⟩, ⟨rfl, .inl rfl⟩, trivial⟩⟩
    ·refine RunC.regionW ?_
     refine zM (r := i64 v5) rfl rfl rfl rfl rfl ?_
     refine zM (r := oref 1 1 0 r1.length) rfl rfl rfl rfl rfl ?_
     refine zL (r := i64 ((r1.length : Nat) : Int)) rfl rfl rfl (LOp.len_oref und46 rfl rfl) ?_
     refine zL (r := b false) rfl rfl rfl (LOp.eqb (LOp.lss rfl rfl rfl) hc4) ?_
     refine zN ?_
     refine RunC.cond_false rfl rfl ?_
     refine RunC.exit ?_
     cases Option.some.inj h12_
     have hx := ho12 _ rfl
     exact ⟨L4, u2, u3, ⟨aR, trivial⟩, ⟨⟨rfl, .inr rfl⟩, ⟨rfl, .inl rfl⟩, ⟨rfl, .inl rfl⟩, trivial⟩, hx⟩
   ·rintro τ21 Γ21 ⟨L27, u25, u26, hw21, hd21, rfl⟩
    refine RunC.wl hw21 hd21 ?_
    replace h : s_l01NRead_k11 L27 = some (q0, q1) := h
    unfold s_l01NRead_k11 at h
    refine zQ ?_
    refine zM (r := oref 0 u25 0 L27.length) rfl rfl rfl rfl rfl ?_
    refine zA (r := oref 0 u25 0 L27.length) rfl rfl rfl rfl rfl ?_
    refine zA (r := b true) rfl rfl rfl rfl rfl ?_
    refine zN ?_
    refine RunC.ret ?_
    have hq := Option.some.inj h
    obtain ⟨hq0, hq⟩ := Prod.mk.inj hq
    subst q0
    subst q1
    exact bodyQ.mk (r' := tup [oref 0 u25 0 L27.length, b true]) [(0, u25)] (.inr rfl) rfl (show List.Nodup [0] from by decide) (by simp [ren, rens, sigma]) rfl (Res.two rfl (RV.tmp rfl) (RV.tmp rfl)) (SelL.arr0 (f := f32) (fun _ => rfl) rfl trivial)
noncomputable def s_l01Finite (a0 : F) : Option (Bool) :=
 olet (fop .sub .f32 a0 a0) fun (x1 : F) =>
 some (feq .f32 x1 (some 0))
theorem s_l01Finite_ok (a0 : F) (q0 : Bool) (h : s_l01Finite a0 = some q0) : Ev Tryz.prog 55 [f32 a0] [] (b q0) [] := by
 refine Ev.start Tryz.func55 rfl rfl 0 (τ := [(0, f32 a0)]) rfl (Γ' := []) rfl (n := 15) rfl (g := 0) rfl (fun _ => rfl) ?_
 unfold s_l01Finite at h
 refine zQ ?_
 refine zA (r := b false) rfl rfl rfl rfl rfl ?_
 refine zN ?_
 refine RunC.seq ?_
 obtain ⟨x1, hx1, h⟩ := olet_some h
 refine RunC.regionW ?_
 refine zM (r := f32 a0) rfl rfl rfl rfl rfl ?_
 refine zM (r := f32 a0) rfl rfl rfl rfl rfl ?_
 refine ROps.d (r := f32 x1) (fs := []) (Γ' := []) rfl rfl rfl (TOp.eqr (TOp.fop (.inr (.inl rfl)) rfl (OpF.tmp rfl) (OpF.tmp rfl)) (congrArg (f .f32) hx1)) rfl ?_
 refine zL (r := b (feq .f32 x1 (some 0))) rfl rfl rfl (LOp.feq rfl (OpF.tmp rfl) (OpF.const rfl (by kernel_rfl) (by kernel_rfl))) ?_
 refine zA (r := b (feq .f32 x1 (some 0))) rfl rfl rfl rfl rfl ?_
 refine zN ?_
 refine RunC.ret ?_
 have hq := Option.some.inj h
 subst q0
 exact bodyQ.pure (.inr rfl) rfl (Res.one rfl (RV.tmp rfl))
noncomputable def s_l02Finite_b1 (a0 : List F) (v1 : Int) : Option (LR (Int) (Unit) (Bool)) :=
 bsel (decide (v1 < (a0.length : Int))) (
  obind (at? a0 v1) fun (e2 : F) =>
  obind (s_l01Finite e2) fun (r3 : Bool) =>
  bsel r3 (
   olet (IntKind.i64.wrap (v1 + 1)) fun (x4 : Int) =>
   some (LR.next x4)) (
   some (LR.ret false))) (
  some (LR.out ()))
noncomputable def s_l02Finite_s1 (a0 : List F) : (Int) → Option (LR (Int) (Unit) (Bool)) := fun s => s_l02Finite_b1 a0 s
noncomputable def s_l02Finite_k1  : Option (Bool) :=
 some true
noncomputable def s_l02Finite (a0 : List F) : Option (Bool) :=
 obind (loopM (s_l02Finite_s1 a0) 0) fun z => osum z (fun _ => s_l02Finite_k1) (fun r => some r)
theorem s_l02Finite_ok (a0 : List F) (q0 : Bool) (h : s_l02Finite a0 = some q0) : Ev Tryz.prog 41 [sl a0.length (a0.map f32)] [] (b q0) [] := by
 refine Ev.start Tryz.func41 rfl rfl 0 (τ := [(0, sl a0.length (a0.map f32))]) rfl (Γ' := []) rfl (n := 33) rfl (g := 0) rfl (fun _ => rfl) ?_
 unfold s_l02Finite at h
 refine zQ ?_
 refine zA (r := b false) rfl rfl rfl rfl rfl ?_
 refine zN ?_
 refine RunC.seq ?_
 refine zQ ?_
 refine zA (r := i64 0) rfl rfl rfl rfl rfl ?_
 refine zN ?_
 obtain ⟨z2, hz_2, h⟩ := obind_some h
 refine RunC.cutN (fun τ Γ => WeakLe τ [] ∧ DeadLe Γ [] ∧ z2 = .inl ()) ?_ ?_
 ·refine RunC.block (RunC.loop (RunL.loopM (x := z2) (s_l02Finite_s1 a0) (fun (s : Int) τ Γ => WeakLe τ [(0, sl a0.length (a0.map f32)), (3, i64 s)] ∧ DeadLe Γ []) ?_ _ _ _ hz_2 ⟨⟨aR, aR, trivial⟩, trivial⟩))
  rintro v1 τ2 Γ2 y2_ ⟨hw2, hd2⟩ h2_ ho2 hr2
  refine RunC.wl (τ' := [(0, sl a0.length (a0.map f32)), (3, i64 v1)]) (Γ' := []) hw2 hd2 ?_
  replace h2_ : s_l02Finite_b1 a0 v1 = some y2_ := h2_
  unfold s_l02Finite_b1 at h2_
  refine RunC.seq ?_
  refine RunC.seq ?_
  rcases bsel_some h2_ with ⟨hc1, h2_⟩ | ⟨hc1, h2_⟩
  ·refine RunC.regionW ?_
   refine zM (r := i64 v1) rfl rfl rfl rfl rfl ?_
   refine zM (r := sl a0.length (a0.map f32)) rfl rfl rfl rfl rfl ?_
   refine zL (r := i64 (a0.length : Int)) rfl rfl rfl (LOp.len_sl und22 rfl rfl) ?_
   refine zL (r := b true) rfl rfl rfl (LOp.eqb (LOp.lss rfl rfl rfl) hc1) ?_
   refine zN ?_
   refine RunC.cond_true rfl rfl ?_
   refine RunC.skip ?_
   refine RunC.seq ?_
   refine RunC.block ?_
   refine RunC.seq ?_
   obtain ⟨e2, he2, h2_⟩ := obind_some h2_
   obtain ⟨r3, hf3, h2_⟩ := obind_some h2_
   rcases bsel_some h2_ with ⟨hc4, h2_⟩ | ⟨hc4, h2_⟩
   ·refine RunC.regionW ?_
    refine zM (r := sl a0.length (a0.map f32)) rfl rfl rfl rfl rfl ?_
    refine zM (r := i64 v1) rfl rfl rfl rfl rfl ?_
    refine zL (r := ptr [f32 e2]) rfl rfl rfl (LOp.le (LOp.ix (f := f32) und22 siz51 rfl rfl rfl rfl he2) ALe.ptr) ?_
    refine zL (r := f32 e2) rfl rfl rfl (LOp.load1 agg51 rfl rfl) ?_
    refine ROps.d (r := b true) (fs := []) (Γ' := []) rfl rfl rfl (TOp.eqb (TOp.callB (CallAs.func ent55 rfl rfl) (Bors.cons (Bor.pure rfl) Bors.nil) rfl rfl (s_l01Finite_ok e2 r3 hf3)) hc4) rfl ?_
    refine zL (r := b false) rfl rfl rfl (LOp.eqb (LOp.not rfl rfl) rfl) ?_
    refine zN ?_
    refine RunC.cond_false rfl rfl ?_
    refine RunC.skip ?_
    obtain ⟨x4, hx5, h2_⟩ := olet_some h2_
    refine RunC.regionW ?_
    refine zM (r := i64 v1) rfl rfl rfl rfl rfl ?_
    refine zL (r := i64 x4) rfl rfl rfl (LOp.eqr (LOp.add rfl rfl rfl) (congrArg (ik .i64) hx5)) ?_
    refine zA (r := i64 x4) rfl rfl rfl rfl rfl ?_
    refine zN ?_
    cases Option.some.inj h2_
    exact ⟨_, rfl, ⟨aR, aR, trivial⟩, trivial⟩
   ·refine RunC.regionW ?_
    refine zM (r := sl a0.length (a0.map f32)) rfl rfl rfl rfl rfl ?_
    refine zM (r := i64 v1) rfl rfl rfl rfl rfl ?_
    refine zL (r := ptr [f32 e2]) rfl rfl rfl (LOp.le (LOp.ix (f := f32) und22 siz51 rfl rfl rfl rfl he2) ALe.ptr) ?_
    refine zL (r := f32 e2) rfl rfl rfl (LOp.load1 agg51 rfl rfl) ?_
    refine ROps.d (r := b false) (fs := []) (Γ' := []) rfl rfl rfl (TOp.eqb (TOp.callB (CallAs.func ent55 rfl rfl) (Bors.cons (Bor.pure rfl) Bors.nil) rfl rfl (s_l01Finite_ok e2 r3 hf3)) hc4) rfl ?_
    refine zL (r := b true) rfl rfl rfl (LOp.eqb (LOp.not rfl rfl) rfl) ?_
    refine zN ?_
    refine RunC.cond_true rfl rfl ?_
    refine zQ ?_
    refine zA (r := b false) rfl rfl rfl rfl rfl ?_
    refine zN ?_
    refine RunC.ret ?_
    cases Option.some.inj h2_
    have hx3_ := hr2 _ rfl
    subst hx3_
    have hq := Option.some.inj h
    subst q0
    exact bodyQ.pure (.inr rfl) rfl (Res.one rfl (RV.tmp rfl))
  ·refine RunC.regionW ?_
   refine zM (r := i64 v1) rfl rfl rfl rfl rfl ?_
   refine zM (r := sl a0.length (a0.map f32)) rfl rfl rfl rfl rfl ?_
   refine zL (r := i64 (a0.length : Int)) rfl rfl rfl (LOp.len_sl und22 rfl rfl) ?_
   refine zL (r := b false) rfl rfl rfl (LOp.eqb (LOp.lss rfl rfl rfl) hc1) ?_
   refine zN ?_
   refine RunC.cond_false rfl rfl ?_
   refine RunC.exit ?_
   cases Option.some.inj h2_
   have hx := ho2 _ rfl
   exact ⟨trivial, trivial, hx⟩
 ·rintro τ4 Γ4 ⟨hw4, hd4, rfl⟩
  refine RunC.wl hw4 hd4 ?_
  replace h : s_l02Finite_k1 = some q0 := h
  unfold s_l02Finite_k1 at h
  refine zQ ?_
  refine zA (r := b true) rfl rfl rfl rfl rfl ?_
  refine zN ?_
  refine RunC.ret ?_
  have hq := Option.some.inj h
  subst q0
  exact bodyQ.pure (.inr rfl) rfl (Res.one rfl (RV.tmp rfl))
noncomputable def s_l04Is (a0 : List F) (a1 : List F) : Option (Bool) :=
 bsel (decide (1 ≤ (a0.length : Int))) (
  bsel (decide ((a0.length : Int) ≤ 12)) (
   olet (IntKind.i64.wrap ((a0.length : Int) - 1)) fun (x1 : Int) =>
   bsel (decide ((a1.length : Int) = x1)) (
    obind (s_l02Finite a0) fun (r2 : Bool) =>
    bsel r2 (
     obind (s_l02Finite a1) fun (r3 : Bool) =>
     some r3) (
     some false)) (
    some false)) (
   some false)) (
  some false)
theorem s_l04Is_ok (a0 : List F) (a1 : List F) (q0 : Bool) (h : s_l04Is a0 a1 = some q0) : Ev Tryz.prog 27 [ptr [sl a0.length (a0.map f32), sl a1.length (a1.map f32)]] [] (b q0) [] := by
 refine Ev.start Tryz.func27 rfl rfl 0 (τ := [(0, ptr [sl a0.length (a0.map f32), sl a1.length (a1.map f32)])]) rfl (Γ' := []) rfl (n := 79) rfl (g := 0) rfl (fun _ => rfl) ?_
 unfold s_l04Is at h
 refine zQ ?_
 refine zA (r := b false) rfl rfl rfl rfl rfl ?_
 refine zN ?_
 refine zQ ?_
 refine zM (r := ptr [sl a0.length (a0.map f32), sl a1.length (a1.map f32)]) rfl rfl rfl rfl rfl ?_
 refine zL (r := ptr [sl a0.length (a0.map f32), sl a1.length (a1.map f32)]) rfl rfl rfl (LOp.nilCheck_ptr rfl rfl) ?_
 refine zL (r := ptr [sl a0.length (a0.map f32), sl a1.length (a1.map f32)]) rfl rfl rfl (LOp.fap und24 rfl siz22 rfl rfl rfl) ?_
 refine zL (r := sl a0.length (a0.map f32)) rfl rfl rfl (LOp.load1 agg22 rfl rfl) ?_
 refine zL (r := i64 (a0.length : Int)) rfl rfl rfl (LOp.len_sl und22 rfl rfl) ?_
 refine zA (r := i64 (a0.length : Int)) rfl rfl rfl rfl rfl ?_
 refine zN ?_
 refine RunC.seq ?_
 rcases bsel_some h with ⟨hc1, h⟩ | ⟨hc1, h⟩
 ·rcases bsel_some h with ⟨hc2, h⟩ | ⟨hc2, h⟩
  ·obtain ⟨x1, hx3, h⟩ := olet_some h
   rcases bsel_some h with ⟨hc4, h⟩ | ⟨hc4, h⟩
   ·obtain ⟨r2, hf5, h⟩ := obind_some h
    rcases bsel_some h with ⟨hc6, h⟩ | ⟨hc6, h⟩
    ·obtain ⟨r3, hf7, h⟩ := obind_some h
     refine RunC.regionW ?_
     refine zM (r := i64 (a0.length : Int)) rfl rfl rfl rfl rfl ?_
     refine zL (r := b true) rfl rfl rfl (LOp.eqb (LOp.geq rfl rfl rfl) hc1) ?_
     refine zM (r := b true) rfl rfl rfl rfl rfl ?_
     refine zM (r := i64 (a0.length : Int)) rfl rfl rfl rfl rfl ?_
     refine zL (r := b true) rfl rfl rfl (LOp.eqb (LOp.leq rfl rfl rfl) hc2) ?_
     refine zL (r := b true) rfl rfl rfl (LOp.pick_true rfl rfl rfl) ?_
     refine zM (r := b true) rfl rfl rfl rfl rfl ?_
     refine zM (r := ptr [sl a0.length (a0.map f32), sl a1.length (a1.map f32)]) rfl rfl rfl rfl rfl ?_
     refine zL (r := ptr [sl a0.length (a0.map f32), sl a1.length (a1.map f32)]) rfl rfl rfl (LOp.nilCheck_ptr rfl rfl) ?_
     refine zL (r := ptr [sl a1.length (a1.map f32)]) rfl rfl rfl (LOp.fap und24 rfl siz22 rfl rfl rfl) ?_
     refine zL (r := sl a1.length (a1.map f32)) rfl rfl rfl (LOp.load1 agg22 rfl rfl) ?_
     refine zL (r := i64 (a1.length : Int)) rfl rfl rfl (LOp.len_sl und22 rfl rfl) ?_
     refine zM (r := i64 (a0.length : Int)) rfl rfl rfl rfl rfl ?_
     refine zL (r := i64 x1) rfl rfl rfl (LOp.eqr (LOp.sub rfl rfl rfl) (congrArg (ik .i64) hx3)) ?_
     refine zL (r := b true) rfl rfl rfl (LOp.eqb (LOp.eql rfl rfl rfl) hc4) ?_
     refine zL (r := b true) rfl rfl rfl (LOp.pick_true rfl rfl rfl) ?_
     refine zM (r := b true) rfl rfl rfl rfl rfl ?_
     refine zM (r := ptr [sl a0.length (a0.map f32), sl a1.length (a1.map f32)]) rfl rfl rfl rfl rfl ?_
     refine zL (r := ptr [sl a0.length (a0.map f32), sl a1.length (a1.map f32)]) rfl rfl rfl (LOp.nilCheck_ptr rfl rfl) ?_
     refine zL (r := ptr [sl a0.length (a0.map f32), sl a1.length (a1.map f32)]) rfl rfl rfl (LOp.fap und24 rfl siz22 rfl rfl rfl) ?_
     refine zL (r := sl a0.length (a0.map f32)) rfl rfl rfl (LOp.load1 agg22 rfl rfl) ?_
     refine ROps.d (r := b true) (fs := []) (Γ' := []) rfl rfl rfl (TOp.eqb (TOp.callB (CallAs.func ent41 rfl rfl) (Bors.cons (Bor.sl (fun _ => rfl)) Bors.nil) rfl rfl (s_l02Finite_ok a0 r2 hf5)) hc6) rfl ?_
     refine zL (r := b true) rfl rfl rfl (LOp.pick_true rfl rfl rfl) ?_
     refine zM (r := b true) rfl rfl rfl rfl rfl ?_
     refine zM (r := ptr [sl a0.length (a0.map f32), sl a1.length (a1.map f32)]) rfl rfl rfl rfl rfl ?_
     refine zL (r := ptr [sl a0.length (a0.map f32), sl a1.length (a1.map f32)]) rfl rfl rfl (LOp.nilCheck_ptr rfl rfl) ?_
     refine zL (r := ptr [sl a1.length (a1.map f32)]) rfl rfl rfl (LOp.fap und24 rfl siz22 rfl rfl rfl) ?_
     refine zL (r := sl a1.length (a1.map f32)) rfl rfl rfl (LOp.load1 agg22 rfl rfl) ?_
     refine ROps.d (r := b r3) (fs := []) (Γ' := []) rfl rfl rfl (TOp.callB (CallAs.func ent41 rfl rfl) (Bors.cons (Bor.sl (fun _ => rfl)) Bors.nil) rfl rfl (s_l02Finite_ok a1 r3 hf7)) rfl ?_
     refine zL (r := b r3) rfl rfl rfl (LOp.pick_true rfl rfl rfl) ?_
     refine zA (r := b r3) rfl rfl rfl rfl rfl ?_
     refine zN ?_
     refine RunC.ret ?_
     have hq := Option.some.inj h
     subst q0
     exact bodyQ.pure (.inr rfl) rfl (Res.one rfl (RV.tmp rfl))
    ·refine RunC.regionW ?_
     refine zM (r := i64 (a0.length : Int)) rfl rfl rfl rfl rfl ?_
     refine zL (r := b true) rfl rfl rfl (LOp.eqb (LOp.geq rfl rfl rfl) hc1) ?_
     refine zM (r := b true) rfl rfl rfl rfl rfl ?_
     refine zM (r := i64 (a0.length : Int)) rfl rfl rfl rfl rfl ?_
     refine zL (r := b true) rfl rfl rfl (LOp.eqb (LOp.leq rfl rfl rfl) hc2) ?_
     refine zL (r := b true) rfl rfl rfl (LOp.pick_true rfl rfl rfl) ?_
     refine zM (r := b true) rfl rfl rfl rfl rfl ?_
     refine zM (r := ptr [sl a0.length (a0.map f32), sl a1.length (a1.map f32)]) rfl rfl rfl rfl rfl ?_
     refine zL (r := ptr [sl a0.length (a0.map f32), sl a1.length (a1.map f32)]) rfl rfl rfl (LOp.nilCheck_ptr rfl rfl) ?_
     refine zL (r := ptr [sl a1.length (a1.map f32)]) rfl rfl rfl (LOp.fap und24 rfl siz22 rfl rfl rfl) ?_
     refine zL (r := sl a1.length (a1.map f32)) rfl rfl rfl (LOp.load1 agg22 rfl rfl) ?_
     refine zL (r := i64 (a1.length : Int)) rfl rfl rfl (LOp.len_sl und22 rfl rfl) ?_
     refine zM (r := i64 (a0.length : Int)) rfl rfl rfl rfl rfl ?_
     refine zL (r := i64 x1) rfl rfl rfl (LOp.eqr (LOp.sub rfl rfl rfl) (congrArg (ik .i64) hx3)) ?_
     refine zL (r := b true) rfl rfl rfl (LOp.eqb (LOp.eql rfl rfl rfl) hc4) ?_
     refine zL (r := b true) rfl rfl rfl (LOp.pick_true rfl rfl rfl) ?_
     refine zM (r := b true) rfl rfl rfl rfl rfl ?_
     refine zM (r := ptr [sl a0.length (a0.map f32), sl a1.length (a1.map f32)]) rfl rfl rfl rfl rfl ?_
     refine zL (r := ptr [sl a0.length (a0.map f32), sl a1.length (a1.map f32)]) rfl rfl rfl (LOp.nilCheck_ptr rfl rfl) ?_
     refine zL (r := ptr [sl a0.length (a0.map f32), sl a1.length (a1.map f32)]) rfl rfl rfl (LOp.fap und24 rfl siz22 rfl rfl rfl) ?_
     refine zL (r := sl a0.length (a0.map f32)) rfl rfl rfl (LOp.load1 agg22 rfl rfl) ?_
     refine ROps.d (r := b false) (fs := []) (Γ' := []) rfl rfl rfl (TOp.eqb (TOp.callB (CallAs.func ent41 rfl rfl) (Bors.cons (Bor.sl (fun _ => rfl)) Bors.nil) rfl rfl (s_l02Finite_ok a0 r2 hf5)) hc6) rfl ?_
     refine zL (r := b false) rfl rfl rfl (LOp.pick_true rfl rfl rfl) ?_
     refine zM (r := b false) rfl rfl rfl rfl rfl ?_
     refine ROps.s rfl rfl rfl ?_
     refine ROps.s rfl rfl rfl ?_
     refine ROps.s rfl rfl rfl ?_
     refine ROps.s rfl rfl rfl ?_
     refine ROps.s rfl rfl rfl ?_
     refine zL (r := b false) rfl rfl rfl (LOp.pick_false rfl rfl rfl) ?_
     refine zA (r := b false) rfl rfl rfl rfl rfl ?_
     refine zN ?_
     refine RunC.ret ?_
     have hq := Option.some.inj h
     subst q0
     exact bodyQ.pure (.inr rfl) rfl (Res.one rfl (RV.tmp rfl))
   ·refine RunC.regionW ?_
    refine zM (r := i64 (a0.length : Int)) rfl rfl rfl rfl rfl ?_
    refine zL (r := b true) rfl rfl rfl (LOp.eqb (LOp.geq rfl rfl rfl) hc1) ?_
    refine zM (r := b true) rfl rfl rfl rfl rfl ?_
    refine zM (r := i64 (a0.length : Int)) rfl rfl rfl rfl rfl ?_
    refine zL (r := b true) rfl rfl rfl (LOp.eqb (LOp.leq rfl rfl rfl) hc2) ?_
    refine zL (r := b true) rfl rfl rfl (LOp.pick_true rfl rfl rfl) ?_
    refine zM (r := b true) rfl rfl rfl rfl rfl ?_
    refine zM (r := ptr [sl a0.length (a0.map f32), sl a1.length (a1.map f32)]) rfl rfl rfl rfl rfl ?_
    refine zL (r := ptr [sl a0.length (a0.map f32), sl a1.length (a1.map f32)]) rfl rfl rfl (LOp.nilCheck_ptr rfl rfl) ?_
    refine zL (r := ptr [sl a1.length (a1.map f32)]) rfl rfl rfl (LOp.fap und24 rfl siz22 rfl rfl rfl) ?_
    refine zL (r := sl a1.length (a1.map f32)) rfl rfl rfl (LOp.load1 agg22 rfl rfl) ?_
    refine zL (r := i64 (a1.length : Int)) rfl rfl rfl (LOp.len_sl und22 rfl rfl) ?_
    refine zM (r := i64 (a0.length : Int)) rfl rfl rfl rfl rfl ?_
    refine zL (r := i64 x1) rfl rfl rfl (LOp.eqr (LOp.sub rfl rfl rfl) (congrArg (ik .i64) hx3)) ?_
    refine zL (r := b false) rfl rfl rfl (LOp.eqb (LOp.eql rfl rfl rfl) hc4) ?_
    refine zL (r := b false) rfl rfl rfl (LOp.pick_true rfl rfl rfl) ?_
    refine zM (r := b false) rfl rfl rfl rfl rfl ?_
    refine ROps.s rfl rfl rfl ?_
    refine ROps.s rfl rfl rfl ?_
    refine ROps.s rfl rfl rfl ?_
    refine ROps.s rfl rfl rfl ?_
    refine ROps.s rfl rfl rfl ?_
    refine zL (r := b false) rfl rfl rfl (LOp.pick_false rfl rfl rfl) ?_
    refine zM (r := b false) rfl rfl rfl rfl rfl ?_
    refine ROps.s rfl rfl rfl ?_
    refine ROps.s rfl rfl rfl ?_
    refine ROps.s rfl rfl rfl ?_
    refine ROps.s rfl rfl rfl ?_
    refine ROps.s rfl rfl rfl ?_
    refine zL (r := b false) rfl rfl rfl (LOp.pick_false rfl rfl rfl) ?_
    refine zA (r := b false) rfl rfl rfl rfl rfl ?_
    refine zN ?_
    refine RunC.ret ?_
    have hq := Option.some.inj h
    subst q0
    exact bodyQ.pure (.inr rfl) rfl (Res.one rfl (RV.tmp rfl))
  ·refine RunC.regionW ?_
   refine zM (r := i64 (a0.length : Int)) rfl rfl rfl rfl rfl ?_
   refine zL (r := b true) rfl rfl rfl (LOp.eqb (LOp.geq rfl rfl rfl) hc1) ?_
   refine zM (r := b true) rfl rfl rfl rfl rfl ?_
   refine zM (r := i64 (a0.length : Int)) rfl rfl rfl rfl rfl ?_
   refine zL (r := b false) rfl rfl rfl (LOp.eqb (LOp.leq rfl rfl rfl) hc2) ?_
   refine zL (r := b false) rfl rfl rfl (LOp.pick_true rfl rfl rfl) ?_
   refine zM (r := b false) rfl rfl rfl rfl rfl ?_
   refine ROps.s rfl rfl rfl ?_
   refine ROps.s rfl rfl rfl ?_
   refine ROps.s rfl rfl rfl ?_
   refine ROps.s rfl rfl rfl ?_
   refine ROps.s rfl rfl rfl ?_
   refine ROps.s rfl rfl rfl ?_
   refine ROps.s rfl rfl rfl ?_
   refine ROps.s rfl rfl rfl ?_
   refine zL (r := b false) rfl rfl rfl (LOp.pick_false rfl rfl rfl) ?_
   refine zM (r := b false) rfl rfl rfl rfl rfl ?_
   refine ROps.s rfl rfl rfl ?_
   refine ROps.s rfl rfl rfl ?_
   refine ROps.s rfl rfl rfl ?_
   refine ROps.s rfl rfl rfl ?_
   refine ROps.s rfl rfl rfl ?_
   refine zL (r := b false) rfl rfl rfl (LOp.pick_false rfl rfl rfl) ?_
   refine zM (r := b false) rfl rfl rfl rfl rfl ?_
   refine ROps.s rfl rfl rfl ?_
   refine ROps.s rfl rfl rfl ?_
   refine ROps.s rfl rfl rfl ?_
   refine ROps.s rfl rfl rfl ?_
   refine ROps.s rfl rfl rfl ?_
   refine zL (r := b false) rfl rfl rfl (LOp.pick_false rfl rfl rfl) ?_
   refine zA (r := b false) rfl rfl rfl rfl rfl ?_
   refine zN ?_
   refine RunC.ret ?_
   have hq := Option.some.inj h
   subst q0
   exact bodyQ.pure (.inr rfl) rfl (Res.one rfl (RV.tmp rfl))
 ·refine RunC.regionW ?_
  refine zM (r := i64 (a0.length : Int)) rfl rfl rfl rfl rfl ?_
  refine zL (r := b false) rfl rfl rfl (LOp.eqb (LOp.geq rfl rfl rfl) hc1) ?_
  refine zM (r := b false) rfl rfl rfl rfl rfl ?_
  refine ROps.s rfl rfl rfl ?_
  refine ROps.s rfl rfl rfl ?_
  refine zL (r := b false) rfl rfl rfl (LOp.pick_false rfl rfl rfl) ?_
  refine zM (r := b false) rfl rfl rfl rfl rfl ?_
  refine ROps.s rfl rfl rfl ?_
  refine ROps.s rfl rfl rfl ?_
  refine ROps.s rfl rfl rfl ?_
  refine ROps.s rfl rfl rfl ?_
  refine ROps.s rfl rfl rfl ?_
  refine ROps.s rfl rfl rfl ?_
  refine ROps.s rfl rfl rfl ?_
  refine ROps.s rfl rfl rfl ?_
  refine zL (r := b false) rfl rfl rfl (LOp.pick_false rfl rfl rfl) ?_
  refine zM (r := b false) rfl rfl rfl rfl rfl ?_
  refine ROps.s rfl rfl rfl ?_
  refine ROps.s rfl rfl rfl ?_
  refine ROps.s rfl rfl rfl ?_
  refine ROps.s rfl rfl rfl ?_
  refine ROps.s rfl rfl rfl ?_
  refine zL (r := b false) rfl rfl rfl (LOp.pick_false rfl rfl rfl) ?_
  refine zM (r := b false) rfl rfl rfl rfl rfl ?_
  refine ROps.s rfl rfl rfl ?_
  refine ROps.s rfl rfl rfl ?_
  refine ROps.s rfl rfl rfl ?_
  refine ROps.s rfl rfl rfl ?_
  refine ROps.s rfl rfl rfl ?_
  refine zL (r := b false) rfl rfl rfl (LOp.pick_false rfl rfl rfl) ?_
  refine zA (r := b false) rfl rfl rfl rfl rfl ?_
  refine zN ?_
  refine RunC.ret ?_
  have hq := Option.some.inj h
  subst q0
  exact bodyQ.pure (.inr rfl) rfl (Res.one rfl (RV.tmp rfl))
noncomputable def s_l08ReadChain (a0 : ByteArray) : Option (Bool × (List F) × (List F)) :=
 obind (s_l01Cut a0 59) fun (r1 : List ByteArray) =>
 bsel (!decide (((r1.length : Nat) : Int) = 2)) (
  some (false, ([] : List F), ([] : List F))) (
  obind (at? r1 0) fun (e2 : ByteArray) =>
  obind2 (s_l01NRead e2) fun (r3 : Bool) (r4 : List F) =>
  bsel r3 (
   obind (at? r1 1) fun (e5 : ByteArray) =>
   obind2 (s_l01NRead e5) fun (r6 : Bool) (r7 : List F) =>
   bsel r6 (
    obind (s_l04Is r4 r7) fun (r8 : Bool) =>
    bsel r8 (
     some (true, r4, r7)) (
     some (false, ([] : List F), ([] : List F)))) (
    some (false, ([] : List F), ([] : List F)))) (
   obind (at? r1 1) fun (e9 : ByteArray) =>
   obind2 (s_l01NRead e9) fun (r10 : Bool) (r11 : List F) =>
   bsel r10 (
    some (false, ([] : List F), ([] : List F))) (
    some (false, ([] : List F), ([] : List F)))))
theorem s_l08ReadChain_ok (a0 : ByteArray) (q0 : Bool) (q1 : List F) (q2 : List F) (h : s_l08ReadChain a0 = some (q0, q1, q2)) : Ev Tryz.prog 15 [str a0] [] (tup [agg [oref 0 0 0 q1.length, oref 1 0 0 q2.length], b q0]) [⟨0, some (q1.map f32)⟩, ⟨0, some (q2.map f32)⟩] := by
 refine Ev.start Tryz.func15 rfl rfl 6 (τ := [(0, str a0)]) rfl (Γ' := [⟨0, none⟩, ⟨0, none⟩, ⟨0, none⟩, ⟨0, none⟩, ⟨0, none⟩, ⟨0, none⟩]) rfl (n := 91) rfl (g := 0) rfl (fun _ => rfl) ?_
 unfold s_l08ReadChain at h
 refine zQ ?_
 refine ROps.d (r := optr 0 1 0) (fs := [(0, [nilsl, nilsl])]) (Γ' := [⟨1, some [nilsl, nilsl]⟩, ⟨0, none⟩, ⟨0, none⟩, ⟨0, none⟩, ⟨0, none⟩, ⟨0, none⟩]) rfl rfl rfl (TOp.alloc_o (g := ⟨0, none⟩) 0 rfl zer24 zok24 rfl) rfl ?_
 refine zA (r := b false) rfl rfl rfl rfl rfl ?_
 refine zN ?_
 refine RunC.seq ?_
 obtain ⟨r1, hf1, h⟩ := obind_some h
 refine RunC.regionW ?_
 refine zM (r := str a0) rfl rfl rfl rfl rfl ?_
 refine ROps.d (r := oref 1 1 0 r1.length) (fs := [(1, (r1.map str))]) (Γ' := [⟨1, some [nilsl, nilsl]⟩, ⟨1, some (r1.map str)⟩, ⟨0, none⟩, ⟨0, none⟩, ⟨0, none⟩, ⟨0, none⟩]) rfl rfl rfl (TOp.callBN (ls := [(r1.map str)]) [1] (CallAs.func ent25 rfl rfl) (Bors.cons (Bor.pure rfl) (Bors.cons (Bor.pure rfl) Bors.nil)) rfl (s_l01Cut_ok a0 59 r1 hf1) (and_all (lts0_map (f := str) (fun _ => rfl) _) rfl) (and_all (noss_map (f := str) (fun _ => rfl) _) rfl) rfl (by decide) (ns_of ⟨⟨_, rfl⟩, trivial⟩)) rfl ?_
 refine zA (r := oref 1 1 0 r1.length) rfl rfl rfl rfl rfl ?_
 refine zN ?_
 refine RunC.seq ?_
 refine RunC.seq ?_
 rcases bsel_some h with ⟨hc2, h⟩ | ⟨hc2, h⟩
 ·refine RunC.regionW ?_
  refine zM (r := oref 1 1 0 r1.length) rfl rfl rfl rfl rfl ?_
  refine zL (r := i64 ((r1.length : Nat) : Int)) rfl rfl rfl (LOp.len_oref und46 rfl rfl) ?_
  refine zL (r := b true) rfl rfl rfl (LOp.eqb (LOp.neq rfl rfl rfl) hc2) ?_
  refine zN ?_
  refine RunC.cond_true rfl rfl ?_
  refine zQ ?_
  refine zL (r := agg [nilsl, nilsl]) rfl rfl rfl (LOp.build (qs := []) zer24 zok24 und24 plc24 rfl trivial rfl) ?_
  refine ROps.store_le (r := agg [nilsl, nilsl]) (l' := [nilsl, nilsl]) (Γ' := [⟨1, some [nilsl, nilsl]⟩, ⟨1, some (r1.map str)⟩, ⟨0, none⟩, ⟨0, none⟩, ⟨0, none⟩, ⟨0, none⟩]) rfl siz24 rfl rfl rfl aR rfl rfl rfl rfl (Nat.le_of_ble_eq_true rfl) rfl rfl ?_
  refine zA (r := b false) rfl rfl rfl rfl rfl ?_
  refine zN ?_
  refine RunC.nil_cell (l' := [oref 2 1 0 0, nilsl]) (Γ' := [⟨1, some [oref 2 1 0 0, nilsl]⟩, ⟨1, some (r1.map str)⟩, ⟨1, some (([] : List F).map f32)⟩, ⟨0, none⟩, ⟨0, none⟩, ⟨0, none⟩]) 0 0 2 rfl rfl rfl rfl rfl ?_
  refine RunC.nil_cell (l' := [oref 2 1 0 0, oref 3 1 0 0]) (Γ' := [⟨1, some [oref 2 1 0 0, oref 3 1 0 0]⟩, ⟨1, some (r1.map str)⟩, ⟨1, some (([] : List F).map f32)⟩, ⟨1, some (([] : List F).map f32)⟩, ⟨0, none⟩, ⟨0, none⟩]) 0 1 3 rfl rfl rfl rfl rfl ?_
  refine RunC.ret ?_
  have hq := Option.some.inj h
  obtain ⟨hq0, hq⟩ := Prod.mk.inj hq
  obtain ⟨hq1, hq⟩ := Prod.mk.inj hq
  subst q0
  subst q1
  subst q2
  exact bodyQ.mk (r' := tup [agg [oref 2 1 0 (([] : List F).length), oref 3 1 0 (([] : List F).length)], b false]) [(2, 1), (3, 1)] (.inr rfl) rfl (show List.Nodup [2, 3] from by decide) rfl rfl (Res.eq (Res.two rfl (RV.cell agg24 siz24 rfl rfl rfl rfl) (RV.tmp rfl)) (by rw [(show ([] : List F).length = 0 from rfl)] <;> rfl)) (SelL.arr0 (f := f32) (fun _ => rfl) rfl (SelL.arr0 (f := f32) (fun _ => rfl) rfl trivial))
 ·refine RunC.regionW ?_
  refine zM (r := oref 1 1 0 r1.length) rfl rfl rfl rfl rfl ?_
  refine zL (r := i64 ((r1.length : Nat) : Int)) rfl rfl rfl (LOp.len_oref und46 rfl rfl) ?_
  refine zL (r := b false) rfl rfl rfl (LOp.eqb (LOp.neq rfl rfl rfl) hc2) ?_
  refine zN ?_
  refine RunC.cond_false rfl rfl ?_
  refine RunC.skip ?_
  refine RunC.seq ?_
  obtain ⟨e2, he3, h⟩ := obind_some h
  obtain ⟨r3, r4, hf4, h⟩ := obind2_some h
  rcases bsel_some h with ⟨hc5, h⟩ | ⟨hc5, h⟩
  ·refine RunC.regionW ?_
   refine zM (r := oref 1 1 0 r1.length) rfl rfl rfl rfl rfl ?_
   refine ROps.d (r := optr 1 1 ((0 : Int).toNat)) (fs := []) (Γ' := [⟨1, some [nilsl, nilsl]⟩, ⟨1, some (r1.map str)⟩, ⟨0, none⟩, ⟨0, none⟩, ⟨0, none⟩, ⟨0, none⟩]) rfl rfl rfl (TOp.ixo und46 siz9 rfl rfl rfl (at_in he3 rfl) rfl) rfl ?_
   refine ROps.d (r := str e2) (fs := []) (Γ' := [⟨1, some [nilsl, nilsl]⟩, ⟨1, some (r1.map str)⟩, ⟨0, none⟩, ⟨0, none⟩, ⟨0, none⟩, ⟨0, none⟩]) rfl rfl rfl (TOp.load1_o rfl (at_cell he3) agg9 rfl rfl) rfl ?_
   refine ROps.d (r := tup [oref 2 1 0 r4.length, b r3]) (fs := [(2, (r4.map f32))]) (Γ' := [⟨1, some [nilsl, nilsl]⟩, ⟨1, some (r1.map str)⟩, ⟨1, some (r4.map f32)⟩, ⟨0, none⟩, ⟨0, none⟩, ⟨0, none⟩]) rfl rfl rfl (TOp.callBN (ls := [(r4.map f32)]) [2] (CallAs.func ent26 rfl rfl) (Bors.cons (Bor.pure rfl) Bors.nil) rfl (s_l01NRead_ok e2 r3 r4 hf4) (and_all (lts0_map (f := f32) (fun _ => rfl) _) rfl) (and_all (noss_map (f := f32) (fun _ => rfl) _) rfl) rfl (by decide) (ns_of ⟨⟨_, rfl⟩, trivial⟩)) rfl ?_
   refine zM (r := tup [oref 2 1 0 r4.length, b r3]) rfl rfl rfl rfl rfl ?_
   refine zL (r := oref 2 1 0 r4.length) rfl rfl rfl (LOp.extract rfl rfl rfl) ?_
   refine zL (r := b true) rfl rfl rfl (LOp.eqb (LOp.extract rfl rfl rfl) hc5) ?_
   refine zA (r := oref 2 1 0 r4.length) rfl rfl rfl rfl rfl ?_
   refine zA (r := b true) rfl rfl rfl rfl rfl ?_
   refine zN ?_
   refine RunC.seq ?_
   obtain ⟨e5, he6, h⟩ := obind_some h
   obtain ⟨r6, r7, hf7, h⟩ := obind2_some h
   rcases bsel_some h with ⟨hc8, h⟩ | ⟨hc8, h⟩
   ·refine RunC.regionW ?_
    refine zM (r := oref 1 1 0 r1.length) rfl rfl rfl rfl rfl ?_
    refine ROps.d (r := optr 1 1 ((1 : Int).toNat)) (fs := []) (Γ' := [⟨1, some [nilsl, nilsl]⟩, ⟨1, some (r1.map str)⟩, ⟨1, some (r4.map f32)⟩, ⟨0, none⟩, ⟨0, none⟩, ⟨0, none⟩]) rfl rfl rfl (TOp.ixo und46 siz9 rfl rfl rfl (at_in he6 rfl) rfl) rfl ?_
    refine ROps.d (r := str e5) (fs := []) (Γ' := [⟨1, some [nilsl, nilsl]⟩, ⟨1, some (r1.map str)⟩, ⟨1, some (r4.map f32)⟩, ⟨0, none⟩, ⟨0, none⟩, ⟨0, none⟩]) rfl rfl rfl (TOp.load1_o rfl (at_cell he6) agg9 rfl rfl) rfl ?_
    refine ROps.d (r := tup [oref 3 1 0 r7.length, b r6]) (fs := [(3, (r7.map f32))]) (Γ' := [⟨1, some [nilsl, nilsl]⟩, ⟨1, some (r1.map str)⟩, ⟨1, some (r4.map f32)⟩, ⟨1, some (r7.map f32)⟩, ⟨0, none⟩, ⟨0, none⟩]) rfl rfl rfl (TOp.callBN (ls := [(r7.map f32)]) [3] (CallAs.func ent26 rfl rfl) (Bors.cons (Bor.pure rfl) Bors.nil) rfl (s_l01NRead_ok e5 r6 r7 hf7) (and_all (lts0_map (f := f32) (fun _ => rfl) _) rfl) (and_all (noss_map (f := f32) (fun _ => rfl) _) rfl) rfl (by decide) (ns_of ⟨⟨_, rfl⟩, trivial⟩)) rfl ?_
    refine zM (r := tup [oref 3 1 0 r7.length, b r6]) rfl rfl rfl rfl rfl ?_
    refine zL (r := oref 3 1 0 r7.length) rfl rfl rfl (LOp.extract rfl rfl rfl) ?_
    refine zL (r := b true) rfl rfl rfl (LOp.eqb (LOp.extract rfl rfl rfl) hc8) ?_
    refine zA (r := oref 3 1 0 r7.length) rfl rfl rfl rfl rfl ?_
    refine zA (r := b true) rfl rfl rfl rfl rfl ?_
    refine zN ?_
    refine RunC.wl (τ' := [(2, optr 0 1 0), (5, oref 2 1 0 r4.length), (6, b true), (7, oref 3 1 0 r7.length), (8, b true)]) (Γ' := [⟨1, some [nilsl, nilsl]⟩, ⟨1, none⟩, ⟨1, some (r4.map f32)⟩, ⟨1, some (r7.map f32)⟩, ⟨0, none⟩, ⟨0, none⟩]) ⟨aR, aR, aR, aR, aR, trivial⟩ ⟨⟨rfl, .inr rfl⟩, ⟨rfl, .inl rfl⟩, ⟨rfl, .inr rfl⟩, ⟨rfl, .inr rfl⟩, ⟨rfl, .inr rfl⟩, ⟨rfl, .inr rfl⟩, trivial⟩ ?_
    refine zQ ?_
    refine zM (r := oref 2 1 0 r4.length) rfl rfl rfl rfl rfl ?_
    refine zM (r := oref 3 1 0 r7.length) rfl rfl rfl rfl rfl ?_
    refine zL (r := agg [oref 2 1 0 r4.length, oref 3 1 0 r7.length]) rfl rfl rfl (LOp.build (qs := [(0, [oref 2 1 0 r4.length]), (1, [oref 3 1 0 r7.length])]) zer24 zok24 und24 plc24 rfl ⟨rfl, ⟨_, ALe.refl _, rfl⟩, ⟨rfl, ⟨_, ALe.refl _, rfl⟩, trivial⟩⟩ rfl) ?_
    refine ROps.d (r := optr 1 2 0) (fs := [(1, [nilsl, nilsl])]) (Γ' := [⟨1, some [nilsl, nilsl]⟩, ⟨2, some [nilsl, nilsl]⟩, ⟨1, some (r4.map f32)⟩, ⟨1, some (r7.map f32)⟩, ⟨0, none⟩, ⟨0, none⟩]) rfl rfl rfl (TOp.alloc_o (g := ⟨1, none⟩) 1 rfl zer24 zok24 rfl) rfl ?_
    refine ROps.store_le (r := agg [oref 2 1 0 r4.length, oref 3 1 0 r7.length]) (l' := [oref 2 1 0 r4.length, oref 3 1 0 r7.length]) (Γ' := [⟨1, some [nilsl, nilsl]⟩, ⟨2, some [oref 2 1 0 r4.length, oref 3 1 0 r7.length]⟩, ⟨1, some (r4.map f32)⟩, ⟨1, some (r7.map f32)⟩, ⟨0, none⟩, ⟨0, none⟩]) rfl siz24 rfl rfl rfl aR rfl rfl rfl rfl (Nat.le_of_ble_eq_true rfl) rfl rfl ?_
    refine zN ?_
    refine RunC.seq ?_
    refine RunC.seq ?_
    obtain ⟨r8, hf9, h⟩ := obind_some h
    rcases bsel_some h with ⟨hc10, h⟩ | ⟨hc10, h⟩
    ·refine RunC.regionW ?_
     refine zM (r := b true) rfl rfl rfl rfl rfl ?_
     refine zL (r := b false) rfl rfl rfl (LOp.eqb (LOp.not rfl rfl) rfl) ?_
     refine zM (r := b false) rfl rfl rfl rfl rfl ?_
     refine zM (r := b true) rfl rfl rfl rfl rfl ?_
     refine zL (r := b false) rfl rfl rfl (LOp.eqb (LOp.not rfl rfl) rfl) ?_
     refine zL (r := b false) rfl rfl rfl (LOp.pick_false rfl rfl rfl) ?_
     refine zM (r := b false) rfl rfl rfl rfl rfl ?_
     refine ROps.d (r := b true) (fs := []) (Γ' := [⟨1, some [nilsl, nilsl]⟩, ⟨2, some [oref 2 1 0 r4.length, oref 3 1 0 r7.length]⟩, ⟨1, some (r4.map f32)⟩, ⟨1, some (r7.map f32)⟩, ⟨0, none⟩, ⟨0, none⟩]) rfl rfl rfl (TOp.eqb (TOp.callB (CallAs.func ent27 rfl rfl) (Bors.cons (Bor.optr rfl (Bors.p (Bors.cons (Bor.own (f := f32) (fun _ => rfl) rfl rfl) (Bors.cons (Bor.own (f := f32) (fun _ => rfl) rfl rfl) Bors.nil))) rfl) Bors.nil) rfl rfl (s_l04Is_ok r4 r7 r8 hf9)) hc10) rfl ?_
     refine zL (r := b false) rfl rfl rfl (LOp.eqb (LOp.not rfl rfl) rfl) ?_
     refine zL (r := b false) rfl rfl rfl (LOp.pick_false rfl rfl rfl) ?_
     refine zN ?_
     refine RunC.wl (τ' := [(2, optr 0 1 0), (9, optr 1 2 0), (42, b false)]) (Γ' := [⟨1, some [nilsl, nilsl]⟩, ⟨2, some [oref 2 1 0 r4.length, oref 3 1 0 r7.length]⟩, ⟨1, some (r4.map f32)⟩, ⟨1, some (r7.map f32)⟩, ⟨0, none⟩, ⟨0, none⟩]) ⟨aR, aR, aR, trivial⟩ ⟨⟨rfl, .inr rfl⟩, ⟨rfl, .inr rfl⟩, ⟨rfl, .inr rfl⟩, ⟨rfl, .inr rfl⟩, ⟨rfl, .inr rfl⟩, ⟨rfl, .inr rfl⟩, trivial⟩ ?_
     refine RunC.cond_false rfl rfl ?_
     refine RunC.skip ?_
     refine zQ ?_
     refine ROps.d (r := agg [oref 2 1 0 r4.length, oref 3 1 0 r7.length]) (fs := []) (Γ' := [⟨1, some [nilsl, nilsl]⟩, ⟨2, some [oref 2 1 0 r4.length, oref 3 1 0 r7.length]⟩, ⟨1, some (r4.map f32)⟩, ⟨1, some (r7.map f32)⟩, ⟨0, none⟩, ⟨0, none⟩]) rfl rfl rfl (TOp.loadAgg_o rfl agg24 siz24 rfl rfl rfl rfl) rfl ?_
     refine ROps.store_le (r := agg [oref 2 1 0 r4.length, oref 3 1 0 r7.length]) (l' := [oref 2 1 0 r4.length, oref 3 1 0 r7.length]) (Γ' := [⟨1, some [oref 2 1 0 r4.length, oref 3 1 0 r7.length]⟩, ⟨2, some [oref 2 1 0 r4.length, oref 3 1 0 r7.length]⟩, ⟨1, some (r4.map f32)⟩, ⟨1, some (r7.map f32)⟩, ⟨0, none⟩, ⟨0, none⟩]) rfl siz24 rfl rfl rfl aR rfl rfl rfl rfl (Nat.le_of_ble_eq_true rfl) rfl rfl ?_
     refine zA (r := b true) rfl rfl rfl rfl rfl ?_
     refine zN ?_
     refine RunC.ret ?_
     have hq := Option.some.inj h
     obtain ⟨hq0, hq⟩ := Prod.mk.inj hq
     obtain ⟨hq1, hq⟩ := Prod.mk.inj hq
     subst q0
     subst q1
     subst q2
     exact bodyQ.mk (r' := tup [agg [oref 2 1 0 r4.length, oref 3 1 0 r7.length], b true]) [(2, 1), (3, 1)] (.inr rfl) rfl (show List.Nodup [2, 3] from by decide) rfl rfl (Res.two rfl (RV.cell agg24 siz24 rfl rfl rfl rfl) (RV.tmp rfl)) (SelL.arr0 (f := f32) (fun _ => rfl) rfl (SelL.arr0 (f := f32) (fun _ => rfl) rfl trivial))
    ·refine RunC.regionW ?_
     refine zM (r := b true) rfl rfl rfl rfl rfl ?_
     refine zL (r := b false) rfl rfl rfl (LOp.eqb (LOp.not rfl rfl) rfl) ?_
     refine zM (r := b false) rfl rfl rfl rfl rfl ?_
     refine zM (r := b true) rfl rfl rfl rfl rfl ?_
     refine zL (r := b false) rfl rfl rfl (LOp.eqb (LOp.not rfl rfl) rfl) ?_
     refine zL (r := b false) rfl rfl rfl (LOp.pick_false rfl rfl rfl) ?_
     refine zM (r := b false) rfl rfl rfl rfl rfl ?_
     refine ROps.d (r := b false) (fs := []) (Γ' := [⟨1, some [nilsl, nilsl]⟩, ⟨2, some [oref 2 1 0 r4.length, oref 3 1 0 r7.length]⟩, ⟨1, some (r4.map f32)⟩, ⟨1, some (r7.map f32)⟩, ⟨0, none⟩, ⟨0, none⟩]) rfl rfl rfl (TOp.eqb (TOp.callB (CallAs.func ent27 rfl rfl) (Bors.cons (Bor.optr rfl (Bors.p (Bors.cons (Bor.own (f := f32) (fun _ => rfl) rfl rfl) (Bors.cons (Bor.own (f := f32) (fun _ => rfl) rfl rfl) Bors.nil))) rfl) Bors.nil) rfl rfl (s_l04Is_ok r4 r7 r8 hf9)) hc10) rfl ?_
     refine zL (r := b true) rfl rfl rfl (LOp.eqb (LOp.not rfl rfl) rfl) ?_
     refine zL (r := b true) rfl rfl rfl (LOp.pick_false rfl rfl rfl) ?_
     refine zN ?_
     refine RunC.wl (τ' := [(2, optr 0 1 0), (9, optr 1 2 0), (42, b true)]) (Γ' := [⟨1, some [nilsl, nilsl]⟩, ⟨2, some [oref 2 1 0 r4.length, oref 3 1 0 r7.length]⟩, ⟨1, some (r4.map f32)⟩, ⟨1, some (r7.map f32)⟩, ⟨0, none⟩, ⟨0, none⟩]) ⟨aR, aR, aR, trivial⟩ ⟨⟨rfl, .inr rfl⟩, ⟨rfl, .inr rfl⟩, ⟨rfl, .inr rfl⟩, ⟨rfl, .inr rfl⟩, ⟨rfl, .inr rfl⟩, ⟨rfl, .inr rfl⟩, trivial⟩ ?_
     refine RunC.cond_true rfl rfl ?_
     refine zQ ?_
     refine zL (r := agg [nilsl, nilsl]) rfl rfl rfl (LOp.build (qs := []) zer24 zok24 und24 plc24 rfl trivial rfl) ?_
     refine ROps.store_le (r := agg [nilsl, nilsl]) (l' := [nilsl, nilsl]) (Γ' := [⟨1, some [nilsl, nilsl]⟩, ⟨2, some [oref 2 1 0 r4.length, oref 3 1 0 r7.length]⟩, ⟨1, some (r4.map f32)⟩, ⟨1, some (r7.map f32)⟩, ⟨0, none⟩, ⟨0, none⟩]) rfl siz24 rfl rfl rfl aR rfl rfl rfl rfl (Nat.le_of_ble_eq_true rfl) rfl rfl ?_
     refine zA (r := b false) rfl rfl rfl rfl rfl ?_
     refine zN ?_
     refine RunC.nil_cell (l' := [oref 4 1 0 0, nilsl]) (Γ' := [⟨1, some [oref 4 1 0 0, nilsl]⟩, ⟨2, some [oref 2 1 0 r4.length, oref 3 1 0 r7.length]⟩, ⟨1, some (r4.map f32)⟩, ⟨1, some (r7.map f32)⟩, ⟨1, some (([] : List F).map f32)⟩, ⟨0, none⟩]) 0 0 4 rfl rfl rfl rfl rfl ?_
     refine RunC.nil_cell (l' := [oref 4 1 0 0, oref 5 1 0 0]) (Γ' := [⟨1, some [oref 4 1 0 0, oref 5 1 0 0]⟩, ⟨2, some [oref 2 1 0 r4.length, oref 3 1 0 r7.length]⟩, ⟨1, some (r4.map f32)⟩, ⟨1, some (r7.map f32)⟩, ⟨1, some (([] : List F).map f32)⟩, ⟨1, some (([] : List F).map f32)⟩]) 0 1 5 rfl rfl rfl rfl rfl ?_
     refine RunC.ret ?_
     have hq := Option.some.inj h
     obtain ⟨hq0, hq⟩ := Prod.mk.inj hq
     obtain ⟨hq1, hq⟩ := Prod.mk.inj hq
     subst q0
     subst q1
     subst q2
     exact bodyQ.mk (r' := tup [agg [oref 4 1 0 (([] : List F).length), oref 5 1 0 (([] : List F).length)], b false]) [(4, 1), (5, 1)] (.inr rfl) rfl (show List.Nodup [4, 5] from by decide) rfl rfl (Res.eq (Res.two rfl (RV.cell agg24 siz24 rfl rfl rfl rfl) (RV.tmp rfl)) (by rw [(show ([] : List F).length = 0 from rfl)] <;> rfl)) (SelL.arr0 (f := f32) (fun _ => rfl) rfl (SelL.arr0 (f := f32) (fun _ => rfl) rfl trivial))
   ·refine RunC.regionW ?_
    refine zM (r := oref 1 1 0 r1.length) rfl rfl rfl rfl rfl ?_
    refine ROps.d (r := optr 1 1 ((1 : Int).toNat)) (fs := []) (Γ' := [⟨1, some [nilsl, nilsl]⟩, ⟨1, some (r1.map str)⟩, ⟨1, some (r4.map f32)⟩, ⟨0, none⟩, ⟨0, none⟩, ⟨0, none⟩]) rfl rfl rfl (TOp.ixo und46 siz9 rfl rfl rfl (at_in he6 rfl) rfl) rfl ?_
    refine ROps.d (r := str e5) (fs := []) (Γ' := [⟨1, some [nilsl, nilsl]⟩, ⟨1, some (r1.map str)⟩, ⟨1, some (r4.map f32)⟩, ⟨0, none⟩, ⟨0, none⟩, ⟨0, none⟩]) rfl rfl rfl (TOp.load1_o rfl (at_cell he6) agg9 rfl rfl) rfl ?_
    refine ROps.d (r := tup [oref 3 1 0 r7.length, b r6]) (fs := [(3, (r7.map f32))]) (Γ' := [⟨1, some [nilsl, nilsl]⟩, ⟨1, some (r1.map str)⟩, ⟨1, some (r4.map f32)⟩, ⟨1, some (r7.map f32)⟩, ⟨0, none⟩, ⟨0, none⟩]) rfl rfl rfl (TOp.callBN (ls := [(r7.map f32)]) [3] (CallAs.func ent26 rfl rfl) (Bors.cons (Bor.pure rfl) Bors.nil) rfl (s_l01NRead_ok e5 r6 r7 hf7) (and_all (lts0_map (f := f32) (fun _ => rfl) _) rfl) (and_all (noss_map (f := f32) (fun _ => rfl) _) rfl) rfl (by decide) (ns_of ⟨⟨_, rfl⟩, trivial⟩)) rfl ?_
    refine zM (r := tup [oref 3 1 0 r7.length, b r6]) rfl rfl rfl rfl rfl ?_
    refine zL (r := oref 3 1 0 r7.length) rfl rfl rfl (LOp.extract rfl rfl rfl) ?_
    refine zL (r := b false) rfl rfl rfl (LOp.eqb (LOp.extract rfl rfl rfl) hc8) ?_
    refine zA (r := oref 3 1 0 r7.length) rfl rfl rfl rfl rfl ?_
    refine zA (r := b false) rfl rfl rfl rfl rfl ?_
    refine zN ?_
    refine RunC.wl (τ' := [(2, optr 0 1 0), (5, oref 2 1 0 r4.length), (6, b true), (7, oref 3 1 0 r7.length), (8, b false)]) (Γ' := [⟨1, some [nilsl, nilsl]⟩, ⟨1, none⟩, ⟨1, some (r4.map f32)⟩, ⟨1, some (r7.map f32)⟩, ⟨0, none⟩, ⟨0, none⟩]) ⟨aR, aR, aR, aR, aR, trivial⟩ ⟨⟨rfl, .inr rfl⟩, ⟨rfl, .inl rfl⟩, ⟨rfl, .inr rfl⟩, ⟨rfl, .inr rfl⟩, ⟨rfl, .inr rfl⟩, ⟨rfl, .inr rfl⟩, trivial⟩ ?_
    refine zQ ?_
    refine zM (r := oref 2 1 0 r4.length) rfl rfl rfl rfl rfl ?_
    refine zM (r := oref 3 1 0 r7.length) rfl rfl rfl rfl rfl ?_
    refine zL (r := agg [oref 2 1 0 r4.length, oref 3 1 0 r7.length]) rfl rfl rfl (LOp.build (qs := [(0, [oref 2 1 0 r4.length]), (1, [oref 3 1 0 r7.length])]) zer24 zok24 und24 plc24 rfl ⟨rfl, ⟨_, ALe.refl _, rfl⟩, ⟨rfl, ⟨_, ALe.refl _, rfl⟩, trivial⟩⟩ rfl) ?_
    refine ROps.d (r := optr 1 2 0) (fs := [(1, [nilsl, nilsl])]) (Γ' := [⟨1, some [nilsl, nilsl]⟩, ⟨2, some [nilsl, nilsl]⟩, ⟨1, some (r4.map f32)⟩, ⟨1, some (r7.map f32)⟩, ⟨0, none⟩, ⟨0, none⟩]) rfl rfl rfl (TOp.alloc_o (g := ⟨1, none⟩) 1 rfl zer24 zok24 rfl) rfl ?_
    refine ROps.store_le (r := agg [oref 2 1 0 r4.length, oref 3 1 0 r7.length]) (l' := [oref 2 1 0 r4.length, oref 3 1 0 r7.length]) (Γ' := [⟨1, some [nilsl, nilsl]⟩, ⟨2, some [oref 2 1 0 r4.length, oref 3 1 0 r7.length]⟩, ⟨1, some (r4.map f32)⟩, ⟨1, some (r7.map f32)⟩, ⟨0, none⟩, ⟨0, none⟩]) rfl siz24 rfl rfl rfl aR rfl rfl rfl rfl (Nat.le_of_ble_eq_true rfl) rfl rfl ?_
    refine zN ?_
    refine RunC.seq ?_
    refine zQ ?_
    refine zM (r := b true) rfl rfl rfl rfl rfl ?_
    refine zL (r := b false) rfl rfl rfl (LOp.eqb (LOp.not rfl rfl) rfl) ?_
    refine zM (r := b false) rfl rfl rfl rfl rfl ?_
    refine zM (r := b false) rfl rfl rfl rfl rfl ?_
    refine zL (r := b true) rfl rfl rfl (LOp.eqb (LOp.not rfl rfl) rfl) ?_
    refine zL (r := b true) rfl rfl rfl (LOp.pick_false rfl rfl rfl) ?_
    refine zM (r := b true) rfl rfl rfl rfl rfl ?_
    refine ROps.s rfl rfl rfl ?_
    refine ROps.s rfl rfl rfl ?_
    refine zL (r := b true) rfl rfl rfl (LOp.pick_true rfl rfl rfl) ?_
    refine zN ?_
    refine RunC.wl (τ' := [(2, optr 0 1 0), (9, optr 1 2 0), (42, b true)]) (Γ' := [⟨1, some [nilsl, nilsl]⟩, ⟨2, some [oref 2 1 0 r4.length, oref 3 1 0 r7.length]⟩, ⟨1, some (r4.map f32)⟩, ⟨1, some (r7.map f32)⟩, ⟨0, none⟩, ⟨0, none⟩]) ⟨aR, aR, aR, trivial⟩ ⟨⟨rfl, .inr rfl⟩, ⟨rfl, .inr rfl⟩, ⟨rfl, .inr rfl⟩, ⟨rfl, .inr rfl⟩, ⟨rfl, .inr rfl⟩, ⟨rfl, .inr rfl⟩, trivial⟩ ?_
    refine RunC.cond_true rfl rfl ?_
    refine zQ ?_
    refine zL (r := agg [nilsl, nilsl]) rfl rfl rfl (LOp.build (qs := []) zer24 zok24 und24 plc24 rfl trivial rfl) ?_
    refine ROps.store_le (r := agg [nilsl, nilsl]) (l' := [nilsl, nilsl]) (Γ' := [⟨1, some [nilsl, nilsl]⟩, ⟨2, some [oref 2 1 0 r4.length, oref 3 1 0 r7.length]⟩, ⟨1, some (r4.map f32)⟩, ⟨1, some (r7.map f32)⟩, ⟨0, none⟩, ⟨0, none⟩]) rfl siz24 rfl rfl rfl aR rfl rfl rfl rfl (Nat.le_of_ble_eq_true rfl) rfl rfl ?_
    refine zA (r := b false) rfl rfl rfl rfl rfl ?_
    refine zN ?_
    refine RunC.nil_cell (l' := [oref 4 1 0 0, nilsl]) (Γ' := [⟨1, some [oref 4 1 0 0, nilsl]⟩, ⟨2, some [oref 2 1 0 r4.length, oref 3 1 0 r7.length]⟩, ⟨1, some (r4.map f32)⟩, ⟨1, some (r7.map f32)⟩, ⟨1, some (([] : List F).map f32)⟩, ⟨0, none⟩]) 0 0 4 rfl rfl rfl rfl rfl ?_
    refine RunC.nil_cell (l' := [oref 4 1 0 0, oref 5 1 0 0]) (Γ' := [⟨1, some [oref 4 1 0 0, oref 5 1 0 0]⟩, ⟨2, some [oref 2 1 0 r4.length, oref 3 1 0 r7.length]⟩, ⟨1, some (r4.map f32)⟩, ⟨1, some (r7.map f32)⟩, ⟨1, some (([] : List F).map f32)⟩, ⟨1, some (([] : List F).map f32)⟩]) 0 1 5 rfl rfl rfl rfl rfl ?_
    refine RunC.ret ?_
    have hq := Option.some.inj h
    obtain ⟨hq0, hq⟩ := Prod.mk.inj hq
    obtain ⟨hq1, hq⟩ := Prod.mk.inj hq
    subst q0
    subst q1
    subst q2
    exact bodyQ.mk (r' := tup [agg [oref 4 1 0 (([] : List F).length), oref 5 1 0 (([] : List F).length)], b false]) [(4, 1), (5, 1)] (.inr rfl) rfl (show List.Nodup [4, 5] from by decide) rfl rfl (Res.eq (Res.two rfl (RV.cell agg24 siz24 rfl rfl rfl rfl) (RV.tmp rfl)) (by rw [(show ([] : List F).length = 0 from rfl)] <;> rfl)) (SelL.arr0 (f := f32) (fun _ => rfl) rfl (SelL.arr0 (f := f32) (fun _ => rfl) rfl trivial))
  ·refine RunC.regionW ?_
   refine zM (r := oref 1 1 0 r1.length) rfl rfl rfl rfl rfl ?_
   refine ROps.d (r := optr 1 1 ((0 : Int).toNat)) (fs := []) (Γ' := [⟨1, some [nilsl, nilsl]⟩, ⟨1, some (r1.map str)⟩, ⟨0, none⟩, ⟨0, none⟩, ⟨0, none⟩, ⟨0, none⟩]) rfl rfl rfl (TOp.ixo und46 siz9 rfl rfl rfl (at_in he3 rfl) rfl) rfl ?_
   refine ROps.d (r := str e2) (fs := []) (Γ' := [⟨1, some [nilsl, nilsl]⟩, ⟨1, some (r1.map str)⟩, ⟨0, none⟩, ⟨0, none⟩, ⟨0, none⟩, ⟨0, none⟩]) rfl rfl rfl (TOp.load1_o rfl (at_cell he3) agg9 rfl rfl) rfl ?_
   refine ROps.d (r := tup [oref 2 1 0 r4.length, b r3]) (fs := [(2, (r4.map f32))]) (Γ' := [⟨1, some [nilsl, nilsl]⟩, ⟨1, some (r1.map str)⟩, ⟨1, some (r4.map f32)⟩, ⟨0, none⟩, ⟨0, none⟩, ⟨0, none⟩]) rfl rfl rfl (TOp.callBN (ls := [(r4.map f32)]) [2] (CallAs.func ent26 rfl rfl) (Bors.cons (Bor.pure rfl) Bors.nil) rfl (s_l01NRead_ok e2 r3 r4 hf4) (and_all (lts0_map (f := f32) (fun _ => rfl) _) rfl) (and_all (noss_map (f := f32) (fun _ => rfl) _) rfl) rfl (by decide) (ns_of ⟨⟨_, rfl⟩, trivial⟩)) rfl ?_
   refine zM (r := tup [oref 2 1 0 r4.length, b r3]) rfl rfl rfl rfl rfl ?_
   refine zL (r := oref 2 1 0 r4.length) rfl rfl rfl (LOp.extract rfl rfl rfl) ?_
   refine zL (r := b false) rfl rfl rfl (LOp.eqb (LOp.extract rfl rfl rfl) hc5) ?_
   refine zA (r := oref 2 1 0 r4.length) rfl rfl rfl rfl rfl ?_
   refine zA (r := b false) rfl rfl rfl rfl rfl ?_
   refine zN ?_
   refine RunC.seq ?_
   obtain ⟨e9, he11, h⟩ := obind_some h
   obtain ⟨r10, r11, hf12, h⟩ := obind2_some h
   rcases bsel_some h with ⟨hc13, h⟩ | ⟨hc13, h⟩
   ·refine RunC.regionW ?_
    refine zM (r := oref 1 1 0 r1.length) rfl rfl rfl rfl rfl ?_
    refine ROps.d (r := optr 1 1 ((1 : Int).toNat)) (fs := []) (Γ' := [⟨1, some [nilsl, nilsl]⟩, ⟨1, some (r1.map str)⟩, ⟨1, some (r4.map f32)⟩, ⟨0, none⟩, ⟨0, none⟩, ⟨0, none⟩]) rfl rfl rfl (TOp.ixo und46 siz9 rfl rfl rfl (at_in he11 rfl) rfl) rfl ?_
    refine ROps.d (r := str e9) (fs := []) (Γ' := [⟨1, some [nilsl, nilsl]⟩, ⟨1, some (r1.map str)⟩, ⟨1, some (r4.map f32)⟩, ⟨0, none⟩, ⟨0, none⟩, ⟨0, none⟩]) rfl rfl rfl (TOp.load1_o rfl (at_cell he11) agg9 rfl rfl) rfl ?_
    refine ROps.d (r := tup [oref 3 1 0 r11.length, b r10]) (fs := [(3, (r11.map f32))]) (Γ' := [⟨1, some [nilsl, nilsl]⟩, ⟨1, some (r1.map str)⟩, ⟨1, some (r4.map f32)⟩, ⟨1, some (r11.map f32)⟩, ⟨0, none⟩, ⟨0, none⟩]) rfl rfl rfl (TOp.callBN (ls := [(r11.map f32)]) [3] (CallAs.func ent26 rfl rfl) (Bors.cons (Bor.pure rfl) Bors.nil) rfl (s_l01NRead_ok e9 r10 r11 hf12) (and_all (lts0_map (f := f32) (fun _ => rfl) _) rfl) (and_all (noss_map (f := f32) (fun _ => rfl) _) rfl) rfl (by decide) (ns_of ⟨⟨_, rfl⟩, trivial⟩)) rfl ?_
    refine zM (r := tup [oref 3 1 0 r11.length, b r10]) rfl rfl rfl rfl rfl ?_
    refine zL (r := oref 3 1 0 r11.length) rfl rfl rfl (LOp.extract rfl rfl rfl) ?_
    refine zL (r := b true) rfl rfl rfl (LOp.eqb (LOp.extract rfl rfl rfl) hc13) ?_
    refine zA (r := oref 3 1 0 r11.length) rfl rfl rfl rfl rfl ?_
    refine zA (r := b true) rfl rfl rfl rfl rfl ?_
    refine zN ?_
    refine RunC.wl (τ' := [(2, optr 0 1 0), (5, oref 2 1 0 r4.length), (6, b false), (7, oref 3 1 0 r11.length), (8, b true)]) (Γ' := [⟨1, some [nilsl, nilsl]⟩, ⟨1, none⟩, ⟨1, some (r4.map f32)⟩, ⟨1, some (r11.map f32)⟩, ⟨0, none⟩, ⟨0, none⟩]) ⟨aR, aR, aR, aR, aR, trivial⟩ ⟨⟨rfl, .inr rfl⟩, ⟨rfl, .inl rfl⟩, ⟨rfl, .inr rfl⟩, ⟨rfl, .inr rfl⟩, ⟨rfl, .inr rfl⟩, ⟨rfl, .inr rfl⟩, trivial⟩ ?_
    refine zQ ?_
    refine zM (r := oref 2 1 0 r4.length) rfl rfl rfl rfl rfl ?_
    refine zM (r := oref 3 1 0 r11.length) rfl rfl rfl rfl rfl ?_
    refine zL (r := agg [oref 2 1 0 r4.length, oref 3 1 0 r11.length]) rfl rfl rfl (LOp.build (qs := [(0, [oref 2 1 0 r4.length]), (1, [oref 3 1 0 r11.length])]) zer24 zok24 und24 plc24 rfl ⟨rfl, ⟨_, ALe.refl _, rfl⟩, ⟨rfl, ⟨_, ALe.refl _, rfl⟩, trivial⟩⟩ rfl) ?_
    refine ROps.d (r := optr 1 2 0) (fs := [(1, [nilsl, nilsl])]) (Γ' := [⟨1, some [nilsl, nilsl]⟩, ⟨2, some [nilsl, nilsl]⟩, ⟨1, some (r4.map f32)⟩, ⟨1, some (r11.map f32)⟩, ⟨0, none⟩, ⟨0, none⟩]) rfl rfl rfl (TOp.alloc_o (g := ⟨1, none⟩) 1 rfl zer24 zok24 rfl) rfl ?_
    refine ROps.store_le (r := agg [oref 2 1 0 r4.length, oref 3 1 0 r11.length]) (l' := [oref 2 1 0 r4.length, oref 3 1 0 r11.length]) (Γ' := [⟨1, some [nilsl, nilsl]⟩, ⟨2, some [oref 2 1 0 r4.length, oref 3 1 0 r11.length]⟩, ⟨1, some (r4.map f32)⟩, ⟨1, some (r11.map f32)⟩, ⟨0, none⟩, ⟨0, none⟩]) rfl siz24 rfl rfl rfl aR rfl rfl rfl rfl (Nat.le_of_ble_eq_true rfl) rfl rfl ?_
    refine zN ?_
    refine RunC.seq ?_
    refine zQ ?_
    refine zM (r := b false) rfl rfl rfl rfl rfl ?_
    refine zL (r := b true) rfl rfl rfl (LOp.eqb (LOp.not rfl rfl) rfl) ?_
    refine zM (r := b true) rfl rfl rfl rfl rfl ?_
    refine ROps.s rfl rfl rfl ?_
    refine ROps.s rfl rfl rfl ?_
    refine zL (r := b true) rfl rfl rfl (LOp.pick_true rfl rfl rfl) ?_
    refine zM (r := b true) rfl rfl rfl rfl rfl ?_
    refine ROps.s rfl rfl rfl ?_
    refine ROps.s rfl rfl rfl ?_
    refine zL (r := b true) rfl rfl rfl (LOp.pick_true rfl rfl rfl) ?_
    refine zN ?_
    refine RunC.wl (τ' := [(2, optr 0 1 0), (9, optr 1 2 0), (42, b true)]) (Γ' := [⟨1, some [nilsl, nilsl]⟩, ⟨2, some [oref 2 1 0 r4.length, oref 3 1 0 r11.length]⟩, ⟨1, some (r4.map f32)⟩, ⟨1, some (r11.map f32)⟩, ⟨0, none⟩, ⟨0, none⟩]) ⟨aR, aR, aR, trivial⟩ ⟨⟨rfl, .inr rfl⟩, ⟨rfl, .inr rfl⟩, ⟨rfl, .inr rfl⟩, ⟨rfl, .inr rfl⟩, ⟨rfl, .inr rfl⟩, ⟨rfl, .inr rfl⟩, trivial⟩ ?_
    refine RunC.cond_true rfl rfl ?_
    refine zQ ?_
    refine zL (r := agg [nilsl, nilsl]) rfl rfl rfl (LOp.build (qs := []) zer24 zok24 und24 plc24 rfl trivial rfl) ?_
    refine ROps.store_le (r := agg [nilsl, nilsl]) (l' := [nilsl, nilsl]) (Γ' := [⟨1, some [nilsl, nilsl]⟩, ⟨2, some [oref 2 1 0 r4.length, oref 3 1 0 r11.length]⟩, ⟨1, some (r4.map f32)⟩, ⟨1, some (r11.map f32)⟩, ⟨0, none⟩, ⟨0, none⟩]) rfl siz24 rfl rfl rfl aR rfl rfl rfl rfl (Nat.le_of_ble_eq_true rfl) rfl rfl ?_
    refine zA (r := b false) rfl rfl rfl rfl rfl ?_
    refine zN ?_
    refine RunC.nil_cell (l' := [oref 4 1 0 0, nilsl]) (Γ' := [⟨1, some [oref 4 1 0 0, nilsl]⟩, ⟨2, some [oref 2 1 0 r4.length, oref 3 1 0 r11.length]⟩, ⟨1, some (r4.map f32)⟩, ⟨1, some (r11.map f32)⟩, ⟨1, some (([] : List F).map f32)⟩, ⟨0, none⟩]) 0 0 4 rfl rfl rfl rfl rfl ?_
    refine RunC.nil_cell (l' := [oref 4 1 0 0, oref 5 1 0 0]) (Γ' := [⟨1, some [oref 4 1 0 0, oref 5 1 0 0]⟩, ⟨2, some [oref 2 1 0 r4.length, oref 3 1 0 r11.length]⟩, ⟨1, some (r4.map f32)⟩, ⟨1, some (r11.map f32)⟩, ⟨1, some (([] : List F).map f32)⟩, ⟨1, some (([] : List F).map f32)⟩]) 0 1 5 rfl rfl rfl rfl rfl ?_
    refine RunC.ret ?_
    have hq := Option.some.inj h
    obtain ⟨hq0, hq⟩ := Prod.mk.inj hq
    obtain ⟨hq1, hq⟩ := Prod.mk.inj hq
    subst q0
    subst q1
    subst q2
    exact bodyQ.mk (r' := tup [agg [oref 4 1 0 (([] : List F).length), oref 5 1 0 (([] : List F).length)], b false]) [(4, 1), (5, 1)] (.inr rfl) rfl (show List.Nodup [4, 5] from by decide) rfl rfl (Res.eq (Res.two rfl (RV.cell agg24 siz24 rfl rfl rfl rfl) (RV.tmp rfl)) (by rw [(show ([] : List F).length = 0 from rfl)] <;> rfl)) (SelL.arr0 (f := f32) (fun _ => rfl) rfl (SelL.arr0 (f := f32) (fun _ => rfl) rfl trivial))
   ·refine RunC.regionW ?_
    refine zM (r := oref 1 1 0 r1.length) rfl rfl rfl rfl rfl ?_
    refine ROps.d (r := optr 1 1 ((1 : Int).toNat)) (fs := []) (Γ' := [⟨1, some [nilsl, nilsl]⟩, ⟨1, some (r1.map str)⟩, ⟨1, some (r4.map f32)⟩, ⟨0, none⟩, ⟨0, none⟩, ⟨0, none⟩]) rfl rfl rfl (TOp.ixo und46 siz9 rfl rfl rfl (at_in he11 rfl) rfl) rfl ?_
    refine ROps.d (r := str e9) (fs := []) (Γ' := [⟨1, some [nilsl, nilsl]⟩, ⟨1, some (r1.map str)⟩, ⟨1, some (r4.map f32)⟩, ⟨0, none⟩, ⟨0, none⟩, ⟨0, none⟩]) rfl rfl rfl (TOp.load1_o rfl (at_cell he11) agg9 rfl rfl) rfl ?_
    refine ROps.d (r := tup [oref 3 1 0 r11.length, b r10]) (fs := [(3, (r11.map f32))]) (Γ' := [⟨1, some [nilsl, nilsl]⟩, ⟨1, some (r1.map str)⟩, ⟨1, some (r4.map f32)⟩, ⟨1, some (r11.map f32)⟩, ⟨0, none⟩, ⟨0, none⟩]) rfl rfl rfl (TOp.callBN (ls := [(r11.map f32)]) [3] (CallAs.func ent26 rfl rfl) (Bors.cons (Bor.pure rfl) Bors.nil) rfl (s_l01NRead_ok e9 r10 r11 hf12) (and_all (lts0_map (f := f32) (fun _ => rfl) _) rfl) (and_all (noss_map (f := f32) (fun _ => rfl) _) rfl) rfl (by decide) (ns_of ⟨⟨_, rfl⟩, trivial⟩)) rfl ?_
    refine zM (r := tup [oref 3 1 0 r11.length, b r10]) rfl rfl rfl rfl rfl ?_
    refine zL (r := oref 3 1 0 r11.length) rfl rfl rfl (LOp.extract rfl rfl rfl) ?_
    refine zL (r := b false) rfl rfl rfl (LOp.eqb (LOp.extract rfl rfl rfl) hc13) ?_
    refine zA (r := oref 3 1 0 r11.length) rfl rfl rfl rfl rfl ?_
    refine zA (r := b false) rfl rfl rfl rfl rfl ?_
    refine zN ?_
    refine RunC.wl (τ' := [(2, optr 0 1 0), (5, oref 2 1 0 r4.length), (6, b false), (7, oref 3 1 0 r11.length), (8, b false)]) (Γ' := [⟨1, some [nilsl, nilsl]⟩, ⟨1, none⟩, ⟨1, some (r4.map f32)⟩, ⟨1, some (r11.map f32)⟩, ⟨0, none⟩, ⟨0, none⟩]) ⟨aR, aR, aR, aR, aR, trivial⟩ ⟨⟨rfl, .inr rfl⟩, ⟨rfl, .inl rfl⟩, ⟨rfl, .inr rfl⟩, ⟨rfl, .inr rfl⟩, ⟨rfl, .inr rfl⟩, ⟨rfl, .inr rfl⟩, trivial⟩ ?_
    refine zQ ?_
    refine zM (r := oref 2 1 0 r4.length) rfl rfl rfl rfl rfl ?_
    refine zM (r := oref 3 1 0 r11.length) rfl rfl rfl rfl rfl ?_
    refine zL (r := agg [oref 2 1 0 r4.length, oref 3 1 0 r11.length]) rfl rfl rfl (LOp.build (qs := [(0, [oref 2 1 0 r4.length]), (1, [oref 3 1 0 r11.length])]) zer24 zok24 und24 plc24 rfl ⟨rfl, ⟨_, ALe.refl _, rfl⟩, ⟨rfl, ⟨_, ALe.refl _, rfl⟩, trivial⟩⟩ rfl) ?_
    refine ROps.d (r := optr 1 2 0) (fs := [(1, [nilsl, nilsl])]) (Γ' := [⟨1, some [nilsl, nilsl]⟩, ⟨2, some [nilsl, nilsl]⟩, ⟨1, some (r4.map f32)⟩, ⟨1, some (r11.map f32)⟩, ⟨0, none⟩, ⟨0, none⟩]) rfl rfl rfl (TOp.alloc_o (g := ⟨1, none⟩) 1 rfl zer24 zok24 rfl) rfl ?_
    refine ROps.store_le (r := agg [oref 2 1 0 r4.length, oref 3 1 0 r11.length]) (l' := [oref 2 1 0 r4.length, oref 3 1 0 r11.length]) (Γ' := [⟨1, some [nilsl, nilsl]⟩, ⟨2, some [oref 2 1 0 r4.length, oref 3 1 0 r11.length]⟩, ⟨1, some (r4.map f32)⟩, ⟨1, some (r11.map f32)⟩, ⟨0, none⟩, ⟨0, none⟩]) rfl siz24 rfl rfl rfl aR rfl rfl rfl rfl (Nat.le_of_ble_eq_true rfl) rfl rfl ?_
    refine zN ?_
    refine RunC.seq ?_
    refine zQ ?_
    refine zM (r := b false) rfl rfl rfl rfl rfl ?_
    refine zL (r := b true) rfl rfl rfl (LOp.eqb (LOp.not rfl rfl) rfl) ?_
    refine zM (r := b true) rfl rfl rfl rfl rfl ?_
    refine ROps.s rfl rfl rfl ?_
    refine ROps.s rfl rfl rfl ?_
    refine zL (r := b true) rfl rfl rfl (LOp.pick_true rfl rfl rfl) ?_
    refine zM (r := b true) rfl rfl rfl rfl rfl ?_
    refine ROps.s rfl rfl rfl ?_
    refine ROps.s rfl rfl rfl ?_
    refine zL (r := b true) rfl rfl rfl (LOp.pick_true rfl rfl rfl) ?_
    refine zN ?_
    refine RunC.wl (τ' := [(2, optr 0 1 0), (9, optr 1 2 0), (42, b true)]) (Γ' := [⟨1, some [nilsl, nilsl]⟩, ⟨2, some [oref 2 1 0 r4.length, oref 3 1 0 r11.length]⟩, ⟨1, some (r4.map f32)⟩, ⟨1, some (r11.map f32)⟩, ⟨0, none⟩, ⟨0, none⟩]) ⟨aR, aR, aR, trivial⟩ ⟨⟨rfl, .inr rfl⟩, ⟨rfl, .inr rfl⟩, ⟨rfl, .inr rfl⟩, ⟨rfl, .inr rfl⟩, ⟨rfl, .inr rfl⟩, ⟨rfl, .inr rfl⟩, trivial⟩ ?_
    refine RunC.cond_true rfl rfl ?_
    refine zQ ?_
    refine zL (r := agg [nilsl, nilsl]) rfl rfl rfl (LOp.build (qs := []) zer24 zok24 und24 plc24 rfl trivial rfl) ?_
    refine ROps.store_le (r := agg [nilsl, nilsl]) (l' := [nilsl, nilsl]) (Γ' := [⟨1, some [nilsl, nilsl]⟩, ⟨2, some [oref 2 1 0 r4.length, oref 3 1 0 r11.length]⟩, ⟨1, some (r4.map f32)⟩, ⟨1, some (r11.map f32)⟩, ⟨0, none⟩, ⟨0, none⟩]) rfl siz24 rfl rfl rfl aR rfl rfl rfl rfl (Nat.le_of_ble_eq_true rfl) rfl rfl ?_
    refine zA (r := b false) rfl rfl rfl rfl rfl ?_
    refine zN ?_
    refine RunC.nil_cell (l' := [oref 4 1 0 0, nilsl]) (Γ' := [⟨1, some [oref 4 1 0 0, nilsl]⟩, ⟨2, some [oref 2 1 0 r4.length, oref 3 1 0 r11.length]⟩, ⟨1, some (r4.map f32)⟩, ⟨1, some (r11.map f32)⟩, ⟨1, some (([] : List F).map f32)⟩, ⟨0, none⟩]) 0 0 4 rfl rfl rfl rfl rfl ?_
    refine RunC.nil_cell (l' := [oref 4 1 0 0, oref 5 1 0 0]) (Γ' := [⟨1, some [oref 4 1 0 0, oref 5 1 0 0]⟩, ⟨2, some [oref 2 1 0 r4.length, oref 3 1 0 r11.length]⟩, ⟨1, some (r4.map f32)⟩, ⟨1, some (r11.map f32)⟩, ⟨1, some (([] : List F).map f32)⟩, ⟨1, some (([] : List F).map f32)⟩]) 0 1 5 rfl rfl rfl rfl rfl ?_
    refine RunC.ret ?_
    have hq := Option.some.inj h
    obtain ⟨hq0, hq⟩ := Prod.mk.inj hq
    obtain ⟨hq1, hq⟩ := Prod.mk.inj hq
    subst q0
    subst q1
    subst q2
    exact bodyQ.mk (r' := tup [agg [oref 4 1 0 (([] : List F).length), oref 5 1 0 (([] : List F).length)], b false]) [(4, 1), (5, 1)] (.inr rfl) rfl (show List.Nodup [4, 5] from by decide) rfl rfl (Res.eq (Res.two rfl (RV.cell agg24 siz24 rfl rfl rfl rfl) (RV.tmp rfl)) (by rw [(show ([] : List F).length = 0 from rfl)] <;> rfl)) (SelL.arr0 (f := f32) (fun _ => rfl) rfl (SelL.arr0 (f := f32) (fun _ => rfl) rfl trivial))
noncomputable def s_ReadChain (a0 : ByteArray) : Option (Bool × (List F) × (List F)) :=
 obind3 (s_l08ReadChain a0) fun (r1 : Bool) (r2 : List F) (r3 : List F) =>
 some (r1, r2, r3)
theorem s_ReadChain_ok (a0 : ByteArray) (q0 : Bool) (q1 : List F) (q2 : List F) (h : s_ReadChain a0 = some (q0, q1, q2)) : Ev Tryz.prog 5 [str a0] [] (tup [agg [oref 0 0 0 q1.length, oref 1 0 0 q2.length], b q0]) [⟨0, some (q1.map f32)⟩, ⟨0, some (q2.map f32)⟩] := by
 refine Ev.start Tryz.func5 rfl rfl 3 (τ := [(0, str a0)]) rfl (Γ' := [⟨0, none⟩, ⟨0, none⟩, ⟨0, none⟩]) rfl (n := 17) rfl (g := 0) rfl (fun _ => rfl) ?_
 unfold s_ReadChain at h
 refine zQ ?_
 refine ROps.d (r := optr 0 1 0) (fs := [(0, [nilsl, nilsl])]) (Γ' := [⟨1, some [nilsl, nilsl]⟩, ⟨0, none⟩, ⟨0, none⟩]) rfl rfl rfl (TOp.alloc_o (g := ⟨0, none⟩) 0 rfl zer24 zok24 rfl) rfl ?_
 refine zA (r := b false) rfl rfl rfl rfl rfl ?_
 refine zN ?_
 refine RunC.seq ?_
 obtain ⟨r1, r2, r3, hf1, h⟩ := obind3_some h
 refine RunC.regionW ?_
 refine zM (r := str a0) rfl rfl rfl rfl rfl ?_
 refine ROps.d (r := tup [agg [oref 1 1 0 r2.length, oref 2 1 0 r3.length], b r1]) (fs := [(1, (r2.map f32)), (2, (r3.map f32))]) (Γ' := [⟨1, some [nilsl, nilsl]⟩, ⟨1, some (r2.map f32)⟩, ⟨1, some (r3.map f32)⟩]) rfl rfl rfl (TOp.callBN (ls := [(r2.map f32), (r3.map f32)]) [1, 2] (CallAs.func ent15 rfl rfl) (Bors.cons (Bor.pure rfl) Bors.nil) rfl (s_l08ReadChain_ok a0 r1 r2 r3 hf1) (and_all (lts0_map (f := f32) (fun _ => rfl) _) (and_all (lts0_map (f := f32) (fun _ => rfl) _) rfl)) (and_all (noss_map (f := f32) (fun _ => rfl) _) (and_all (noss_map (f := f32) (fun _ => rfl) _) rfl)) rfl (by decide) (ns_of ⟨⟨_, rfl⟩, ⟨_, rfl⟩, trivial⟩)) rfl ?_
 refine zL (r := agg [oref 1 1 0 r2.length, oref 2 1 0 r3.length]) rfl rfl rfl (LOp.extract rfl rfl rfl) ?_
 refine zL (r := b r1) rfl rfl rfl (LOp.extract rfl rfl rfl) ?_
 refine ROps.store_le (r := agg [oref 1 1 0 r2.length, oref 2 1 0 r3.length]) (l' := [oref 1 1 0 r2.length, oref 2 1 0 r3.length]) (Γ' := [⟨1, some [oref 1 1 0 r2.length, oref 2 1 0 r3.length]⟩, ⟨1, some (r2.map f32)⟩, ⟨1, some (r3.map f32)⟩]) rfl siz24 rfl rfl rfl aR rfl rfl rfl rfl (Nat.le_of_ble_eq_true rfl) rfl rfl ?_
 refine zA (r := b r1) rfl rfl rfl rfl rfl ?_
 refine zN ?_
 refine RunC.ret ?_
 have hq := Option.some.inj h
 obtain ⟨hq0, hq⟩ := Prod.mk.inj hq
 obtain ⟨hq1, hq⟩ := Prod.mk.inj hq
 subst q0
 subst q1
 subst q2
 exact bodyQ.mk (r' := tup [agg [oref 1 1 0 r2.length, oref 2 1 0 r3.length], b r1]) [(1, 1), (2, 1)] (.inr rfl) rfl (show List.Nodup [1, 2] from by decide) rfl rfl (Res.two rfl (RV.cell agg24 siz24 rfl rfl rfl rfl) (RV.tmp rfl)) (SelL.arr0 (f := f32) (fun _ => rfl) rfl (SelL.arr0 (f := f32) (fun _ => rfl) rfl trivial))
noncomputable def x_internal_stringslite_IndexByte (a0 : ByteArray) (a1 : Int) : Option (Int) :=
 some (idxB a0 a1)
theorem x_internal_stringslite_IndexByte_ok (a0 : ByteArray) (a1 : Int) (q0 : Int) (h : x_internal_stringslite_IndexByte a0 a1 = some q0) : Ev Tryz.prog 56 [str a0, ik .u8 a1] [] (i64 q0) [] := by
 refine Ev.start Tryz.func56 rfl rfl 0 (τ := [(0, str a0), (1, ik .u8 a1)]) rfl (Γ' := []) rfl (n := 17) rfl (g := 0) rfl (fun _ => rfl) ?_
 unfold x_internal_stringslite_IndexByte at h
 refine zQ ?_
 refine zA (r := i64 0) rfl rfl rfl rfl rfl ?_
 refine zN ?_
 refine zQ ?_
 refine zM (r := str a0) rfl rfl rfl rfl rfl ?_
 refine zM (r := ik .u8 a1) rfl rfl rfl rfl rfl ?_
 refine zL (r := i64 (idxB a0 a1)) rfl rfl rfl (LOp.idxB ext74 rfl rfl rfl) ?_
 refine zA (r := i64 (idxB a0 a1)) rfl rfl rfl rfl rfl ?_
 refine zN ?_
 refine RunC.ret ?_
 have hq := Option.some.inj h
 subst q0
 exact bodyQ.pure (.inr rfl) rfl (Res.one rfl (RV.tmp rfl))
noncomputable def x_internal_stringslite_Index (a0 : ByteArray) (a1 : ByteArray) : Option (Int) :=
 bsel (decide ((a1.size : Int) = 0)) (
  some 0) (
  bsel (eqs a1 a0) (
   some 0) (
   bsel (decide ((a1.size : Int) = 1)) (
    obind (sat? a1 0) fun (e1 : Int) =>
    obind (x_internal_stringslite_IndexByte a0 e1) fun (r2 : Int) =>
    some r2) (
    bsel (decide ((a0.size : Int) ≤ (a1.size : Int))) (
     some (-1)) (
     none))))
theorem x_internal_stringslite_Index_ok (a0 : ByteArray) (a1 : ByteArray) (q0 : Int) (h : x_internal_stringslite_Index a0 a1 = some q0) : Ev Tryz.prog 42 [str a0, str a1] [] (i64 q0) [] := by
 refine Ev.start Tryz.func42 rfl rfl 0 (τ := [(0, str a0), (1, str a1)]) rfl (Γ' := []) rfl (n := 287) rfl (g := 0) rfl (fun _ => rfl) ?_
 unfold x_internal_stringslite_Index at h
 refine zQ ?_
 refine zA (r := i64 0) rfl rfl rfl rfl rfl ?_
 refine zN ?_
 refine zQ ?_
 refine zM (r := str a1) rfl rfl rfl rfl rfl ?_
 refine zL (r := i64 (a1.size : Int)) rfl rfl rfl (LOp.len_str und9 rfl rfl) ?_
 refine zA (r := i64 (a1.size : Int)) rfl rfl rfl rfl rfl ?_
 refine zN ?_
 refine RunC.seq ?_
 refine RunC.block ?_
 refine RunC.seq ?_
 rcases bsel_some h with ⟨hc1, h⟩ | ⟨hc1, h⟩
 ·refine RunC.regionW ?_
  refine zM (r := i64 (a1.size : Int)) rfl rfl rfl rfl rfl ?_
  refine zL (r := b true) rfl rfl rfl (LOp.eqb (LOp.eql rfl rfl rfl) hc1) ?_
  refine zM (r := b true) rfl rfl rfl rfl rfl ?_
  refine ROps.s rfl rfl rfl ?_
  refine ROps.s rfl rfl rfl ?_
  refine ROps.s rfl rfl rfl ?_
  refine zL (r := b true) rfl rfl rfl (LOp.pick_true rfl rfl rfl) ?_
  refine zA (r := b true) rfl rfl rfl rfl rfl ?_
  refine zN ?_
  refine RunC.cond_true rfl rfl ?_
  refine zQ ?_
  refine zA (r := i64 0) rfl rfl rfl rfl rfl ?_
  refine zN ?_
  refine RunC.ret ?_
  have hq := Option.some.inj h
  subst q0
  exact bodyQ.pure (.inr rfl) rfl (Res.one rfl (RV.tmp rfl))
 ·rcases bsel_some h with ⟨hc2, h⟩ | ⟨hc2, h⟩
  ·refine RunC.regionW ?_
   refine zM (r := i64 (a1.size : Int)) rfl rfl rfl rfl rfl ?_
   refine zL (r := b false) rfl rfl rfl (LOp.eqb (LOp.eql rfl rfl rfl) hc1) ?_
   refine zM (r := b false) rfl rfl rfl rfl rfl ?_
   refine zM (r := str a1) rfl rfl rfl rfl rfl ?_
   refine zM (r := str a0) rfl rfl rfl rfl rfl ?_
   refine zL (r := b true) rfl rfl rfl (LOp.eqb (LOp.eqs rfl rfl rfl) hc2) ?_
   refine zL (r := b true) rfl rfl rfl (LOp.pick_false rfl rfl rfl) ?_
   refine zA (r := b true) rfl rfl rfl rfl rfl ?_
   refine zN ?_
   refine RunC.cond_true rfl rfl ?_
   refine zQ ?_
   refine zA (r := i64 0) rfl rfl rfl rfl rfl ?_
   refine zN ?_
   refine RunC.ret ?_
   have hq := Option.some.inj h
   subst q0
   exact bodyQ.pure (.inr rfl) rfl (Res.one rfl (RV.tmp rfl))
  ·refine RunC.regionW ?_
   refine zM (r := i64 (a1.size : Int)) rfl rfl rfl rfl rfl ?_
   refine zL (r := b false) rfl rfl rfl (LOp.eqb (LOp.eql rfl rfl rfl) hc1) ?_
   refine zM (r := b false) rfl rfl rfl rfl rfl ?_
   refine zM (r := str a1) rfl rfl rfl rfl rfl ?_
   refine zM (r := str a0) rfl rfl rfl rfl rfl ?_
   refine zL (r := b false) rfl rfl rfl (LOp.eqb (LOp.eqs rfl rfl rfl) hc2) ?_
   refine zL (r := b false) rfl rfl rfl (LOp.pick_false rfl rfl rfl) ?_
   refine zA (r := b false) rfl rfl rfl rfl rfl ?_
   refine zN ?_
   refine RunC.cond_false rfl rfl ?_
   refine RunC.seq ?_
   rcases bsel_some h with ⟨hc3, h⟩ | ⟨hc3, h⟩
   ·refine RunC.regionW ?_
    refine zM (r := i64 (a1.size : Int)) rfl rfl rfl rfl rfl ?_
    refine zL (r := b true) rfl rfl rfl (LOp.eqb (LOp.eql rfl rfl rfl) hc3) ?_
    refine zA (r := b true) rfl rfl rfl rfl rfl ?_
    refine zN ?_
    refine RunC.cond_true rfl rfl ?_
    refine RunC.seq ?_
    obtain ⟨e1, he4, h⟩ := obind_some h
    obtain ⟨r2, hf5, h⟩ := obind_some h
    refine RunC.regionW ?_
    refine zM (r := str a0) rfl rfl rfl rfl rfl ?_
    refine zM (r := str a1) rfl rfl rfl rfl rfl ?_
    refine zL (r := ik .u8 e1) rfl rfl rfl (LOp.index_str und9 rfl rfl rfl he4) ?_
    refine ROps.d (r := i64 r2) (fs := []) (Γ' := []) rfl rfl rfl (TOp.callB (CallAs.func ent56 rfl rfl) (Bors.cons (Bor.pure rfl) (Bors.cons (Bor.pure rfl) Bors.nil)) rfl rfl (x_internal_stringslite_IndexByte_ok a0 e1 r2 hf5)) rfl ?_
    refine zA (r := i64 r2) rfl rfl rfl rfl rfl ?_
    refine zN ?_
    refine RunC.ret ?_
    have hq := Option.some.inj h
    subst q0
    exact bodyQ.pure (.inr rfl) rfl (Res.one rfl (RV.tmp rfl))
   ·refine RunC.regionW ?_
    refine zM (r := i64 (a1.size : Int)) rfl rfl rfl rfl rfl ?_
    refine zL (r := b false) rfl rfl rfl (LOp.eqb (LOp.eql rfl rfl rfl) hc3) ?_
    refine zA (r := b false) rfl rfl rfl rfl rfl ?_
    refine zN ?_
    refine RunC.cond_false rfl rfl ?_
    refine RunC.seq ?_
    rcases bsel_some h with ⟨hc6, h⟩ | ⟨hc6, h⟩
    ·refine RunC.regionW ?_
     refine zM (r := i64 (a1.size : Int)) rfl rfl rfl rfl rfl ?_
     refine zM (r := str a0) rfl rfl rfl rfl rfl ?_
     refine zL (r := i64 (a0.size : Int)) rfl rfl rfl (LOp.len_str und9 rfl rfl) ?_
     refine zL (r := b true) rfl rfl rfl (LOp.eqb (LOp.geq rfl rfl rfl) hc6) ?_
     refine zA (r := b true) rfl rfl rfl rfl rfl ?_
     refine zN ?_
     refine RunC.cond_true rfl rfl ?_
     refine zQ ?_
     refine zA (r := i64 (-1)) rfl rfl rfl rfl rfl ?_
     refine zN ?_
     refine RunC.ret ?_
     have hq := Option.some.inj h
     subst q0
     exact bodyQ.pure (.inr rfl) rfl (Res.one rfl (RV.tmp rfl))
    ·refine RunC.regionW ?_
     refine zM (r := i64 (a1.size : Int)) rfl rfl rfl rfl rfl ?_
     refine zM (r := str a0) rfl rfl rfl rfl rfl ?_
     refine zL (r := i64 (a0.size : Int)) rfl rfl rfl (LOp.len_str und9 rfl rfl) ?_
     refine zL (r := b false) rfl rfl rfl (LOp.eqb (LOp.geq rfl rfl rfl) hc6) ?_
     refine zA (r := b false) rfl rfl rfl rfl rfl ?_
     refine zN ?_
     refine RunC.cond_false rfl rfl ?_
     refine RunC.seq ?_
     cases h
noncomputable def x_internal_stringslite_Cut (a0 : ByteArray) (a1 : ByteArray) : Option (ByteArray × ByteArray × Bool) :=
 obind (x_internal_stringslite_Index a0 a1) fun (r1 : Int) =>
 bsel (decide (0 ≤ r1)) (
  obind (subs? a0 0 r1) fun (t2 : ByteArray) =>
  olet (IntKind.i64.wrap (r1 + (a1.size : Int))) fun (x3 : Int) =>
  obind (subs? a0 x3 (a0.size : Int)) fun (t4 : ByteArray) =>
  some (t2, t4, true)) (
  some (a0, lit_99ba06bc, false))
theorem x_internal_stringslite_Cut_ok (a0 : ByteArray) (a1 : ByteArray) (q0 : ByteArray) (q1 : ByteArray) (q2 : Bool) (h : x_internal_stringslite_Cut a0 a1 = some (q0, q1, q2)) : Ev Tryz.prog 28 [str a0, str a1] [] (tup [str q0, str q1, b q2]) [] := by
 refine Ev.start Tryz.func28 rfl rfl 0 (τ := [(0, str a0), (1, str a1)]) rfl (Γ' := []) rfl (n := 47) rfl (g := 0) rfl (fun _ => rfl) ?_
 unfold x_internal_stringslite_Cut at h
 refine zQ ?_
 refine zA (r := str lit_99ba06bc) rfl rfl rfl rfl rfl ?_
 refine zA (r := str lit_99ba06bc) rfl rfl rfl rfl rfl ?_
 refine zA (r := b false) rfl rfl rfl rfl rfl ?_
 refine zN ?_
 refine RunC.seq ?_
 refine RunC.seq ?_
 obtain ⟨r1, hf1, h⟩ := obind_some h
 refine RunC.regionW ?_
 refine zM (r := str a0) rfl rfl rfl rfl rfl ?_
 refine zM (r := str a1) rfl rfl rfl rfl rfl ?_
 refine ROps.d (r := i64 r1) (fs := []) (Γ' := []) rfl rfl rfl (TOp.callB (CallAs.func ent42 rfl rfl) (Bors.cons (Bor.pure rfl) (Bors.cons (Bor.pure rfl) Bors.nil)) rfl rfl (x_internal_stringslite_Index_ok a0 a1 r1 hf1)) rfl ?_
 refine zA (r := i64 r1) rfl rfl rfl rfl rfl ?_
 refine zN ?_
 refine RunC.seq ?_
 rcases bsel_some h with ⟨hc2, h⟩ | ⟨hc2, h⟩
 ·refine RunC.regionW ?_
  refine zM (r := i64 r1) rfl rfl rfl rfl rfl ?_
  refine zL (r := b true) rfl rfl rfl (LOp.eqb (LOp.geq rfl rfl rfl) hc2) ?_
  refine zN ?_
  refine RunC.cond_true rfl rfl ?_
  refine RunC.seq ?_
  obtain ⟨t2, hs3, h⟩ := obind_some h
  obtain ⟨x3, hx4, h⟩ := olet_some h
  obtain ⟨t4, hs5, h⟩ := obind_some h
  refine RunC.region_draw (Γ' := []) 12 mixed 
   (TR.l (r := str a0) rfl rfl (LOp.move rfl rfl) <|
   (TR.l (r := i64 r1) rfl rfl (LOp.move rfl rfl) <|
   (TR.l (r := str t2) rfl rfl (LOp.subs_hi und9 rfl rfl rfl hs3) <|
   (TR.l (r := str a0) rfl rfl (LOp.move rfl rfl) <|
   (TR.l (r := i64 r1) rfl rfl (LOp.move rfl rfl) <|
   (TR.l (r := str a1) rfl rfl (LOp.move rfl rfl) <|
   (TR.l (r := i64 (a1.size : Int)) rfl rfl (LOp.len_str und9 rfl rfl) <|
   (TR.l (r := i64 x3) rfl rfl (LOp.eqr (LOp.add rfl rfl rfl) (congrArg (ik .i64) hx4)) <|
   (TR.l (r := str t4) rfl rfl (LOp.subs_lo und9 rfl rfl rfl hs5) <|
   (TR.l (r := str t2) rfl rfl (LOp.assign rfl rfl) <|
   (TR.l (r := str t4) rfl rfl (LOp.assign rfl rfl) <|
   (TR.l (r := b true) rfl rfl (LOp.assign rfl rfl) <|
   TR.nil)))))))))))) rfl (by kernel_rfl) rfl fills_nil rfl ?_
  iterate 12 refine ROps.dropS ?_
  refine ROps.drop0 ?_
  refine zN ?_
  refine RunC.ret ?_
  have hq := Option.some.inj h
  obtain ⟨hq0, hq⟩ := Prod.mk.inj hq
  obtain ⟨hq1, hq⟩ := Prod.mk.inj hq
  subst q0
  subst q1
  subst q2
  exact bodyQ.pure (.inr rfl) rfl (Res.three rfl (RV.tmp rfl) (RV.tmp rfl) (RV.tmp rfl))
 ·refine RunC.regionW ?_
  refine zM (r := i64 r1) rfl rfl rfl rfl rfl ?_
  refine zL (r := b false) rfl rfl rfl (LOp.eqb (LOp.geq rfl rfl rfl) hc2) ?_
  refine zN ?_
  refine RunC.cond_false rfl rfl ?_
  refine RunC.skip ?_
  refine zQ ?_
  refine zM (r := str a0) rfl rfl rfl rfl rfl ?_
  refine zA (r := str a0) rfl rfl rfl rfl rfl ?_
  refine zA (r := str lit_99ba06bc) rfl rfl rfl rfl rfl ?_
  refine zA (r := b false) rfl rfl rfl rfl rfl ?_
  refine zN ?_
  refine RunC.ret ?_
  have hq := Option.some.inj h
  obtain ⟨hq0, hq⟩ := Prod.mk.inj hq
  obtain ⟨hq1, hq⟩ := Prod.mk.inj hq
  subst q0
  subst q1
  subst q2
  exact bodyQ.pure (.inr rfl) rfl (Res.three rfl (RV.tmp rfl) (RV.tmp rfl) (RV.tmp rfl))
noncomputable def x_strings_Cut (a0 : ByteArray) (a1 : ByteArray) : Option (ByteArray × ByteArray × Bool) :=
 obind3 (x_internal_stringslite_Cut a0 a1) fun (r1 : ByteArray) (r2 : ByteArray) (r3 : Bool) =>
 some (r1, r2, r3)
theorem x_strings_Cut_ok (a0 : ByteArray) (a1 : ByteArray) (q0 : ByteArray) (q1 : ByteArray) (q2 : Bool) (h : x_strings_Cut a0 a1 = some (q0, q1, q2)) : Ev Tryz.prog 16 [str a0, str a1] [] (tup [str q0, str q1, b q2]) [] := by
 refine Ev.start Tryz.func16 rfl rfl 0 (τ := [(0, str a0), (1, str a1)]) rfl (Γ' := []) rfl (n := 27) rfl (g := 0) rfl (fun _ => rfl) ?_
 unfold x_strings_Cut at h
 refine zQ ?_
 refine zA (r := str lit_99ba06bc) rfl rfl rfl rfl rfl ?_
 refine zA (r := str lit_99ba06bc) rfl rfl rfl rfl rfl ?_
 refine zA (r := b false) rfl rfl rfl rfl rfl ?_
 refine zN ?_
 refine RunC.seq ?_
 obtain ⟨r1, r2, r3, hf1, h⟩ := obind3_some h
 refine RunC.regionW ?_
 refine zM (r := str a0) rfl rfl rfl rfl rfl ?_
 refine zM (r := str a1) rfl rfl rfl rfl rfl ?_
 refine ROps.d (r := tup [str r1, str r2, b r3]) (fs := []) (Γ' := []) rfl rfl rfl (TOp.callB (CallAs.func ent28 rfl rfl) (Bors.cons (Bor.pure rfl) (Bors.cons (Bor.pure rfl) Bors.nil)) rfl rfl (x_internal_stringslite_Cut_ok a0 a1 r1 r2 r3 hf1)) rfl ?_
 refine zL (r := str r1) rfl rfl rfl (LOp.extract rfl rfl rfl) ?_
 refine zL (r := str r2) rfl rfl rfl (LOp.extract rfl rfl rfl) ?_
 refine zL (r := b r3) rfl rfl rfl (LOp.extract rfl rfl rfl) ?_
 refine zA (r := str r1) rfl rfl rfl rfl rfl ?_
 refine zA (r := str r2) rfl rfl rfl rfl rfl ?_
 refine zA (r := b r3) rfl rfl rfl rfl rfl ?_
 refine zN ?_
 refine RunC.ret ?_
 have hq := Option.some.inj h
 obtain ⟨hq0, hq⟩ := Prod.mk.inj hq
 obtain ⟨hq1, hq⟩ := Prod.mk.inj hq
 subst q0
 subst q1
 subst q2
 exact bodyQ.pure (.inr rfl) rfl (Res.three rfl (RV.tmp rfl) (RV.tmp rfl) (RV.tmp rfl))
noncomputable def x_strings_Index (a0 : ByteArray) (a1 : ByteArray) : Option (Int) :=
 obind (x_internal_stringslite_Index a0 a1) fun (r1 : Int) =>
 some r1
theorem x_strings_Index_ok (a0 : ByteArray) (a1 : ByteArray) (q0 : Int) (h : x_strings_Index a0 a1 = some q0) : Ev Tryz.prog 62 [str a0, str a1] [] (i64 q0) [] := by
 refine Ev.start Tryz.func62 rfl rfl 0 (τ := [(0, str a0), (1, str a1)]) rfl (Γ' := []) rfl (n := 17) rfl (g := 0) rfl (fun _ => rfl) ?_
 unfold x_strings_Index at h
 refine zQ ?_
 refine zA (r := i64 0) rfl rfl rfl rfl rfl ?_
 refine zN ?_
 refine RunC.seq ?_
 obtain ⟨r1, hf1, h⟩ := obind_some h
 refine RunC.regionW ?_
 refine zM (r := str a0) rfl rfl rfl rfl rfl ?_
 refine zM (r := str a1) rfl rfl rfl rfl rfl ?_
 refine ROps.d (r := i64 r1) (fs := []) (Γ' := []) rfl rfl rfl (TOp.callB (CallAs.func ent42 rfl rfl) (Bors.cons (Bor.pure rfl) (Bors.cons (Bor.pure rfl) Bors.nil)) rfl rfl (x_internal_stringslite_Index_ok a0 a1 r1 hf1)) rfl ?_
 refine zA (r := i64 r1) rfl rfl rfl rfl rfl ?_
 refine zN ?_
 refine RunC.ret ?_
 have hq := Option.some.inj h
 subst q0
 exact bodyQ.pure (.inr rfl) rfl (Res.one rfl (RV.tmp rfl))
noncomputable def x_strings_Count_b1 (a1 : ByteArray) (s2 : ByteArray) (v3 : Int) : Option (LR (ByteArray × Int) (Unit) (Int)) :=
 obind (x_strings_Index s2 a1) fun (r4 : Int) =>
 bsel (decide (r4 = (-1))) (
  some (LR.ret v3)) (
  olet (IntKind.i64.wrap (v3 + 1)) fun (x5 : Int) =>
  olet (IntKind.i64.wrap (r4 + (a1.size : Int))) fun (x6 : Int) =>
  obind (subs? s2 x6 (s2.size : Int)) fun (t7 : ByteArray) =>
  some (LR.next (t7, x5)))
noncomputable def x_strings_Count_s1 (a1 : ByteArray) : (ByteArray × Int) → Option (LR (ByteArray × Int) (Unit) (Int)) := fun s => x_strings_Count_b1 a1 s.1 s.2
noncomputable def x_strings_Count (a0 : ByteArray) (a1 : ByteArray) : Option (Int) :=
 bsel (decide ((a1.size : Int) = 0)) (
  none) (
  bsel (decide ((a1.size : Int) = 1)) (
   obind (sat? a1 0) fun (e1 : Int) =>
   some (cntB a0 e1)) (
   obind (loopM (x_strings_Count_s1 a1) (a0, 0)) fun z => osum z (fun _ => none) (fun r => some r)))
theorem x_strings_Count_ok (a0 : ByteArray) (a1 : ByteArray) (q0 : Int) (h : x_strings_Count a0 a1 = some q0) : Ev Tryz.prog 61 [str a0, str a1] [] (i64 q0) [] := by
 refine Ev.start Tryz.func61 rfl rfl 0 (τ := [(0, str a0), (1, str a1)]) rfl (Γ' := []) rfl (n := 69) rfl (g := 0) rfl (fun _ => rfl) ?_
 unfold x_strings_Count at h
 refine zQ ?_
 refine zA (r := i64 0) rfl rfl rfl rfl rfl ?_
 refine zN ?_
 refine RunC.seq ?_
 refine RunC.seq ?_
 rcases bsel_some h with ⟨hc1, h⟩ | ⟨hc1, h⟩
 ·refine RunC.regionW ?_
  refine zM (r := str a1) rfl rfl rfl rfl rfl ?_
  refine zL (r := i64 (a1.size : Int)) rfl rfl rfl (LOp.len_str und9 rfl rfl) ?_
  refine zL (r := b true) rfl rfl rfl (LOp.eqb (LOp.eql rfl rfl rfl) hc1) ?_
  refine zN ?_
  refine RunC.cond_true rfl rfl ?_
  refine RunC.seq ?_
  cases h
 ·refine RunC.regionW ?_
  refine zM (r := str a1) rfl rfl rfl rfl rfl ?_
  refine zL (r := i64 (a1.size : Int)) rfl rfl rfl (LOp.len_str und9 rfl rfl) ?_
  refine zL (r := b false) rfl rfl rfl (LOp.eqb (LOp.eql rfl rfl rfl) hc1) ?_
  refine zN ?_
  refine RunC.cond_false rfl rfl ?_
  refine RunC.skip ?_
  refine RunC.seq ?_
  refine RunC.seq ?_
  rcases bsel_some h with ⟨hc2, h⟩ | ⟨hc2, h⟩
  ·refine RunC.regionW ?_
   refine zM (r := str a1) rfl rfl rfl rfl rfl ?_
   refine zL (r := i64 (a1.size : Int)) rfl rfl rfl (LOp.len_str und9 rfl rfl) ?_
   refine zL (r := b true) rfl rfl rfl (LOp.eqb (LOp.eql rfl rfl rfl) hc2) ?_
   refine zN ?_
   refine RunC.cond_true rfl rfl ?_
   refine RunC.seq ?_
   obtain ⟨e1, he3, h⟩ := obind_some h
   refine RunC.regionW ?_
   refine zM (r := str a0) rfl rfl rfl rfl rfl ?_
   refine zM (r := str a1) rfl rfl rfl rfl rfl ?_
   refine zL (r := ik .u8 e1) rfl rfl rfl (LOp.index_str und9 rfl rfl rfl he3) ?_
   refine zL (r := i64 (cntB a0 e1)) rfl rfl rfl (LOp.cntB ext78 rfl rfl rfl) ?_
   refine zA (r := i64 (cntB a0 e1)) rfl rfl rfl rfl rfl ?_
   refine zN ?_
   refine RunC.ret ?_
   have hq := Option.some.inj h
   subst q0
   exact bodyQ.pure (.inr rfl) rfl (Res.one rfl (RV.tmp rfl))
  ·refine RunC.regionW ?_
   refine zM (r := str a1) rfl rfl rfl rfl rfl ?_
   refine zL (r := i64 (a1.size : Int)) rfl rfl rfl (LOp.len_str und9 rfl rfl) ?_
   refine zL (r := b false) rfl rfl rfl (LOp.eqb (LOp.eql rfl rfl rfl) hc2) ?_
   refine zN ?_
   refine RunC.cond_false rfl rfl ?_
   refine RunC.skip ?_
   refine zQ ?_
   refine zA (r := i64 0) rfl rfl rfl rfl rfl ?_
   refine zN ?_
   obtain ⟨z2, hz_2, h⟩ := obind_some h
   refine RunC.block (RunC.loop (RunL.loopM (x := z2) (x_strings_Count_s1 a1) (fun (s : ByteArray × Int) τ Γ => WeakLe τ [(0, str s.1), (1, str a1), (5, i64 s.2)] ∧ DeadLe Γ []) ?_ _ _ _ hz_2 ⟨⟨aR, aR, aR, trivial⟩, trivial⟩))
   rintro ⟨s2, v3⟩ τ2 Γ2 y2_ ⟨hw2, hd2⟩ h2_ ho2 hr2
   refine RunC.wl (τ' := [(0, str s2), (1, str a1), (5, i64 v3)]) (Γ' := []) hw2 hd2 ?_
   replace h2_ : x_strings_Count_b1 a1 s2 v3 = some y2_ := h2_
   unfold x_strings_Count_b1 at h2_
   refine RunC.block ?_
   refine RunC.seq ?_
   obtain ⟨r4, hf4, h2_⟩ := obind_some h2_
   refine RunC.regionW ?_
   refine zM (r := str s2) rfl rfl rfl rfl rfl ?_
   refine zM (r := str a1) rfl rfl rfl rfl rfl ?_
   refine ROps.d (r := i64 r4) (fs := []) (Γ' := []) rfl rfl rfl (TOp.callB (CallAs.func ent62 rfl rfl) (Bors.cons (Bor.pure rfl) (Bors.cons (Bor.pure rfl) Bors.nil)) rfl rfl (x_strings_Index_ok s2 a1 r4 hf4)) rfl ?_
   refine zA (r := i64 r4) rfl rfl rfl rfl rfl ?_
   refine zN ?_
   refine RunC.seq ?_
   refine RunC.seq ?_
   rcases bsel_some h2_ with ⟨hc5, h2_⟩ | ⟨hc5, h2_⟩
   ·refine RunC.regionW ?_
    refine zM (r := i64 r4) rfl rfl rfl rfl rfl ?_
    refine zL (r := b true) rfl rfl rfl (LOp.eqb (LOp.eql rfl rfl rfl) hc5) ?_
    refine zN ?_
    refine RunC.cond_true rfl rfl ?_
    refine zQ ?_
    refine zM (r := i64 v3) rfl rfl rfl rfl rfl ?_
    refine zA (r := i64 v3) rfl rfl rfl rfl rfl ?_
    refine zN ?_
    refine RunC.ret ?_
    cases Option.some.inj h2_
    have hx3_ := hr2 _ rfl
    subst hx3_
    have hq := Option.some.inj h
    subst q0
    exact bodyQ.pure (.inr rfl) rfl (Res.one rfl (RV.tmp rfl))
   ·refine RunC.regionW ?_
    refine zM (r := i64 r4) rfl rfl rfl rfl rfl ?_
    refine zL (r := b false) rfl rfl rfl (LOp.eqb (LOp.eql rfl rfl rfl) hc5) ?_
    refine zN ?_
    refine RunC.cond_false rfl rfl ?_
    refine RunC.skip ?_
    refine RunC.seq ?_
    obtain ⟨x5, hx6, h2_⟩ := olet_some h2_
    refine RunC.regionW ?_
    refine zM (r := i64 v3) rfl rfl rfl rfl rfl ?_
    refine zL (r := i64 x5) rfl rfl rfl (LOp.eqr (LOp.add rfl rfl rfl) (congrArg (ik .i64) hx6)) ?_
    refine zA (r := i64 x5) rfl rfl rfl rfl rfl ?_
    refine zN ?_
    obtain ⟨x6, hx7, h2_⟩ := olet_some h2_
    obtain ⟨t7, hs8, h2_⟩ := obind_some h2_
    refine RunC.regionW ?_
    refine zM (r := str s2) rfl rfl rfl rfl rfl ?_
    refine zM (r := i64 r4) rfl rfl rfl rfl rfl ?_
    refine zM (r := str a1) rfl rfl rfl rfl rfl ?_
    refine zL (r := i64 (a1.size : Int)) rfl rfl rfl (LOp.len_str und9 rfl rfl) ?_
    refine zL (r := i64 x6) rfl rfl rfl (LOp.eqr (LOp.add rfl rfl rfl) (congrArg (ik .i64) hx7)) ?_
    refine zL (r := str t7) rfl rfl rfl (LOp.subs_lo und9 rfl rfl rfl hs8) ?_
    refine zA (r := str t7) rfl rfl rfl rfl rfl ?_
    refine zN ?_
    cases Option.some.inj h2_
    exact ⟨_, rfl, ⟨aR, aR, aR, trivial⟩, trivial⟩
noncomputable def x_strings_genSplit_b2 (a1 : ByteArray) (a2 : Int) (x5 : Int) (L6 : List ByteArray) (s8 : ByteArray) (v9 : Int) : Option (LR ((List ByteArray) × ByteArray × Int) ((List ByteArray) × ByteArray × Int) ((List ByteArray))) :=
 bsel (decide (v9 < x5)) (
  obind (x_strings_Index s8 a1) fun (r10 : Int) =>
  bsel (decide (r10 < 0)) (
   some (LR.out (L6, s8, v9))) (
   olet (IntKind.i64.wrap (r10 + a2)) fun (x11 : Int) =>
   obind (subs? s8 0 x11) fun (t12 : ByteArray) =>
   obind (setAt? L6 v9 t12) fun (L13 : List ByteArray) =>
   olet (IntKind.i64.wrap (r10 + (a1.size : Int))) fun (x14 : Int) =>
   obind (subs? s8 x14 (s8.size : Int)) fun (t15 : ByteArray) =>
   olet (IntKind.i64.wrap (v9 + 1)) fun (x16 : Int) =>
   some (LR.next (L13, t15, x16)))) (
  some (LR.out (L6, s8, v9)))
noncomputable def x_strings_genSplit_s2 (a1 : ByteArray) (a2 : Int) (x5 : Int) : ((List ByteArray) × ByteArray × Int) → Option (LR ((List ByteArray) × ByteArray × Int) ((List ByteArray) × ByteArray × Int) ((List ByteArray))) := fun s => x_strings_genSplit_b2 a1 a2 x5 s.1 s.2.1 s.2.2
noncomputable def x_strings_genSplit_k2 (L17 : List ByteArray) (s19 : ByteArray) (v20 : Int) : Option ((List ByteArray)) :=
 obind (setAt? L17 v20 s19) fun (L21 : List ByteArray) =>
 olet (IntKind.i64.wrap (v20 + 1)) fun (x22 : Int) =>
 obind (sub? L21 0 x22) fun (L23 : List ByteArray) =>
 some L23
noncomputable def x_strings_genSplit_k1 (a0 : ByteArray) (a1 : ByteArray) (a2 : Int) (v3 : Int) : Option ((List ByteArray)) :=
 olet (IntKind.i64.wrap ((a0.size : Int) + 1)) fun (x4 : Int) =>
 need (mkok 16 (imin v3 x4)) <|
 olet (IntKind.i64.wrap ((imin v3 x4) - 1)) fun (x5 : Int) =>
 obind (loopM (x_strings_genSplit_s2 a1 a2 x5) ((List.replicate (imin v3 x4).toNat lit_99ba06bc), a0, 0)) fun z => osum z (fun e => x_strings_genSplit_k2 e.1 e.2.1 e.2.2) (fun r => some r)
noncomputable def x_strings_genSplit (a0 : ByteArray) (a1 : ByteArray) (a2 : Int) (a3 : Int) : Option ((List ByteArray)) :=
 bsel (decide (a3 = 0)) (
  some ([] : List ByteArray)) (
  bsel (eqs a1 lit_99ba06bc) (
   none) (
   bsel (decide (a3 < 0)) (
    obind (x_strings_Count a0 a1) fun (r1 : Int) =>
    olet (IntKind.i64.wrap (r1 + 1)) fun (x2 : Int) =>
    x_strings_genSplit_k1 a0 a1 a2 x2) (
    x_strings_genSplit_k1 a0 a1 a2 a3)))
theorem x_strings_genSplit_ok (a0 : ByteArray) (a1 : ByteArray) (a2 : Int) (a3 : Int) (q0 : List ByteArray) (h : x_strings_genSplit a0 a1 a2 a3 = some q0) : Ev Tryz.prog 43 [str a0, str a1, i64 a2, i64 a3] [] (oref 0 0 0 q0.length) [⟨0, some (q0.map str)⟩] := by
 refine Ev.start Tryz.func43 rfl rfl 1 (τ := [(0, str a0), (1, str a1), (2, i64 a2), (3, i64 a3)]) rfl (Γ' := [⟨0, none⟩]) rfl (n := 133) rfl (g := 0) rfl (fun _ => rfl) ?_
 unfold x_strings_genSplit at h
 refine zQ ?_
 refine zA (r := nilsl) rfl rfl rfl rfl rfl ?_
 refine zN ?_
 refine RunC.seq ?_
 refine RunC.seq ?_
 rcases bsel_some h with ⟨hc1, h⟩ | ⟨hc1, h⟩
 ·refine RunC.regionW ?_
  refine zM (r := i64 a3) rfl rfl rfl rfl rfl ?_
  refine zL (r := b true) rfl rfl rfl (LOp.eqb (LOp.eql rfl rfl rfl) hc1) ?_
  refine zN ?_
  refine RunC.cond_true rfl rfl ?_
  refine zQ ?_
  refine zA (r := nilsl) rfl rfl rfl rfl rfl ?_
  refine zN ?_
  refine RunC.nil_slot (Γ' := [⟨1, some (([] : List ByteArray).map str)⟩]) 8 0 rfl rfl rfl ?_
  refine RunC.ret ?_
  have hq := Option.some.inj h
  subst q0
  exact bodyQ.mk (r' := oref 0 1 0 (([] : List ByteArray).length)) [(0, 1)] (.inr rfl) rfl (show List.Nodup [0] from by decide) rfl rfl (Res.eq (Res.one rfl (RV.tmp rfl)) (by rw [(show ([] : List ByteArray).length = 0 from rfl)] <;> rfl)) (SelL.arr0 (f := str) (fun _ => rfl) rfl trivial)
 ·refine RunC.regionW ?_
  refine zM (r := i64 a3) rfl rfl rfl rfl rfl ?_
  refine zL (r := b false) rfl rfl rfl (LOp.eqb (LOp.eql rfl rfl rfl) hc1) ?_
  refine zN ?_
  refine RunC.cond_false rfl rfl ?_
  refine RunC.skip ?_
  refine RunC.seq ?_
  refine RunC.seq ?_
  rcases bsel_some h with ⟨hc2, h⟩ | ⟨hc2, h⟩
  ·refine RunC.regionW ?_
   refine zM (r := str a1) rfl rfl rfl rfl rfl ?_
   refine zL (r := b true) rfl rfl rfl (LOp.eqb (LOp.eqs rfl rfl rfl) hc2) ?_
   refine zN ?_
   refine RunC.cond_true rfl rfl ?_
   refine RunC.seq ?_
   cases h
  ·refine RunC.regionW ?_
   refine zM (r := str a1) rfl rfl rfl rfl rfl ?_
   refine zL (r := b false) rfl rfl rfl (LOp.eqb (LOp.eqs rfl rfl rfl) hc2) ?_
   refine zN ?_
   refine RunC.cond_false rfl rfl ?_
   refine RunC.skip ?_
   refine RunC.seq ?_
   refine RunC.cutN (fun τ Γ => ∃ (v3 : Int), WeakLe τ [(0, str a0), (1, str a1), (2, i64 a2), (3, i64 v3)] ∧ DeadLe Γ [⟨0, none⟩] ∧ x_strings_genSplit_k1 a0 a1 a2 v3 = some q0) ?_ ?_
   ·refine RunC.seq ?_
    rcases bsel_some h with ⟨hc3, h⟩ | ⟨hc3, h⟩
    ·refine RunC.regionW ?_
     refine zM (r := i64 a3) rfl rfl rfl rfl rfl ?_
     refine zL (r := b true) rfl rfl rfl (LOp.eqb (LOp.lss rfl rfl rfl) hc3) ?_
     refine zN ?_
     refine RunC.cond_true rfl rfl ?_
     obtain ⟨r1, hf4, h⟩ := obind_some h
     obtain ⟨x2, hx5, h⟩ := olet_some h
     refine RunC.regionW ?_
     refine zM (r := str a0) rfl rfl rfl rfl rfl ?_
     refine zM (r := str a1) rfl rfl rfl rfl rfl ?_
     refine ROps.d (r := i64 r1) (fs := []) (Γ' := [⟨0, none⟩]) rfl rfl rfl (TOp.callB (CallAs.func ent61 rfl rfl) (Bors.cons (Bor.pure rfl) (Bors.cons (Bor.pure rfl) Bors.nil)) rfl rfl (x_strings_Count_ok a0 a1 r1 hf4)) rfl ?_
     refine zL (r := i64 x2) rfl rfl rfl (LOp.eqr (LOp.add rfl rfl rfl) (congrArg (ik .i64) hx5)) ?_
     refine zA (r := i64 x2) rfl rfl rfl rfl rfl ?_
     refine zN ?_
     exact ⟨x2, ⟨aR, aR, aR, aR, trivial⟩, ⟨⟨rfl, .inr rfl⟩, trivial⟩, h⟩
    ·refine RunC.regionW ?_
     refine zM (r := i64 a3) rfl rfl rfl rfl rfl ?_
     refine zL (r := b false) rfl rfl rfl (LOp.eqb (LOp.lss rfl rfl rfl) hc3) ?_
     refine zN ?_
     refine RunC.cond_false rfl rfl ?_
     refine RunC.skip ?_
     exact ⟨a3, ⟨aR, aR, aR, aR, trivial⟩, ⟨⟨rfl, .inr rfl⟩, trivial⟩, h⟩
   ·rintro τ3 Γ3 ⟨v3, hw3, hd3, h⟩
    refine RunC.wl hw3 hd3 ?_
    unfold x_strings_genSplit_k1 at h
    refine RunC.seq ?_
    obtain ⟨x4, hx6, h⟩ := olet_some h
    refine RunC.regionW ?_
    refine zM (r := i64 v3) rfl rfl rfl rfl rfl ?_
    refine zM (r := str a0) rfl rfl rfl rfl rfl ?_
    refine zL (r := i64 (a0.size : Int)) rfl rfl rfl (LOp.len_str und9 rfl rfl) ?_
    refine zL (r := i64 x4) rfl rfl rfl (LOp.eqr (LOp.add rfl rfl rfl) (congrArg (ik .i64) hx6)) ?_
    refine zL (r := i64 (imin v3 x4)) rfl rfl rfl (LOp.min2 rfl rfl rfl) ?_
    refine zA (r := i64 (imin v3 x4)) rfl rfl rfl rfl rfl ?_
    refine zN ?_
    refine RunC.seq ?_
    obtain ⟨hm7, h⟩ := need_some h
    refine RunC.regionW ?_
    refine zM (r := i64 (imin v3 x4)) rfl rfl rfl rfl rfl ?_
    refine ROps.d (r := oref 0 1 0 ((imin v3 x4).toNat)) (fs := [(0, ((List.replicate (imin v3 x4).toNat lit_99ba06bc).map str))]) (Γ' := [⟨1, some ((List.replicate (imin v3 x4).toNat lit_99ba06bc).map str)⟩]) rfl rfl rfl (TOp.mkS (g := ⟨0, none⟩) (t := 46) (e := 9) (by_ := 16) (f := str) (zv := lit_99ba06bc) 0 rfl und46 tin9 rfl siz9 zer9 rfl zel9 rfl rfl rfl hm7) rfl ?_
    refine zA (r := oref 0 1 0 ((imin v3 x4).toNat)) rfl rfl rfl rfl rfl ?_
    refine zN ?_
    refine RunC.seq ?_
    obtain ⟨x5, hx8, h⟩ := olet_some h
    refine RunC.regionW ?_
    refine zM (r := i64 (imin v3 x4)) rfl rfl rfl rfl rfl ?_
    refine zL (r := i64 x5) rfl rfl rfl (LOp.eqr (LOp.sub rfl rfl rfl) (congrArg (ik .i64) hx8)) ?_
    refine zA (r := i64 x5) rfl rfl rfl rfl rfl ?_
    refine zN ?_
    refine zQ ?_
    refine zA (r := i64 0) rfl rfl rfl rfl rfl ?_
    refine zN ?_
    refine RunC.seq ?_
    obtain ⟨z4, hz_4, h⟩ := obind_some h
    refine RunC.cutN (fun τ Γ => ∃ (L17 : List ByteArray) (s19 : ByteArray) (v20 : Int), L17.length = (imin v3 x4).toNat ∧ WeakLe τ [(0, str s19), (9, oref 0 1 0 ((imin v3 x4).toNat)), (10, i64 v20)] ∧ DeadLe Γ [⟨1, some (L17.map str)⟩] ∧ z4 = .inl (L17, s19, v20)) ?_ ?_
    ·refine RunC.block (RunC.loop (RunL.loopM (x := z4) (x_strings_genSplit_s2 a1 a2 x5) (fun (s : (List ByteArray) × ByteArray × Int) τ Γ => s.1.length = (imin v3 x4).toNat ∧ WeakLe τ [(0, str s.2.1), (1, str a1), (2, i64 a2), (3, i64 x5), (9, oref 0 1 0 ((imin v3 x4).toNat)), (10, i64 s.2.2)] ∧ DeadLe Γ [⟨1, some (s.1.map str)⟩]) ?_ _ _ _ hz_4 ⟨List.length_replicate, ⟨aR, aR, aR, aR, aR, aR, trivial⟩, ⟨⟨rfl, .inr rfl⟩, trivial⟩⟩))
     rintro ⟨L6, s8, v9⟩ τ4 Γ4 y4_ ⟨hl7, hw4, hd4⟩ h4_ ho4 hr4
     refine RunC.wl (τ' := [(0, str s8), (1, str a1), (2, i64 a2), (3, i64 x5), (9, oref 0 1 0 ((imin v3 x4).toNat)), (10, i64 v9)]) (Γ' := [⟨1, some (L6.map str)⟩]) hw4 hd4 ?_
     replace hl7 : L6.length = (imin v3 x4).toNat := hl7
     replace h4_ : x_strings_genSplit_b2 a1 a2 x5 L6 s8 v9 = some y4_ := h4_
     unfold x_strings_genSplit_b2 at h4_
     refine RunC.seq ?_
     refine RunC.seq ?_
     rcases bsel_some h4_ with ⟨hc9, h4_⟩ | ⟨hc9, h4_⟩
     ·refine RunC.regionW ?_
      refine zM (r := i64 v9) rfl rfl rfl rfl rfl ?_
      refine zM (r := i64 x5) rfl rfl rfl rfl rfl ?_
      refine zL (r := b true) rfl rfl rfl (LOp.eqb (LOp.lss rfl rfl rfl) hc9) ?_
      refine zN ?_
      refine RunC.cond_true rfl rfl ?_
      refine RunC.skip ?_
      refine RunC.block ?_
      refine RunC.seq ?_
      obtain ⟨r10, hf10, h4_⟩ := obind_some h4_
      refine RunC.regionW ?_
      refine zM (r := str s8) rfl rfl rfl rfl rfl ?_
      refine zM (r := str a1) rfl rfl rfl rfl rfl ?_
      refine ROps.d (r := i64 r10) (fs := []) (Γ' := [⟨1, some (L6.map str)⟩]) rfl rfl rfl (TOp.callB (CallAs.func ent62 rfl rfl) (Bors.cons (Bor.pure rfl) (Bors.cons (Bor.pure rfl) Bors.nil)) rfl rfl (x_strings_Index_ok s8 a1 r10 hf10)) rfl ?_
      refine zA (r := i64 r10) rfl rfl rfl rfl rfl ?_
      refine zN ?_
      refine RunC.seq ?_
      refine RunC.seq ?_
      rcases bsel_some h4_ with ⟨hc11, h4_⟩ | ⟨hc11, h4_⟩
      ·refine RunC.regionW ?_
       refine zM (r := i64 r10) rfl rfl rfl rfl rfl ?_
       refine zL (r := b true) rfl rfl rfl (LOp.eqb (LOp.lss rfl rfl rfl) hc11) ?_
       refine zN ?_
       refine RunC.cond_true rfl rfl ?_
       refine RunC.exit ?_
       cases Option.some.inj h4_
       have hx := ho4 _ rfl
       exact ⟨L6, s8, v9, hl7, ⟨aR, aR, aR, trivial⟩, ⟨⟨rfl, .inr rfl⟩, trivial⟩, hx⟩
      ·refine RunC.regionW ?_
       refine zM (r := i64 r10) rfl rfl rfl rfl rfl ?_
       refine zL (r := b false) rfl rfl rfl (LOp.eqb (LOp.lss rfl rfl rfl) hc11) ?_
       refine zN ?_
       refine RunC.cond_false rfl rfl ?_
       refine RunC.skip ?_
       refine RunC.seq ?_
       obtain ⟨x11, hx12, h4_⟩ := olet_some h4_
       obtain ⟨t12, hs13, h4_⟩ := obind_some h4_
       obtain ⟨L13, he14, h4_⟩ := obind_some h4_
       refine RunC.regionW ?_
       refine zM (r := oref 0 1 0 ((imin v3 x4).toNat)) rfl rfl rfl rfl rfl ?_
       refine zM (r := i64 v9) rfl rfl rfl rfl rfl ?_
       refine zM (r := str s8) rfl rfl rfl rfl rfl ?_
       refine zM (r := i64 r10) rfl rfl rfl rfl rfl ?_
       refine zM (r := i64 a2) rfl rfl rfl rfl rfl ?_
       refine zL (r := i64 x11) rfl rfl rfl (LOp.eqr (LOp.add rfl rfl rfl) (congrArg (ik .i64) hx12)) ?_
       refine zL (r := str t12) rfl rfl rfl (LOp.subs_hi und9 rfl rfl rfl hs13) ?_
       refine ROps.d (r := optr 0 1 v9.toNat) (fs := []) (Γ' := [⟨1, some (L6.map str)⟩]) rfl rfl rfl (TOp.ixo und46 siz9 rfl rfl rfl (set_in he14 hl7) rfl) rfl ?_
       refine ROps.st (f := str) (i := v9) (Γ' := [⟨1, some (L13.map str)⟩]) rfl siz9 rfl rfl rfl aR rfl rfl rfl he14 rfl ?_
       refine zN ?_
       refine RunC.wl (τ' := [(0, str s8), (1, str a1), (2, i64 a2), (3, i64 x5), (9, oref 0 1 0 ((imin v3 x4).toNat)), (10, i64 v9), (11, i64 r10)]) (Γ' := [⟨1, some (L13.map str)⟩]) ⟨aR, aR, aR, aR, aR, aR, aR, trivial⟩ ⟨⟨rfl, .inr rfl⟩, trivial⟩ ?_
       refine RunC.seq ?_
       obtain ⟨x14, hx15, h4_⟩ := olet_some h4_
       obtain ⟨t15, hs16, h4_⟩ := obind_some h4_
       refine RunC.regionW ?_
       refine zM (r := str s8) rfl rfl rfl rfl rfl ?_
       refine zM (r := i64 r10) rfl rfl rfl rfl rfl ?_
       refine zM (r := str a1) rfl rfl rfl rfl rfl ?_
       refine zL (r := i64 (a1.size : Int)) rfl rfl rfl (LOp.len_str und9 rfl rfl) ?_
       refine zL (r := i64 x14) rfl rfl rfl (LOp.eqr (LOp.add rfl rfl rfl) (congrArg (ik .i64) hx15)) ?_
       refine zL (r := str t15) rfl rfl rfl (LOp.subs_lo und9 rfl rfl rfl hs16) ?_
       refine zA (r := str t15) rfl rfl rfl rfl rfl ?_
       refine zN ?_
       obtain ⟨x16, hx17, h4_⟩ := olet_some h4_
       refine RunC.regionW ?_
       refine zM (r := i64 v9) rfl rfl rfl rfl rfl ?_
       refine zL (r := i64 x16) rfl rfl rfl (LOp.eqr (LOp.add rfl rfl rfl) (congrArg (ik .i64) hx17)) ?_
       refine zA (r := i64 x16) rfl rfl rfl rfl rfl ?_
       refine zN ?_
       cases Option.some.inj h4_
       exact ⟨_, rfl, ((setAt?_len he14).trans hl7), ⟨aR, aR, aR, aR, aR, aR, trivial⟩, ⟨⟨rfl, .inr rfl⟩, trivial⟩⟩
     ·refine RunC.regionW ?_
      refine zM (r := i64 v9) rfl rfl rfl rfl rfl ?_
      refine zM (r := i64 x5) rfl rfl rfl rfl rfl ?_
      refine zL (r := b false) rfl rfl rfl (LOp.eqb (LOp.lss rfl rfl rfl) hc9) ?_
      refine zN ?_
      refine RunC.cond_false rfl rfl ?_
      refine RunC.exit ?_
      cases Option.some.inj h4_
      have hx := ho4 _ rfl
      exact ⟨L6, s8, v9, hl7, ⟨aR, aR, aR, trivial⟩, ⟨⟨rfl, .inr rfl⟩, trivial⟩, hx⟩
    ·rintro τ5 Γ5 ⟨L17, s19, v20, hl18, hw5, hd5, rfl⟩
     refine RunC.wl hw5 hd5 ?_
     replace h : x_strings_genSplit_k2 L17 s19 v20 = some q0 := h
     unfold x_strings_genSplit_k2 at h
     refine RunC.seq ?_
     obtain ⟨L21, he18, h⟩ := obind_some h
     refine RunC.regionW ?_
     refine zM (r := oref 0 1 0 ((imin v3 x4).toNat)) rfl rfl rfl rfl rfl ?_
     refine zM (r := i64 v20) rfl rfl rfl rfl rfl ?_
     refine zM (r := str s19) rfl rfl rfl rfl rfl ?_
     refine ROps.d (r := optr 0 1 v20.toNat) (fs := []) (Γ' := [⟨1, some (L17.map str)⟩]) rfl rfl rfl (TOp.ixo und46 siz9 rfl rfl rfl (set_in he18 hl18) rfl) rfl ?_
     refine ROps.st (f := str) (i := v20) (Γ' := [⟨1, some (L21.map str)⟩]) rfl siz9 rfl rfl rfl aR rfl rfl rfl he18 rfl ?_
     refine zN ?_
     refine RunC.seq ?_
     obtain ⟨x22, hx19, h⟩ := olet_some h
     obtain ⟨L23, hs20, h⟩ := obind_some h
     refine RunC.regionW ?_
     refine zM (r := oref 0 1 0 ((imin v3 x4).toNat)) rfl rfl rfl rfl rfl ?_
     refine zM (r := i64 v20) rfl rfl rfl rfl rfl ?_
     refine zL (r := i64 x22) rfl rfl rfl (LOp.eqr (LOp.add rfl rfl rfl) (congrArg (ik .i64) hx19)) ?_
     refine ROps.slice_hi_o (f := str) (Γ' := [⟨1, some (L23.map str)⟩]) rfl und46 siz9 rfl rfl rfl rfl rfl ((setAt?_len he18).trans hl18) hs20 rfl rfl ?_
     refine zA (r := oref 0 1 0 L23.length) rfl rfl rfl rfl rfl ?_
     refine zN ?_
     refine RunC.ret ?_
     have hq := Option.some.inj h
     subst q0
     exact bodyQ.mk (r' := oref 0 1 0 L23.length) [(0, 1)] (.inr rfl) rfl (show List.Nodup [0] from by decide) rfl rfl (Res.one rfl (RV.tmp rfl)) (SelL.arr0 (f := str) (fun _ => rfl) rfl trivial)
noncomputable def x_strings_Split (a0 : ByteArray) (a1 : ByteArray) : Option ((List ByteArray)) :=
 obind (x_strings_genSplit a0 a1 0 (-1)) fun (r1 : List ByteArray) =>
 some r1
theorem x_strings_Split_ok (a0 : ByteArray) (a1 : ByteArray) (q0 : List ByteArray) (h : x_strings_Split a0 a1 = some q0) : Ev Tryz.prog 29 [str a0, str a1] [] (oref 0 0 0 q0.length) [⟨0, some (q0.map str)⟩] := by
 refine Ev.start Tryz.func29 rfl rfl 1 (τ := [(0, str a0), (1, str a1)]) rfl (Γ' := [⟨0, none⟩]) rfl (n := 17) rfl (g := 0) rfl (fun _ => rfl) ?_
 unfold x_strings_Split at h
 refine zQ ?_
 refine zA (r := nilsl) rfl rfl rfl rfl rfl ?_
 refine zN ?_
 refine RunC.seq ?_
 obtain ⟨r1, hf1, h⟩ := obind_some h
 refine RunC.regionW ?_
 refine zM (r := str a0) rfl rfl rfl rfl rfl ?_
 refine zM (r := str a1) rfl rfl rfl rfl rfl ?_
 refine ROps.d (r := oref 0 1 0 r1.length) (fs := [(0, (r1.map str))]) (Γ' := [⟨1, some (r1.map str)⟩]) rfl rfl rfl (TOp.callBN (ls := [(r1.map str)]) [0] (CallAs.func ent43 rfl rfl) (Bors.cons (Bor.pure rfl) (Bors.cons (Bor.pure rfl) (Bors.cons (Bor.pure rfl) (Bors.cons (Bor.pure rfl) Bors.nil)))) rfl (x_strings_genSplit_ok a0 a1 0 (-1) r1 hf1) (and_all (lts0_map (f := str) (fun _ => rfl) _) rfl) (and_all (noss_map (f := str) (fun _ => rfl) _) rfl) rfl (by decide) (ns_of ⟨⟨_, rfl⟩, trivial⟩)) rfl ?_
 refine zA (r := oref 0 1 0 r1.length) rfl rfl rfl rfl rfl ?_
 refine zN ?_
 refine RunC.ret ?_
 have hq := Option.some.inj h
 subst q0
 exact bodyQ.mk (r' := oref 0 1 0 r1.length) [(0, 1)] (.inr rfl) rfl (show List.Nodup [0] from by decide) rfl rfl (Res.one rfl (RV.tmp rfl)) (SelL.arr0 (f := str) (fun _ => rfl) rfl trivial)
noncomputable def x_internal_strconv_lower (a0 : Int) : Option (Int) :=
 olet (ior .u8 a0 32) fun (x1 : Int) =>
 some x1
theorem x_internal_strconv_lower_ok (a0 : Int) (q0 : Int) (h : x_internal_strconv_lower a0 = some q0) : Ev Tryz.prog 79 [ik .u8 a0] [] (ik .u8 q0) [] := by
 refine Ev.start Tryz.func79 rfl rfl 0 (τ := [(0, ik .u8 a0)]) rfl (Γ' := []) rfl (n := 11) rfl (g := 0) rfl (fun _ => rfl) ?_
 unfold x_internal_strconv_lower at h
 refine zQ ?_
 refine zA (r := ik .u8 0) rfl rfl rfl rfl rfl ?_
 refine zN ?_
 refine RunC.seq ?_
 obtain ⟨x1, hx1, h⟩ := olet_some h
 refine RunC.regionW ?_
 refine zM (r := ik .u8 a0) rfl rfl rfl rfl rfl ?_
 refine zL (r := ik .u8 x1) rfl rfl rfl (LOp.eqr (LOp.ior rfl rfl rfl) (congrArg (ik .u8) hx1)) ?_
 refine zA (r := ik .u8 x1) rfl rfl rfl rfl rfl ?_
 refine zN ?_
 refine RunC.ret ?_
 have hq := Option.some.inj h
 subst q0
 exact bodyQ.pure (.inr rfl) rfl (Res.one rfl (RV.tmp rfl))
end Go.Proofs.YticpoofjnfiebaaGreatDoor
