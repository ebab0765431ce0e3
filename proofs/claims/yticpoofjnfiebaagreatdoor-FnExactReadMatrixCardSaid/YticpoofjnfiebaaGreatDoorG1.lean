/- Generated. -/
import Derived.Test.YticpoofjnfiebaaGreatDoorG0
namespace Go.Proofs.YticpoofjnfiebaaGreatDoor
open Go Go.AM Go.AM.AV
set_option maxRecDepth 20000
set_option maxHeartbeats 4000000
set_option linter.unusedVariables false
set_option linter.unusedSimpArgs false
noncomputable def x_internal_strconv_ParseUint_k2 (v1 : Int) (v2 : Int) (v26 : Int) : Option (LR (Int × Int) (Int) ((Int) ⊕ (Int) ⊕ (Int))) :=
 bsel (decide (16 ≤ v26)) (
  some (LR.ret (Sum.inl 0))) (
  bsel (decide (1152921504606846976 ≤ v1)) (
   some (LR.ret (Sum.inr (Sum.inl 4294967295)))) (
   olet (IntKind.u64.wrap (v1 * 16)) fun (x27 : Int) =>
   olet (IntKind.u64.wrap v26) fun (x28 : Int) =>
   olet (IntKind.u64.wrap (x27 + x28)) fun (x29 : Int) =>
   bsel (decide (x29 < x27)) (
    some (LR.ret (Sum.inr (Sum.inl 4294967295)))) (
    bsel (decide (4294967295 < x29)) (
     some (LR.ret (Sum.inr (Sum.inl 4294967295)))) (
     olet (IntKind.i64.wrap (v2 + 1)) fun (x30 : Int) =>
     some (LR.next (x29, x30))))))
noncomputable def x_internal_strconv_ParseUint_b3 (a0 : ByteArray) (v1 : Int) (v2 : Int) : Option (LR (Int × Int) (Int) ((Int) ⊕ (Int) ⊕ (Int))) :=
 bsel (decide (v2 < ((bytI a0).length : Int))) (
  obind (at? (bytI a0) v2) fun (e3 : Int) =>
  bsel (decide (e3 = 95)) (
   bsel (decide (48 ≤ e3)) (
    bsel (decide (e3 ≤ 57)) (
     olet (IntKind.u8.wrap (e3 - 48)) fun (x4 : Int) =>
     x_internal_strconv_ParseUint_k2 v1 v2 x4) (
     obind (x_internal_strconv_lower e3) fun (r5 : Int) =>
     bsel (decide (97 ≤ r5)) (
      obind (x_internal_strconv_lower e3) fun (r6 : Int) =>
      bsel (decide (r6 ≤ 122)) (
       obind (x_internal_strconv_lower e3) fun (r7 : Int) =>
       olet (IntKind.u8.wrap (r7 - 97)) fun (x8 : Int) =>
       olet (IntKind.u8.wrap (x8 + 10)) fun (x9 : Int) =>
       x_internal_strconv_ParseUint_k2 v1 v2 x9) (
       some (LR.ret (Sum.inl 0)))) (
      some (LR.ret (Sum.inl 0))))) (
    obind (x_internal_strconv_lower e3) fun (r10 : Int) =>
    bsel (decide (97 ≤ r10)) (
     obind (x_internal_strconv_lower e3) fun (r11 : Int) =>
     bsel (decide (r11 ≤ 122)) (
      obind (x_internal_strconv_lower e3) fun (r12 : Int) =>
      olet (IntKind.u8.wrap (r12 - 97)) fun (x13 : Int) =>
      olet (IntKind.u8.wrap (x13 + 10)) fun (x14 : Int) =>
      x_internal_strconv_ParseUint_k2 v1 v2 x14) (
      some (LR.ret (Sum.inl 0)))) (
     some (LR.ret (Sum.inl 0))))) (
   bsel (decide (48 ≤ e3)) (
    bsel (decide (e3 ≤ 57)) (
     olet (IntKind.u8.wrap (e3 - 48)) fun (x15 : Int) =>
     x_internal_strconv_ParseUint_k2 v1 v2 x15) (
     obind (x_internal_strconv_lower e3) fun (r16 : Int) =>
     bsel (decide (97 ≤ r16)) (
      obind (x_internal_strconv_lower e3) fun (r17 : Int) =>
      bsel (decide (r17 ≤ 122)) (
       obind (x_internal_strconv_lower e3) fun (r18 : Int) =>
       olet (IntKind.u8.wrap (r18 - 97)) fun (x19 : Int) =>
       olet (IntKind.u8.wrap (x19 + 10)) fun (x20 : Int) =>
       x_internal_strconv_ParseUint_k2 v1 v2 x20) (
       some (LR.ret (Sum.inl 0)))) (
      some (LR.ret (Sum.inl 0))))) (
    obind (x_internal_strconv_lower e3) fun (r21 : Int) =>
    bsel (decide (97 ≤ r21)) (
     obind (x_internal_strconv_lower e3) fun (r22 : Int) =>
     bsel (decide (r22 ≤ 122)) (
      obind (x_internal_strconv_lower e3) fun (r23 : Int) =>
      olet (IntKind.u8.wrap (r23 - 97)) fun (x24 : Int) =>
      olet (IntKind.u8.wrap (x24 + 10)) fun (x25 : Int) =>
      x_internal_strconv_ParseUint_k2 v1 v2 x25) (
      some (LR.ret (Sum.inl 0)))) (
     some (LR.ret (Sum.inl 0)))))) (
  some (LR.out v1))
noncomputable def x_internal_strconv_ParseUint_s3 (a0 : ByteArray) : (Int × Int) → Option (LR (Int × Int) (Int) ((Int) ⊕ (Int) ⊕ (Int))) := fun s => x_internal_strconv_ParseUint_b3 a0 s.1 s.2
noncomputable def x_internal_strconv_ParseUint_k3 (v31 : Int) : Option ((Int) ⊕ (Int) ⊕ (Int)) :=
 some (Sum.inr (Sum.inr v31))
noncomputable def x_internal_strconv_ParseUint (a0 : ByteArray) : Option ((Int) ⊕ (Int) ⊕ (Int)) :=
 bsel (eqs a0 lit_99ba06bc) (
  some (Sum.inl 0)) (
  obind (loopM (x_internal_strconv_ParseUint_s3 a0) (0, 0)) fun z => osum z (fun e => x_internal_strconv_ParseUint_k3 e) (fun r => some r))
theorem x_internal_strconv_ParseUint_ok0 (a0 : ByteArray) (q0 : Int) (h : x_internal_strconv_ParseUint a0 = some (Sum.inl q0)) : Ev Tryz.prog 63 [str a0, i64 16, i64 32] [] (tup [ik .u64 q0, x (.iface 103 (.int .i64 2))]) [] := by
 refine Ev.start Tryz.func63 rfl rfl 0 (τ := [(0, str a0), (1, i64 16), (2, i64 32)]) rfl (Γ' := []) rfl (n := 345) rfl (g := 0) rfl (fun _ => rfl) ?_
 unfold x_internal_strconv_ParseUint at h
 refine zQ ?_
 refine zA (r := ik .u64 0) rfl rfl rfl rfl rfl ?_
 refine zA (r := x .nilIface) rfl rfl rfl rfl rfl ?_
 refine zN ?_
 refine RunC.seq ?_
 refine RunC.seq ?_
 rcases bsel_some h with ⟨hc1, h⟩ | ⟨hc1, h⟩
 ·refine RunC.regionW ?_
  refine zM (r := str a0) rfl rfl rfl rfl rfl ?_
  refine zL (r := b true) rfl rfl rfl (LOp.eqb (LOp.eqs rfl rfl rfl) hc1) ?_
  refine zN ?_
  refine RunC.cond_true rfl rfl ?_
  refine zQ ?_
  refine zL (r := x (.iface 103 (.int .i64 2))) rfl rfl rfl (LOp.mkif (v := .int .i64 2) und103 rfl rfl) ?_
  refine zA (r := ik .u64 0) rfl rfl rfl rfl rfl ?_
  refine zA (r := x (.iface 103 (.int .i64 2))) rfl rfl rfl rfl rfl ?_
  refine zN ?_
  refine RunC.ret ?_
  have hq := Option.some.inj h
  have hq := Sum.inl.inj hq
  subst q0
  exact bodyQ.pure (.inr rfl) rfl (Res.two rfl (RV.tmp rfl) (RV.tmp rfl))
 ·refine RunC.regionW ?_
  refine zM (r := str a0) rfl rfl rfl rfl rfl ?_
  refine zL (r := b false) rfl rfl rfl (LOp.eqb (LOp.eqs rfl rfl rfl) hc1) ?_
  refine zN ?_
  refine RunC.cond_false rfl rfl ?_
  refine RunC.skip ?_
  refine zQ ?_
  refine zM (r := i64 16) rfl rfl rfl rfl rfl ?_
  refine zL (r := b false) rfl rfl rfl ((show LOp _ _ _ (b (decide ((16 : Int) = 0))) from LOp.eql rfl rfl rfl)) ?_
  refine zA (r := b false) rfl rfl rfl rfl rfl ?_
  refine zN ?_
  refine zQ ?_
  refine zM (r := str a0) rfl rfl rfl rfl rfl ?_
  refine zA (r := str a0) rfl rfl rfl rfl rfl ?_
  refine zN ?_
  refine RunC.seq ?_
  refine RunC.block ?_
  refine zQ ?_
  refine zM (r := i64 16) rfl rfl rfl rfl rfl ?_
  refine zL (r := b true) rfl rfl rfl ((show LOp _ _ _ (b (decide ((2 : Int) ≤ 16))) from LOp.leq rfl rfl rfl)) ?_
  refine zM (r := b true) rfl rfl rfl rfl rfl ?_
  refine zM (r := i64 16) rfl rfl rfl rfl rfl ?_
  refine zL (r := b true) rfl rfl rfl ((show LOp _ _ _ (b (decide ((16 : Int) ≤ 36))) from LOp.leq rfl rfl rfl)) ?_
  refine zL (r := b true) rfl rfl rfl (LOp.pick_true rfl rfl rfl) ?_
  refine zA (r := b true) rfl rfl rfl rfl rfl ?_
  refine zN ?_
  refine RunC.cond_true rfl rfl ?_
  refine RunC.skip ?_
  refine RunC.seq ?_
  refine zQ ?_
  refine zM (r := i64 32) rfl rfl rfl rfl rfl ?_
  refine zL (r := b false) rfl rfl rfl ((show LOp _ _ _ (b (decide ((32 : Int) = 0))) from LOp.eql rfl rfl rfl)) ?_
  refine zN ?_
  refine RunC.cond_false rfl rfl ?_
  refine zQ ?_
  refine zM (r := i64 32) rfl rfl rfl rfl rfl ?_
  refine zL (r := b false) rfl rfl rfl ((show LOp _ _ _ (b (decide ((32 : Int) < 0))) from LOp.lss rfl rfl rfl)) ?_
  refine zM (r := b false) rfl rfl rfl rfl rfl ?_
  refine zM (r := i64 32) rfl rfl rfl rfl rfl ?_
  refine zL (r := b false) rfl rfl rfl ((show LOp _ _ _ (b (decide ((64 : Int) < 32))) from LOp.gtr rfl rfl rfl)) ?_
  refine zL (r := b false) rfl rfl rfl (LOp.pick_false rfl rfl rfl) ?_
  refine zN ?_
  refine RunC.cond_false rfl rfl ?_
  refine RunC.skip ?_
  refine zQ ?_
  refine zA (r := ik .u64 0) rfl rfl rfl rfl rfl ?_
  refine zN ?_
  refine RunC.seq ?_
  refine zQ ?_
  refine zM (r := i64 16) rfl rfl rfl rfl rfl ?_
  refine zN ?_
  refine RunC.block ?_
  refine zQ ?_
  refine zL (r := b false) rfl rfl rfl ((show LOp _ _ _ (b (decide ((16 : Int) = 10))) from LOp.eql rfl rfl rfl)) ?_
  refine zA (r := b false) rfl rfl rfl rfl rfl ?_
  refine zN ?_
  refine RunC.cond_false rfl rfl ?_
  refine zQ ?_
  refine zL (r := b true) rfl rfl rfl ((show LOp _ _ _ (b (decide ((16 : Int) = 16))) from LOp.eql rfl rfl rfl)) ?_
  refine zA (r := b true) rfl rfl rfl rfl rfl ?_
  refine zN ?_
  refine RunC.wl (τ' := [(0, str a0), (1, i64 16), (2, i64 32), (8, b false), (9, str a0), (92, b true)]) (Γ' := []) ⟨aR, aR, aR, aR, aR, aR, trivial⟩ trivial ?_
  refine RunC.cond_true rfl rfl ?_
  refine RunC.regionW ?_
  refine zA (r := ik .u64 1152921504606846976) rfl rfl rfl rfl rfl ?_
  refine zN ?_
  refine zQ ?_
  refine zM (r := i64 32) rfl rfl rfl rfl rfl ?_
  refine zL (r := ik .u64 32) rfl rfl rfl ((show LOp _ _ _ (ik .u64 (IntKind.u64.wrap 32)) from LOp.i2i (src := 3) (dst := 87) ⟨_, pun3⟩ pun87 rfl rfl)) ?_
  refine zL (r := ik .u64 4294967296) rfl rfl rfl ((show LOp _ _ _ (ik .u64 (ishl .u64 1 32)) from LOp.shl rfl rfl rfl (by decide))) ?_
  refine zL (r := ik .u64 4294967295) rfl rfl rfl ((show LOp _ _ _ (ik .u64 (IntKind.u64.wrap (4294967296 - 1))) from LOp.sub rfl rfl rfl)) ?_
  refine zA (r := ik .u64 4294967295) rfl rfl rfl rfl rfl ?_
  refine zN ?_
  refine zQ ?_
  refine zA (r := b false) rfl rfl rfl rfl rfl ?_
  refine zN ?_
  refine zQ ?_
  refine zA (r := ik .u64 0) rfl rfl rfl rfl rfl ?_
  refine zN ?_
  refine RunC.seq ?_
  refine zQ ?_
  refine zM (r := str a0) rfl rfl rfl rfl rfl ?_
  refine ROps.d (r := sl (bytI a0).length ((bytI a0).map (ik .u8))) (fs := []) (Γ' := []) rfl rfl rfl (TOp.s2b pun9 pun105 pun5 rfl rfl) rfl ?_
  refine zL (r := i64 ((bytI a0).length : Int)) rfl rfl rfl (LOp.len_sl und105 rfl rfl) ?_
  refine zM (r := i64 0) rfl rfl rfl rfl rfl ?_
  refine zN ?_
  obtain ⟨z4, hz_4, h⟩ := obind_some h
  refine RunC.cutN (fun τ Γ => ∃ (v31 : Int), WeakLe τ [(9, str a0), (12, b false), (13, ik .u64 v31)] ∧ DeadLe Γ [] ∧ z4 = .inl v31) ?_ ?_
  ·refine RunC.block (RunC.loop (RunL.loopM (x := z4) (x_internal_strconv_ParseUint_s3 a0) (fun (s : Int × Int) τ Γ => WeakLe τ [(1, i64 16), (8, b false), (9, str a0), (10, ik .u64 1152921504606846976), (11, ik .u64 4294967295), (12, b false), (13, ik .u64 s.1), (99, sl (bytI a0).length ((bytI a0).map (ik .u8))), (100, i64 ((bytI a0).length : Int)), (101, i64 s.2)] ∧ DeadLe Γ []) ?_ _ _ _ hz_4 ⟨⟨aR, aR, aR, aR, aR, aR, aR, aR, aR, aR, trivial⟩, trivial⟩))
   rintro ⟨v1, v2⟩ τ4 Γ4 y4_ ⟨hw4, hd4⟩ h4_ ho4 hr4
   refine RunC.wl (τ' := [(1, i64 16), (8, b false), (9, str a0), (10, ik .u64 1152921504606846976), (11, ik .u64 4294967295), (12, b false), (13, ik .u64 v1), (99, sl (bytI a0).length ((bytI a0).map (ik .u8))), (100, i64 ((bytI a0).length : Int)), (101, i64 v2)]) (Γ' := []) hw4 hd4 ?_
   replace h4_ : x_internal_strconv_ParseUint_b3 a0 v1 v2 = some y4_ := h4_
   unfold x_internal_strconv_ParseUint_b3 at h4_
   refine RunC.seq ?_
   rcases bsel_some h4_ with ⟨hc2, h4_⟩ | ⟨hc2, h4_⟩
   ·refine RunC.regionW ?_
    refine zL (r := b true) rfl rfl rfl (LOp.eqb (LOp.lss rfl rfl rfl) hc2) ?_
    refine zN ?_
    refine RunC.seq ?_
    refine RunC.cond_true rfl rfl ?_
    refine RunC.skip ?_
    refine RunC.seq ?_
    refine RunC.block ?_
    refine RunC.seq ?_
    obtain ⟨e3, he3, h4_⟩ := obind_some h4_
    refine RunC.regionW ?_
    refine zL (r := ptr [ik .u8 e3]) rfl rfl rfl (LOp.le (LOp.ix (f := (ik .u8)) und105 siz5 rfl rfl rfl rfl he3) ALe.ptr) ?_
    refine zL (r := ik .u8 e3) rfl rfl rfl (LOp.load1 agg5 rfl rfl) ?_
    refine zA (r := ik .u8 e3) rfl rfl rfl rfl rfl ?_
    refine zN ?_
    refine zQ ?_
    refine zA (r := ik .u8 0) rfl rfl rfl rfl rfl ?_
    refine zN ?_
    refine RunC.seq ?_
    refine RunC.cutN (fun τ Γ => ∃ (v26 : Int), WeakLe τ [(1, i64 16), (8, b false), (9, str a0), (10, ik .u64 1152921504606846976), (11, ik .u64 4294967295), (12, b false), (13, ik .u64 v1), (16, ik .u8 v26), (99, sl (bytI a0).length ((bytI a0).map (ik .u8))), (100, i64 ((bytI a0).length : Int)), (101, i64 v2)] ∧ DeadLe Γ [] ∧ x_internal_strconv_ParseUint_k2 v1 v2 v26 = some y4_) ?_ ?_
    ·refine RunC.block ?_
     refine RunC.seq ?_
     rcases bsel_some h4_ with ⟨hc4, h4_⟩ | ⟨hc4, h4_⟩
     ·refine RunC.regionW ?_
      refine zM (r := ik .u8 e3) rfl rfl rfl rfl rfl ?_
      refine zL (r := b true) rfl rfl rfl (LOp.eqb (LOp.eql rfl rfl rfl) hc4) ?_
      refine zM (r := b true) rfl rfl rfl rfl rfl ?_
      refine zM (r := b false) rfl rfl rfl rfl rfl ?_
      refine zL (r := b false) rfl rfl rfl (LOp.pick_true rfl rfl rfl) ?_
      refine zA (r := b false) rfl rfl rfl rfl rfl ?_
      refine zN ?_
      refine RunC.cond_false rfl rfl ?_
      refine RunC.seq ?_
      rcases bsel_some h4_ with ⟨hc5, h4_⟩ | ⟨hc5, h4_⟩
      ·rcases bsel_some h4_ with ⟨hc6, h4_⟩ | ⟨hc6, h4_⟩
       ·refine RunC.regionW ?_
        refine zM (r := ik .u8 e3) rfl rfl rfl rfl rfl ?_
        refine zL (r := b true) rfl rfl rfl (LOp.eqb (LOp.leq rfl rfl rfl) hc5) ?_
        refine zM (r := b true) rfl rfl rfl rfl rfl ?_
        refine zM (r := ik .u8 e3) rfl rfl rfl rfl rfl ?_
        refine zL (r := b true) rfl rfl rfl (LOp.eqb (LOp.leq rfl rfl rfl) hc6) ?_
        refine zL (r := b true) rfl rfl rfl (LOp.pick_true rfl rfl rfl) ?_
        refine zA (r := b true) rfl rfl rfl rfl rfl ?_
        refine zN ?_
        refine RunC.cond_true rfl rfl ?_
        obtain ⟨x4, hx7, h4_⟩ := olet_some h4_
        refine RunC.regionW ?_
        refine zM (r := ik .u8 e3) rfl rfl rfl rfl rfl ?_
        refine zL (r := ik .u8 x4) rfl rfl rfl (LOp.eqr (LOp.sub rfl rfl rfl) (congrArg (ik .u8) hx7)) ?_
        refine zA (r := ik .u8 x4) rfl rfl rfl rfl rfl ?_
        refine zN ?_
        exact ⟨x4, ⟨aR, aR, aR, aR, aR, aR, aR, aR, aR, aR, aR, trivial⟩, trivial, h4_⟩
       ·refine RunC.regionW ?_
        refine zM (r := ik .u8 e3) rfl rfl rfl rfl rfl ?_
        refine zL (r := b true) rfl rfl rfl (LOp.eqb (LOp.leq rfl rfl rfl) hc5) ?_
        refine zM (r := b true) rfl rfl rfl rfl rfl ?_
        refine zM (r := ik .u8 e3) rfl rfl rfl rfl rfl ?_
        refine zL (r := b false) rfl rfl rfl (LOp.eqb (LOp.leq rfl rfl rfl) hc6) ?_
        refine zL (r := b false) rfl rfl rfl (LOp.pick_true rfl rfl rfl) ?_
        refine zA (r := b false) rfl rfl rfl rfl rfl ?_
        refine zN ?_
        refine RunC.cond_false rfl rfl ?_
        refine RunC.seq ?_
        obtain ⟨r5, hf8, h4_⟩ := obind_some h4_
        rcases bsel_some h4_ with ⟨hc9, h4_⟩ | ⟨hc9, h4_⟩
        ·obtain ⟨r6, hf10, h4_⟩ := obind_some h4_
         rcases bsel_some h4_ with ⟨hc11, h4_⟩ | ⟨hc11, h4_⟩
         ·refine RunC.regionW ?_
          refine zM (r := ik .u8 e3) rfl rfl rfl rfl rfl ?_
          refine ROps.d (r := ik .u8 r5) (fs := []) (Γ' := []) rfl rfl rfl (TOp.callB (CallAs.func ent79 rfl rfl) (Bors.cons (Bor.pure rfl) Bors.nil) rfl rfl (x_internal_strconv_lower_ok e3 r5 hf8)) rfl ?_
          refine zL (r := b true) rfl rfl rfl (LOp.eqb (LOp.leq rfl rfl rfl) hc9) ?_
          refine zM (r := b true) rfl rfl rfl rfl rfl ?_
          refine zM (r := ik .u8 e3) rfl rfl rfl rfl rfl ?_
          refine ROps.d (r := ik .u8 r6) (fs := []) (Γ' := []) rfl rfl rfl (TOp.callB (CallAs.func ent79 rfl rfl) (Bors.cons (Bor.pure rfl) Bors.nil) rfl rfl (x_internal_strconv_lower_ok e3 r6 hf10)) rfl ?_
          refine zL (r := b true) rfl rfl rfl (LOp.eqb (LOp.leq rfl rfl rfl) hc11) ?_
          refine zL (r := b true) rfl rfl rfl (LOp.pick_true rfl rfl rfl) ?_
          refine zA (r := b true) rfl rfl rfl rfl rfl ?_
          refine zN ?_
          refine RunC.wl (τ' := [(1, i64 16), (8, b false), (9, str a0), (10, ik .u64 1152921504606846976), (11, ik .u64 4294967295), (12, b false), (13, ik .u64 v1), (15, ik .u8 e3), (99, sl (bytI a0).length ((bytI a0).map (ik .u8))), (100, i64 ((bytI a0).length : Int)), (101, i64 v2), (110, b false), (116, ik .u8 e3), (117, b false), (121, b true), (126, ik .u8 e3), (127, ik .u8 r6), (128, b true)]) (Γ' := []) ⟨aR, aR, aR, aR, aR, aR, aR, aR, aR, aR, aR, aR, aR, aR, aR, aR, aR, aR, trivial⟩ trivial ?_
          refine RunC.cond_true rfl rfl ?_
          obtain ⟨r7, hf12, h4_⟩ := obind_some h4_
          obtain ⟨x8, hx13, h4_⟩ := olet_some h4_
          obtain ⟨x9, hx14, h4_⟩ := olet_some h4_
          refine RunC.regionW ?_
          refine zM (r := ik .u8 e3) rfl rfl rfl rfl rfl ?_
          refine ROps.d (r := ik .u8 r7) (fs := []) (Γ' := []) rfl rfl rfl (TOp.callB (CallAs.func ent79 rfl rfl) (Bors.cons (Bor.pure rfl) Bors.nil) rfl rfl (x_internal_strconv_lower_ok e3 r7 hf12)) rfl ?_
          refine zL (r := ik .u8 x8) rfl rfl rfl (LOp.eqr (LOp.sub rfl rfl rfl) (congrArg (ik .u8) hx13)) ?_
          refine zL (r := ik .u8 x9) rfl rfl rfl (LOp.eqr (LOp.add rfl rfl rfl) (congrArg (ik .u8) hx14)) ?_
          refine zA (r := ik .u8 x9) rfl rfl rfl rfl rfl ?_
          refine zN ?_
          exact ⟨x9, ⟨aR, aR, aR, aR, aR, aR, aR, aR, aR, aR, aR, trivial⟩, trivial, h4_⟩
         ·refine RunC.regionW ?_
          refine zM (r := ik .u8 e3) rfl rfl rfl rfl rfl ?_
          refine ROps.d (r := ik .u8 r5) (fs := []) (Γ' := []) rfl rfl rfl (TOp.callB (CallAs.func ent79 rfl rfl) (Bors.cons (Bor.pure rfl) Bors.nil) rfl rfl (x_internal_strconv_lower_ok e3 r5 hf8)) rfl ?_
          refine zL (r := b true) rfl rfl rfl (LOp.eqb (LOp.leq rfl rfl rfl) hc9) ?_
          refine zM (r := b true) rfl rfl rfl rfl rfl ?_
          refine zM (r := ik .u8 e3) rfl rfl rfl rfl rfl ?_
          refine ROps.d (r := ik .u8 r6) (fs := []) (Γ' := []) rfl rfl rfl (TOp.callB (CallAs.func ent79 rfl rfl) (Bors.cons (Bor.pure rfl) Bors.nil) rfl rfl (x_internal_strconv_lower_ok e3 r6 hf10)) rfl ?_
          refine zL (r := b false) rfl rfl rfl (LOp.eqb (LOp.leq rfl rfl rfl) hc11) ?_
          refine zL (r := b false) rfl rfl rfl (LOp.pick_true rfl rfl rfl) ?_
          refine zA (r := b false) rfl rfl rfl rfl rfl ?_
          refine zN ?_
          refine RunC.wl (τ' := [(1, i64 16), (8, b false), (9, str a0), (10, ik .u64 1152921504606846976), (11, ik .u64 4294967295), (12, b false), (13, ik .u64 v1), (15, ik .u8 e3), (99, sl (bytI a0).length ((bytI a0).map (ik .u8))), (100, i64 ((bytI a0).length : Int)), (101, i64 v2), (110, b false), (116, ik .u8 e3), (117, b false), (121, b false), (126, ik .u8 e3), (127, ik .u8 r6), (128, b false)]) (Γ' := []) ⟨aR, aR, aR, aR, aR, aR, aR, aR, aR, aR, aR, aR, aR, aR, aR, aR, aR, aR, trivial⟩ trivial ?_
          refine RunC.cond_false rfl rfl ?_
          refine zQ ?_
          refine zL (r := x (.iface 103 (.int .i64 2))) rfl rfl rfl (LOp.mkif (v := .int .i64 2) und103 rfl rfl) ?_
          refine zA (r := ik .u64 0) rfl rfl rfl rfl rfl ?_
          refine zA (r := x (.iface 103 (.int .i64 2))) rfl rfl rfl rfl rfl ?_
          refine zN ?_
          refine RunC.ret ?_
          cases Option.some.inj h4_
          have hx5_ := hr4 _ rfl
          subst hx5_
          have hq := Option.some.inj h
          have hq := Sum.inl.inj hq
          subst q0
          exact bodyQ.pure (.inr rfl) rfl (Res.two rfl (RV.tmp rfl) (RV.tmp rfl))
        ·refine RunC.regionW ?_
         refine zM (r := ik .u8 e3) rfl rfl rfl rfl rfl ?_
         refine ROps.d (r := ik .u8 r5) (fs := []) (Γ' := []) rfl rfl rfl (TOp.callB (CallAs.func ent79 rfl rfl) (Bors.cons (Bor.pure rfl) Bors.nil) rfl rfl (x_internal_strconv_lower_ok e3 r5 hf8)) rfl ?_
         refine zL (r := b false) rfl rfl rfl (LOp.eqb (LOp.leq rfl rfl rfl) hc9) ?_
         refine zM (r := b false) rfl rfl rfl rfl rfl ?_
         refine ROps.s rfl rfl rfl ?_
         refine ROps.s rfl rfl rfl ?_
         refine ROps.s rfl rfl rfl ?_
         refine zL (r := b false) rfl rfl rfl (LOp.pick_false rfl rfl rfl) ?_
         refine zA (r := b false) rfl rfl rfl rfl rfl ?_
         refine zN ?_
         refine RunC.wl (τ' := [(1, i64 16), (8, b false), (9, str a0), (10, ik .u64 1152921504606846976), (11, ik .u64 4294967295), (12, b false), (13, ik .u64 v1), (15, ik .u8 e3), (99, sl (bytI a0).length ((bytI a0).map (ik .u8))), (100, i64 ((bytI a0).length : Int)), (101, i64 v2), (110, b false), (116, ik .u8 e3), (117, b false), (121, b false)]) (Γ' := []) ⟨aR, aR, aR, aR, aR, aR, aR, aR, aR, aR, aR, aR, aR, aR, aR, trivial⟩ trivial ?_
         refine RunC.cond_false rfl rfl ?_
         refine zQ ?_
         refine zL (r := x (.iface 103 (.int .i64 2))) rfl rfl rfl (LOp.mkif (v := .int .i64 2) und103 rfl rfl) ?_
         refine zA (r := ik .u64 0) rfl rfl rfl rfl rfl ?_
         refine zA (r := x (.iface 103 (.int .i64 2))) rfl rfl rfl rfl rfl ?_
         refine zN ?_
         refine RunC.ret ?_
         cases Option.some.inj h4_
         have hx6_ := hr4 _ rfl
         subst hx6_
         have hq := Option.some.inj h
         have hq := Sum.inl.inj hq
         subst q0
         exact bodyQ.pure (.inr rfl) rfl (Res.two rfl (RV.tmp rfl) (RV.tmp rfl))
      ·refine RunC.regionW ?_
       refine zM (r := ik .u8 e3) rfl rfl rfl rfl rfl ?_
       refine zL (r := b false) rfl rfl rfl (LOp.eqb (LOp.leq rfl rfl rfl) hc5) ?_
       refine zM (r := b false) rfl rfl rfl rfl rfl ?_
       refine ROps.s rfl rfl rfl ?_
       refine ROps.s rfl rfl rfl ?_
       refine zL (r := b false) rfl rfl rfl (LOp.pick_false rfl rfl rfl) ?_
       refine zA (r := b false) rfl rfl rfl rfl rfl ?_
       refine zN ?_
       refine RunC.cond_false rfl rfl ?_
       refine RunC.seq ?_
       obtain ⟨r10, hf15, h4_⟩ := obind_some h4_
       rcases bsel_some h4_ with ⟨hc16, h4_⟩ | ⟨hc16, h4_⟩
       ·obtain ⟨r11, hf17, h4_⟩ := obind_some h4_
        rcases bsel_some h4_ with ⟨hc18, h4_⟩ | ⟨hc18, h4_⟩
        ·refine RunC.regionW ?_
         refine zM (r := ik .u8 e3) rfl rfl rfl rfl rfl ?_
         refine ROps.d (r := ik .u8 r10) (fs := []) (Γ' := []) rfl rfl rfl (TOp.callB (CallAs.func ent79 rfl rfl) (Bors.cons (Bor.pure rfl) Bors.nil) rfl rfl (x_internal_strconv_lower_ok e3 r10 hf15)) rfl ?_
         refine zL (r := b true) rfl rfl rfl (LOp.eqb (LOp.leq rfl rfl rfl) hc16) ?_
         refine zM (r := b true) rfl rfl rfl rfl rfl ?_
         refine zM (r := ik .u8 e3) rfl rfl rfl rfl rfl ?_
         refine ROps.d (r := ik .u8 r11) (fs := []) (Γ' := []) rfl rfl rfl (TOp.callB (CallAs.func ent79 rfl rfl) (Bors.cons (Bor.pure rfl) Bors.nil) rfl rfl (x_internal_strconv_lower_ok e3 r11 hf17)) rfl ?_
         refine zL (r := b true) rfl rfl rfl (LOp.eqb (LOp.leq rfl rfl rfl) hc18) ?_
         refine zL (r := b true) rfl rfl rfl (LOp.pick_true rfl rfl rfl) ?_
         refine zA (r := b true) rfl rfl rfl rfl rfl ?_
         refine zN ?_
         refine RunC.wl (τ' := [(1, i64 16), (8, b false), (9, str a0), (10, ik .u64 1152921504606846976), (11, ik .u64 4294967295), (12, b false), (13, ik .u64 v1), (15, ik .u8 e3), (99, sl (bytI a0).length ((bytI a0).map (ik .u8))), (100, i64 ((bytI a0).length : Int)), (101, i64 v2), (110, b false), (121, b true), (126, ik .u8 e3), (127, ik .u8 r11), (128, b true)]) (Γ' := []) ⟨aR, aR, aR, aR, aR, aR, aR, aR, aR, aR, aR, aR, aR, aR, aR, aR, trivial⟩ trivial ?_
         refine RunC.cond_true rfl rfl ?_
         obtain ⟨r12, hf19, h4_⟩ := obind_some h4_
         obtain ⟨x13, hx20, h4_⟩ := olet_some h4_
         obtain ⟨x14, hx21, h4_⟩ := olet_some h4_
         refine RunC.regionW ?_
         refine zM (r := ik .u8 e3) rfl rfl rfl rfl rfl ?_
         refine ROps.d (r := ik .u8 r12) (fs := []) (Γ' := []) rfl rfl rfl (TOp.callB (CallAs.func ent79 rfl rfl) (Bors.cons (Bor.pure rfl) Bors.nil) rfl rfl (x_internal_strconv_lower_ok e3 r12 hf19)) rfl ?_
         refine zL (r := ik .u8 x13) rfl rfl rfl (LOp.eqr (LOp.sub rfl rfl rfl) (congrArg (ik .u8) hx20)) ?_
         refine zL (r := ik .u8 x14) rfl rfl rfl (LOp.eqr (LOp.add rfl rfl rfl) (congrArg (ik .u8) hx21)) ?_
         refine zA (r := ik .u8 x14) rfl rfl rfl rfl rfl ?_
         refine zN ?_
         exact ⟨x14, ⟨aR, aR, aR, aR, aR, aR, aR, aR, aR, aR, aR, trivial⟩, trivial, h4_⟩
        ·refine RunC.regionW ?_
         refine zM (r := ik .u8 e3) rfl rfl rfl rfl rfl ?_
         refine ROps.d (r := ik .u8 r10) (fs := []) (Γ' := []) rfl rfl rfl (TOp.callB (CallAs.func ent79 rfl rfl) (Bors.cons (Bor.pure rfl) Bors.nil) rfl rfl (x_internal_strconv_lower_ok e3 r10 hf15)) rfl ?_
         refine zL (r := b true) rfl rfl rfl (LOp.eqb (LOp.leq rfl rfl rfl) hc16) ?_
         refine zM (r := b true) rfl rfl rfl rfl rfl ?_
         refine zM (r := ik .u8 e3) rfl rfl rfl rfl rfl ?_
         refine ROps.d (r := ik .u8 r11) (fs := []) (Γ' := []) rfl rfl rfl (TOp.callB (CallAs.func ent79 rfl rfl) (Bors.cons (Bor.pure rfl) Bors.nil) rfl rfl (x_internal_strconv_lower_ok e3 r11 hf17)) rfl ?_
         refine zL (r := b false) rfl rfl rfl (LOp.eqb (LOp.leq rfl rfl rfl) hc18) ?_
         refine zL (r := b false) rfl rfl rfl (LOp.pick_true rfl rfl rfl) ?_
         refine zA (r := b false) rfl rfl rfl rfl rfl ?_
         refine zN ?_
         refine RunC.wl (τ' := [(1, i64 16), (8, b false), (9, str a0), (10, ik .u64 1152921504606846976), (11, ik .u64 4294967295), (12, b false), (13, ik .u64 v1), (15, ik .u8 e3), (99, sl (bytI a0).length ((bytI a0).map (ik .u8))), (100, i64 ((bytI a0).length : Int)), (101, i64 v2), (110, b false), (121, b false), (126, ik .u8 e3), (127, ik .u8 r11), (128, b false)]) (Γ' := []) ⟨aR, aR, aR, aR, aR, aR, aR, aR, aR, aR, aR, aR, aR, aR, aR, aR, trivial⟩ trivial ?_
         refine RunC.cond_false rfl rfl ?_
         refine zQ ?_
         refine zL (r := x (.iface 103 (.int .i64 2))) rfl rfl rfl (LOp.mkif (v := .int .i64 2) und103 rfl rfl) ?_
         refine zA (r := ik .u64 0) rfl rfl rfl rfl rfl ?_
         refine zA (r := x (.iface 103 (.int .i64 2))) rfl rfl rfl rfl rfl ?_
         refine zN ?_
         refine RunC.ret ?_
         cases Option.some.inj h4_
         have hx7_ := hr4 _ rfl
         subst hx7_
         have hq := Option.some.inj h
         have hq := Sum.inl.inj hq
         subst q0
         exact bodyQ.pure (.inr rfl) rfl (Res.two rfl (RV.tmp rfl) (RV.tmp rfl))
       ·refine RunC.regionW ?_
        refine zM (r := ik .u8 e3) rfl rfl rfl rfl rfl ?_
        refine ROps.d (r := ik .u8 r10) (fs := []) (Γ' := []) rfl rfl rfl (TOp.callB (CallAs.func ent79 rfl rfl) (Bors.cons (Bor.pure rfl) Bors.nil) rfl rfl (x_internal_strconv_lower_ok e3 r10 hf15)) rfl ?_
        refine zL (r := b false) rfl rfl rfl (LOp.eqb (LOp.leq rfl rfl rfl) hc16) ?_
        refine zM (r := b false) rfl rfl rfl rfl rfl ?_
        refine ROps.s rfl rfl rfl ?_
        refine ROps.s rfl rfl rfl ?_
        refine ROps.s rfl rfl rfl ?_
        refine zL (r := b false) rfl rfl rfl (LOp.pick_false rfl rfl rfl) ?_
        refine zA (r := b false) rfl rfl rfl rfl rfl ?_
        refine zN ?_
        refine RunC.wl (τ' := [(1, i64 16), (8, b false), (9, str a0), (10, ik .u64 1152921504606846976), (11, ik .u64 4294967295), (12, b false), (13, ik .u64 v1), (15, ik .u8 e3), (99, sl (bytI a0).length ((bytI a0).map (ik .u8))), (100, i64 ((bytI a0).length : Int)), (101, i64 v2), (110, b false), (121, b false)]) (Γ' := []) ⟨aR, aR, aR, aR, aR, aR, aR, aR, aR, aR, aR, aR, aR, trivial⟩ trivial ?_
        refine RunC.cond_false rfl rfl ?_
        refine zQ ?_
        refine zL (r := x (.iface 103 (.int .i64 2))) rfl rfl rfl (LOp.mkif (v := .int .i64 2) und103 rfl rfl) ?_
        refine zA (r := ik .u64 0) rfl rfl rfl rfl rfl ?_
        refine zA (r := x (.iface 103 (.int .i64 2))) rfl rfl rfl rfl rfl ?_
        refine zN ?_
        refine RunC.ret ?_
        cases Option.some.inj h4_
        have hx8_ := hr4 _ rfl
        subst hx8_
        have hq := Option.some.inj h
        have hq := Sum.inl.inj hq
        subst q0
        exact bodyQ.pure (.inr rfl) rfl (Res.two rfl (RV.tmp rfl) (RV.tmp rfl))
     ·refine RunC.regionW ?_
      refine zM (r := ik .u8 e3) rfl rfl rfl rfl rfl ?_
      refine zL (r := b false) rfl rfl rfl (LOp.eqb (LOp.eql rfl rfl rfl) hc4) ?_
      refine zM (r := b false) rfl rfl rfl rfl rfl ?_
      refine ROps.s rfl rfl rfl ?_
      refine zL (r := b false) rfl rfl rfl (LOp.pick_false rfl rfl rfl) ?_
      refine zA (r := b false) rfl rfl rfl rfl rfl ?_
      refine zN ?_
      refine RunC.cond_false rfl rfl ?_
      refine RunC.seq ?_
      rcases bsel_some h4_ with ⟨hc22, h4_⟩ | ⟨hc22, h4_⟩
      ·rcases bsel_some h4_ with ⟨hc23, h4_⟩ | ⟨hc23, h4_⟩
       ·refine RunC.regionW ?_
        refine zM (r := ik .u8 e3) rfl rfl rfl rfl rfl ?_
        refine zL (r := b true) rfl rfl rfl (LOp.eqb (LOp.leq rfl rfl rfl) hc22) ?_
        refine zM (r := b true) rfl rfl rfl rfl rfl ?_
        refine zM (r := ik .u8 e3) rfl rfl rfl rfl rfl ?_
        refine zL (r := b true) rfl rfl rfl (LOp.eqb (LOp.leq rfl rfl rfl) hc23) ?_
        refine zL (r := b true) rfl rfl rfl (LOp.pick_true rfl rfl rfl) ?_
        refine zA (r := b true) rfl rfl rfl rfl rfl ?_
        refine zN ?_
        refine RunC.cond_true rfl rfl ?_
        obtain ⟨x15, hx24, h4_⟩ := olet_some h4_
        refine RunC.regionW ?_
        refine zM (r := ik .u8 e3) rfl rfl rfl rfl rfl ?_
        refine zL (r := ik .u8 x15) rfl rfl rfl (LOp.eqr (LOp.sub rfl rfl rfl) (congrArg (ik .u8) hx24)) ?_
        refine zA (r := ik .u8 x15) rfl rfl rfl rfl rfl ?_
        refine zN ?_
        exact ⟨x15, ⟨aR, aR, aR, aR, aR, aR, aR, aR, aR, aR, aR, trivial⟩, trivial, h4_⟩
       ·refine RunC.regionW ?_
        refine zM (r := ik .u8 e3) rfl rfl rfl rfl rfl ?_
        refine zL (r := b true) rfl rfl rfl (LOp.eqb (LOp.leq rfl rfl rfl) hc22) ?_
        refine zM (r := b true) rfl rfl rfl rfl rfl ?_
        refine zM (r := ik .u8 e3) rfl rfl rfl rfl rfl ?_
        refine zL (r := b false) rfl rfl rfl (LOp.eqb (LOp.leq rfl rfl rfl) hc23) ?_
        refine zL (r := b false) rfl rfl rfl (LOp.pick_true rfl rfl rfl) ?_
        refine zA (r := b false) rfl rfl rfl rfl rfl ?_
        refine zN ?_
        refine RunC.cond_false rfl rfl ?_
        refine RunC.seq ?_
        obtain ⟨r16, hf25, h4_⟩ := obind_some h4_
        rcases bsel_some h4_ with ⟨hc26, h4_⟩ | ⟨hc26, h4_⟩
        ·obtain ⟨r17, hf27, h4_⟩ := obind_some h4_
         rcases bsel_some h4_ with ⟨hc28, h4_⟩ | ⟨hc28, h4_⟩
         ·refine RunC.regionW ?_
          refine zM (r := ik .u8 e3) rfl rfl rfl rfl rfl ?_
          refine ROps.d (r := ik .u8 r16) (fs := []) (Γ' := []) rfl rfl rfl (TOp.callB (CallAs.func ent79 rfl rfl) (Bors.cons (Bor.pure rfl) Bors.nil) rfl rfl (x_internal_strconv_lower_ok e3 r16 hf25)) rfl ?_
          refine zL (r := b true) rfl rfl rfl (LOp.eqb (LOp.leq rfl rfl rfl) hc26) ?_
          refine zM (r := b true) rfl rfl rfl rfl rfl ?_
          refine zM (r := ik .u8 e3) rfl rfl rfl rfl rfl ?_
          refine ROps.d (r := ik .u8 r17) (fs := []) (Γ' := []) rfl rfl rfl (TOp.callB (CallAs.func ent79 rfl rfl) (Bors.cons (Bor.pure rfl) Bors.nil) rfl rfl (x_internal_strconv_lower_ok e3 r17 hf27)) rfl ?_
          refine zL (r := b true) rfl rfl rfl (LOp.eqb (LOp.leq rfl rfl rfl) hc28) ?_
          refine zL (r := b true) rfl rfl rfl (LOp.pick_true rfl rfl rfl) ?_
          refine zA (r := b true) rfl rfl rfl rfl rfl ?_
          refine zN ?_
          refine RunC.wl (τ' := [(1, i64 16), (8, b false), (9, str a0), (10, ik .u64 1152921504606846976), (11, ik .u64 4294967295), (12, b false), (13, ik .u64 v1), (15, ik .u8 e3), (99, sl (bytI a0).length ((bytI a0).map (ik .u8))), (100, i64 ((bytI a0).length : Int)), (101, i64 v2), (116, ik .u8 e3), (117, b false), (121, b true), (126, ik .u8 e3), (127, ik .u8 r17), (128, b true)]) (Γ' := []) ⟨aR, aR, aR, aR, aR, aR, aR, aR, aR, aR, aR, aR, aR, aR, aR, aR, aR, trivial⟩ trivial ?_
          refine RunC.cond_true rfl rfl ?_
          obtain ⟨r18, hf29, h4_⟩ := obind_some h4_
          obtain ⟨x19, hx30, h4_⟩ := olet_some h4_
          obtain ⟨x20, hx31, h4_⟩ := olet_some h4_
          refine RunC.regionW ?_
          refine zM (r := ik .u8 e3) rfl rfl rfl rfl rfl ?_
          refine ROps.d (r := ik .u8 r18) (fs := []) (Γ' := []) rfl rfl rfl (TOp.callB (CallAs.func ent79 rfl rfl) (Bors.cons (Bor.pure rfl) Bors.nil) rfl rfl (x_internal_strconv_lower_ok e3 r18 hf29)) rfl ?_
          refine zL (r := ik .u8 x19) rfl rfl rfl (LOp.eqr (LOp.sub rfl rfl rfl) (congrArg (ik .u8) hx30)) ?_
          refine zL (r := ik .u8 x20) rfl rfl rfl (LOp.eqr (LOp.add rfl rfl rfl) (congrArg (ik .u8) hx31)) ?_
          refine zA (r := ik .u8 x20) rfl rfl rfl rfl rfl ?_
          refine zN ?_
          exact ⟨x20, ⟨aR, aR, aR, aR, aR, aR, aR, aR, aR, aR, aR, trivial⟩, trivial, h4_⟩
         ·refine RunC.regionW ?_
          refine zM (r := ik .u8 e3) rfl rfl rfl rfl rfl ?_
          refine ROps.d (r := ik .u8 r16) (fs := []) (Γ' := []) rfl rfl rfl (TOp.callB (CallAs.func ent79 rfl rfl) (Bors.cons (Bor.pure rfl) Bors.nil) rfl rfl (x_internal_strconv_lower_ok e3 r16 hf25)) rfl ?_
          refine zL (r := b true) rfl rfl rfl (LOp.eqb (LOp.leq rfl rfl rfl) hc26) ?_
          refine zM (r := b true) rfl rfl rfl rfl rfl ?_
          refine zM (r := ik .u8 e3) rfl rfl rfl rfl rfl ?_
          refine ROps.d (r := ik .u8 r17) (fs := []) (Γ' := []) rfl rfl rfl (TOp.callB (CallAs.func ent79 rfl rfl) (Bors.cons (Bor.pure rfl) Bors.nil) rfl rfl (x_internal_strconv_lower_ok e3 r17 hf27)) rfl ?_
          refine zL (r := b false) rfl rfl rfl (LOp.eqb (LOp.leq rfl rfl rfl) hc28) ?_
          refine zL (r := b false) rfl rfl rfl (LOp.pick_true rfl rfl rfl) ?_
          refine zA (r := b false) rfl rfl rfl rfl rfl ?_
          refine zN ?_
          refine RunC.wl (τ' := [(1, i64 16), (8, b false), (9, str a0), (10, ik .u64 1152921504606846976), (11, ik .u64 4294967295), (12, b false), (13, ik .u64 v1), (15, ik .u8 e3), (99, sl (bytI a0).length ((bytI a0).map (ik .u8))), (100, i64 ((bytI a0).length : Int)), (101, i64 v2), (116, ik .u8 e3), (117, b false), (121, b false), (126, ik .u8 e3), (127, ik .u8 r17), (128, b false)]) (Γ' := []) ⟨aR, aR, aR, aR, aR, aR, aR, aR, aR, aR, aR, aR, aR, aR, aR, aR, aR, trivial⟩ trivial ?_
          refine RunC.cond_false rfl rfl ?_
          refine zQ ?_
          refine zL (r := x (.iface 103 (.int .i64 2))) rfl rfl rfl (LOp.mkif (v := .int .i64 2) und103 rfl rfl) ?_
          refine zA (r := ik .u64 0) rfl rfl rfl rfl rfl ?_
          refine zA (r := x (.iface 103 (.int .i64 2))) rfl rfl rfl rfl rfl ?_
          refine zN ?_
          refine RunC.ret ?_
          cases Option.some.inj h4_
          have hx9_ := hr4 _ rfl
          subst hx9_
          have hq := Option.some.inj h
          have hq := Sum.inl.inj hq
          subst q0
          exact bodyQ.pure (.inr rfl) rfl (Res.two rfl (RV.tmp rfl) (RV.tmp rfl))
        ·refine RunC.regionW ?_
         refine zM (r := ik .u8 e3) rfl rfl rfl rfl rfl ?_
         refine ROps.d (r := ik .u8 r16) (fs := []) (Γ' := []) rfl rfl rfl (TOp.callB (CallAs.func ent79 rfl rfl) (Bors.cons (Bor.pure rfl) Bors.nil) rfl rfl (x_internal_strconv_lower_ok e3 r16 hf25)) rfl ?_
         refine zL (r := b false) rfl rfl rfl (LOp.eqb (LOp.leq rfl rfl rfl) hc26) ?_
         refine zM (r := b false) rfl rfl rfl rfl rfl ?_
         refine ROps.s rfl rfl rfl ?_
         refine ROps.s rfl rfl rfl ?_
         refine ROps.s rfl rfl rfl ?_
         refine zL (r := b false) rfl rfl rfl (LOp.pick_false rfl rfl rfl) ?_
         refine zA (r := b false) rfl rfl rfl rfl rfl ?_
         refine zN ?_
         refine RunC.wl (τ' := [(1, i64 16), (8, b false), (9, str a0), (10, ik .u64 1152921504606846976), (11, ik .u64 4294967295), (12, b false), (13, ik .u64 v1), (15, ik .u8 e3), (99, sl (bytI a0).length ((bytI a0).map (ik .u8))), (100, i64 ((bytI a0).length : Int)), (101, i64 v2), (116, ik .u8 e3), (117, b false), (121, b false)]) (Γ' := []) ⟨aR, aR, aR, aR, aR, aR, aR, aR, aR, aR, aR, aR, aR, aR, trivial⟩ trivial ?_
         refine RunC.cond_false rfl rfl ?_
         refine zQ ?_
         refine zL (r := x (.iface 103 (.int .i64 2))) rfl rfl rfl (LOp.mkif (v := .int .i64 2) und103 rfl rfl) ?_
         refine zA (r := ik .u64 0) rfl rfl rfl rfl rfl ?_
         refine zA (r := x (.iface 103 (.int .i64 2))) rfl rfl rfl rfl rfl ?_
         refine zN ?_
         refine RunC.ret ?_
         cases Option.some.inj h4_
         have hx10_ := hr4 _ rfl
         subst hx10_
         have hq := Option.some.inj h
         have hq := Sum.inl.inj hq
         subst q0
         exact bodyQ.pure (.inr rfl) rfl (Res.two rfl (RV.tmp rfl) (RV.tmp rfl))
      ·refine RunC.regionW ?_
       refine zM (r := ik .u8 e3) rfl rfl rfl rfl rfl ?_
       refine zL (r := b false) rfl rfl rfl (LOp.eqb (LOp.leq rfl rfl rfl) hc22) ?_
       refine zM (r := b false) rfl rfl rfl rfl rfl ?_
       refine ROps.s rfl rfl rfl ?_
       refine ROps.s rfl rfl rfl ?_
       refine zL (r := b false) rfl rfl rfl (LOp.pick_false rfl rfl rfl) ?_
       refine zA (r := b false) rfl rfl rfl rfl rfl ?_
       refine zN ?_
       refine RunC.cond_false rfl rfl ?_
       refine RunC.seq ?_
       obtain ⟨r21, hf32, h4_⟩ := obind_some h4_
       rcases bsel_some h4_ with ⟨hc33, h4_⟩ | ⟨hc33, h4_⟩
       ·obtain ⟨r22, hf34, h4_⟩ := obind_some h4_
        rcases bsel_some h4_ with ⟨hc35, h4_⟩ | ⟨hc35, h4_⟩
        ·refine RunC.regionW ?_
         refine zM (r := ik .u8 e3) rfl rfl rfl rfl rfl ?_
         refine ROps.d (r := ik .u8 r21) (fs := []) (Γ' := []) rfl rfl rfl (TOp.callB (CallAs.func ent79 rfl rfl) (Bors.cons (Bor.pure rfl) Bors.nil) rfl rfl (x_internal_strconv_lower_ok e3 r21 hf32)) rfl ?_
         refine zL (r := b true) rfl rfl rfl (LOp.eqb (LOp.leq rfl rfl rfl) hc33) ?_
         refine zM (r := b true) rfl rfl rfl rfl rfl ?_
         refine zM (r := ik .u8 e3) rfl rfl rfl rfl rfl ?_
         refine ROps.d (r := ik .u8 r22) (fs := []) (Γ' := []) rfl rfl rfl (TOp.callB (CallAs.func ent79 rfl rfl) (Bors.cons (Bor.pure rfl) Bors.nil) rfl rfl (x_internal_strconv_lower_ok e3 r22 hf34)) rfl ?_
         refine zL (r := b true) rfl rfl rfl (LOp.eqb (LOp.leq rfl rfl rfl) hc35) ?_
         refine zL (r := b true) rfl rfl rfl (LOp.pick_true rfl rfl rfl) ?_
         refine zA (r := b true) rfl rfl rfl rfl rfl ?_
         refine zN ?_
         refine RunC.wl (τ' := [(1, i64 16), (8, b false), (9, str a0), (10, ik .u64 1152921504606846976), (11, ik .u64 4294967295), (12, b false), (13, ik .u64 v1), (15, ik .u8 e3), (99, sl (bytI a0).length ((bytI a0).map (ik .u8))), (100, i64 ((bytI a0).length : Int)), (101, i64 v2), (121, b true), (126, ik .u8 e3), (127, ik .u8 r22), (128, b true)]) (Γ' := []) ⟨aR, aR, aR, aR, aR, aR, aR, aR, aR, aR, aR, aR, aR, aR, aR, trivial⟩ trivial ?_
         refine RunC.cond_true rfl rfl ?_
         obtain ⟨r23, hf36, h4_⟩ := obind_some h4_
         obtain ⟨x24, hx37, h4_⟩ := olet_some h4_
         obtain ⟨x25, hx38, h4_⟩ := olet_some h4_
         refine RunC.regionW ?_
         refine zM (r := ik .u8 e3) rfl rfl rfl rfl rfl ?_
         refine ROps.d (r := ik .u8 r23) (fs := []) (Γ' := []) rfl rfl rfl (TOp.callB (CallAs.func ent79 rfl rfl) (Bors.cons (Bor.pure rfl) Bors.nil) rfl rfl (x_internal_strconv_lower_ok e3 r23 hf36)) rfl ?_
         refine zL (r := ik .u8 x24) rfl rfl rfl (LOp.eqr (LOp.sub rfl rfl rfl) (congrArg (ik .u8) hx37)) ?_
         refine zL (r := ik .u8 x25) rfl rfl rfl (LOp.eqr (LOp.add rfl rfl rfl) (congrArg (ik .u8) hx38)) ?_
         refine zA (r := ik .u8 x25) rfl rfl rfl rfl rfl ?_
         refine zN ?_
         exact ⟨x25, ⟨aR, aR, aR, aR, aR, aR, aR, aR, aR, aR, aR, trivial⟩, trivial, h4_⟩
        ·refine RunC.regionW ?_
         refine zM (r := ik .u8 e3) rfl rfl rfl rfl rfl ?_
         refine ROps.d (r := ik .u8 r21) (fs := []) (Γ' := []) rfl rfl rfl (TOp.callB (CallAs.func ent79 rfl rfl) (Bors.cons (Bor.pure rfl) Bors.nil) rfl rfl (x_internal_strconv_lower_ok e3 r21 hf32)) rfl ?_
         refine zL (r := b true) rfl rfl rfl (LOp.eqb (LOp.leq rfl rfl rfl) hc33) ?_
         refine zM (r := b true) rfl rfl rfl rfl rfl ?_
         refine zM (r := ik .u8 e3) rfl rfl rfl rfl rfl ?_
         refine ROps.d (r := ik .u8 r22) (fs := []) (Γ' := []) rfl rfl rfl (TOp.callB (CallAs.func ent79 rfl rfl) (Bors.cons (Bor.pure rfl) Bors.nil) rfl rfl (x_internal_strconv_lower_ok e3 r22 hf34)) rfl ?_
         refine zL (r := b false) rfl rfl rfl (LOp.eqb (LOp.leq rfl rfl rfl) hc35) ?_
         refine zL (r := b false) rfl rfl rfl (LOp.pick_true rfl rfl rfl) ?_
         refine zA (r := b false) rfl rfl rfl rfl rfl ?_
         refine zN ?_
         refine RunC.wl (τ' := [(1, i64 16), (8, b false), (9, str a0), (10, ik .u64 1152921504606846976), (11, ik .u64 4294967295), (12, b false), (13, ik .u64 v1), (15, ik .u8 e3), (99, sl (bytI a0).length ((bytI a0).map (ik .u8))), (100, i64 ((bytI a0).length : Int)), (101, i64 v2), (121, b false), (126, ik .u8 e3), (127, ik .u8 r22), (128, b false)]) (Γ' := []) ⟨aR, aR, aR, aR, aR, aR, aR, aR, aR, aR, aR, aR, aR, aR, aR, trivial⟩ trivial ?_
         refine RunC.cond_false rfl rfl ?_
         refine zQ ?_
         refine zL (r := x (.iface 103 (.int .i64 2))) rfl rfl rfl (LOp.mkif (v := .int .i64 2) und103 rfl rfl) ?_
         refine zA (r := ik .u64 0) rfl rfl rfl rfl rfl ?_
         refine zA (r := x (.iface 103 (.int .i64 2))) rfl rfl rfl rfl rfl ?_
         refine zN ?_
         refine RunC.ret ?_
         cases Option.some.inj h4_
         have hx11_ := hr4 _ rfl
         subst hx11_
         have hq := Option.some.inj h
         have hq := Sum.inl.inj hq
         subst q0
         exact bodyQ.pure (.inr rfl) rfl (Res.two rfl (RV.tmp rfl) (RV.tmp rfl))
       ·refine RunC.regionW ?_
        refine zM (r := ik .u8 e3) rfl rfl rfl rfl rfl ?_
        refine ROps.d (r := ik .u8 r21) (fs := []) (Γ' := []) rfl rfl rfl (TOp.callB (CallAs.func ent79 rfl rfl) (Bors.cons (Bor.pure rfl) Bors.nil) rfl rfl (x_internal_strconv_lower_ok e3 r21 hf32)) rfl ?_
        refine zL (r := b false) rfl rfl rfl (LOp.eqb (LOp.leq rfl rfl rfl) hc33) ?_
        refine zM (r := b false) rfl rfl rfl rfl rfl ?_
        refine ROps.s rfl rfl rfl ?_
        refine ROps.s rfl rfl rfl ?_
        refine ROps.s rfl rfl rfl ?_
        refine zL (r := b false) rfl rfl rfl (LOp.pick_false rfl rfl rfl) ?_
        refine zA (r := b false) rfl rfl rfl rfl rfl ?_
        refine zN ?_
        refine RunC.wl (τ' := [(1, i64 16), (8, b false), (9, str a0), (10, ik .u64 1152921504606846976), (11, ik .u64 4294967295), (12, b false), (13, ik .u64 v1), (15, ik .u8 e3), (99, sl (bytI a0).length ((bytI a0).map (ik .u8))), (100, i64 ((bytI a0).length : Int)), (101, i64 v2), (121, b false)]) (Γ' := []) ⟨aR, aR, aR, aR, aR, aR, aR, aR, aR, aR, aR, aR, trivial⟩ trivial ?_
        refine RunC.cond_false rfl rfl ?_
        refine zQ ?_
        refine zL (r := x (.iface 103 (.int .i64 2))) rfl rfl rfl (LOp.mkif (v := .int .i64 2) und103 rfl rfl) ?_
        refine zA (r := ik .u64 0) rfl rfl rfl rfl rfl ?_
        refine zA (r := x (.iface 103 (.int .i64 2))) rfl rfl rfl rfl rfl ?_
        refine zN ?_
        refine RunC.ret ?_
        cases Option.some.inj h4_
        have hx12_ := hr4 _ rfl
        subst hx12_
        have hq := Option.some.inj h
        have hq := Sum.inl.inj hq
        subst q0
        exact bodyQ.pure (.inr rfl) rfl (Res.two rfl (RV.tmp rfl) (RV.tmp rfl))
    ·rintro τ13 Γ13 ⟨v26, hw13, hd13, h4_⟩
     refine RunC.wl hw13 hd13 ?_
     unfold x_internal_strconv_ParseUint_k2 at h4_
     refine RunC.seq ?_
     refine RunC.seq ?_
     rcases bsel_some h4_ with ⟨hc39, h4_⟩ | ⟨hc39, h4_⟩
     ·refine RunC.regionW ?_
      refine zM (r := ik .u8 v26) rfl rfl rfl rfl rfl ?_
      refine zM (r := i64 16) rfl rfl rfl rfl rfl ?_
      refine zL (r := ik .u8 16) rfl rfl rfl ((show LOp _ _ _ (ik .u8 (IntKind.u8.wrap 16)) from LOp.i2i (src := 3) (dst := 5) ⟨_, pun3⟩ pun5 rfl rfl)) ?_
      refine zL (r := b true) rfl rfl rfl (LOp.eqb (LOp.geq rfl rfl rfl) hc39) ?_
      refine zN ?_
      refine RunC.cond_true rfl rfl ?_
      refine zQ ?_
      refine zL (r := x (.iface 103 (.int .i64 2))) rfl rfl rfl (LOp.mkif (v := .int .i64 2) und103 rfl rfl) ?_
      refine zA (r := ik .u64 0) rfl rfl rfl rfl rfl ?_
      refine zA (r := x (.iface 103 (.int .i64 2))) rfl rfl rfl rfl rfl ?_
      refine zN ?_
      refine RunC.ret ?_
      cases Option.some.inj h4_
      have hx14_ := hr4 _ rfl
      subst hx14_
      have hq := Option.some.inj h
      have hq := Sum.inl.inj hq
      subst q0
      exact bodyQ.pure (.inr rfl) rfl (Res.two rfl (RV.tmp rfl) (RV.tmp rfl))
     ·refine RunC.regionW ?_
      refine zM (r := ik .u8 v26) rfl rfl rfl rfl rfl ?_
      refine zM (r := i64 16) rfl rfl rfl rfl rfl ?_
      refine zL (r := ik .u8 16) rfl rfl rfl ((show LOp _ _ _ (ik .u8 (IntKind.u8.wrap 16)) from LOp.i2i (src := 3) (dst := 5) ⟨_, pun3⟩ pun5 rfl rfl)) ?_
      refine zL (r := b false) rfl rfl rfl (LOp.eqb (LOp.geq rfl rfl rfl) hc39) ?_
      refine zN ?_
      refine RunC.cond_false rfl rfl ?_
      refine RunC.skip ?_
      refine RunC.seq ?_
      refine RunC.seq ?_
      rcases bsel_some h4_ with ⟨hc40, h4_⟩ | ⟨hc40, h4_⟩
      ·refine RunC.regionW ?_
       refine zM (r := ik .u64 v1) rfl rfl rfl rfl rfl ?_
       refine zM (r := ik .u64 1152921504606846976) rfl rfl rfl rfl rfl ?_
       refine zL (r := b true) rfl rfl rfl (LOp.eqb (LOp.geq rfl rfl rfl) hc40) ?_
       refine zN ?_
       refine RunC.cond_true rfl rfl ?_
       refine zQ ?_
       refine zM (r := ik .u64 4294967295) rfl rfl rfl rfl rfl ?_
       refine zL (r := x (.iface 103 (.int .i64 1))) rfl rfl rfl (LOp.mkif (v := .int .i64 1) und103 rfl rfl) ?_
       refine zA (r := ik .u64 4294967295) rfl rfl rfl rfl rfl ?_
       refine zA (r := x (.iface 103 (.int .i64 1))) rfl rfl rfl rfl rfl ?_
       refine zN ?_
       cases Option.some.inj h4_
       have hx15_ := hr4 _ rfl
       subst hx15_
       cases Option.some.inj h
      ·refine RunC.regionW ?_
       refine zM (r := ik .u64 v1) rfl rfl rfl rfl rfl ?_
       refine zM (r := ik .u64 1152921504606846976) rfl rfl rfl rfl rfl ?_
       refine zL (r := b false) rfl rfl rfl (LOp.eqb (LOp.geq rfl rfl rfl) hc40) ?_
       refine zN ?_
       refine RunC.cond_false rfl rfl ?_
       refine RunC.skip ?_
       refine RunC.seq ?_
       obtain ⟨x27, hx41, h4_⟩ := olet_some h4_
       refine RunC.regionW ?_
       refine zM (r := ik .u64 v1) rfl rfl rfl rfl rfl ?_
       refine zM (r := i64 16) rfl rfl rfl rfl rfl ?_
       refine zL (r := ik .u64 16) rfl rfl rfl ((show LOp _ _ _ (ik .u64 (IntKind.u64.wrap 16)) from LOp.i2i (src := 3) (dst := 69) ⟨_, pun3⟩ pun69 rfl rfl)) ?_
       refine zL (r := ik .u64 x27) rfl rfl rfl (LOp.eqr (LOp.mul rfl rfl rfl) (congrArg (ik .u64) hx41)) ?_
       refine zA (r := ik .u64 x27) rfl rfl rfl rfl rfl ?_
       refine zN ?_
       refine RunC.seq ?_
       obtain ⟨x28, hx42, h4_⟩ := olet_some h4_
       obtain ⟨x29, hx43, h4_⟩ := olet_some h4_
       refine RunC.regionW ?_
       refine zM (r := ik .u64 x27) rfl rfl rfl rfl rfl ?_
       refine zM (r := ik .u8 v26) rfl rfl rfl rfl rfl ?_
       refine zL (r := ik .u64 x28) rfl rfl rfl (LOp.eqr (LOp.i2i (src := 5) (dst := 69) ⟨_, pun5⟩ pun69 rfl rfl) (congrArg (ik .u64) hx42)) ?_
       refine zL (r := ik .u64 x29) rfl rfl rfl (LOp.eqr (LOp.add rfl rfl rfl) (congrArg (ik .u64) hx43)) ?_
       refine zA (r := ik .u64 x29) rfl rfl rfl rfl rfl ?_
       refine zN ?_
       refine RunC.seq ?_
       refine RunC.seq ?_
       rcases bsel_some h4_ with ⟨hc44, h4_⟩ | ⟨hc44, h4_⟩
       ·refine RunC.regionW ?_
        refine zM (r := ik .u64 x29) rfl rfl rfl rfl rfl ?_
        refine zM (r := ik .u64 x27) rfl rfl rfl rfl rfl ?_
        refine zL (r := b true) rfl rfl rfl (LOp.eqb (LOp.lss rfl rfl rfl) hc44) ?_
        refine zM (r := b true) rfl rfl rfl rfl rfl ?_
        refine ROps.s rfl rfl rfl ?_
        refine ROps.s rfl rfl rfl ?_
        refine ROps.s rfl rfl rfl ?_
        refine zL (r := b true) rfl rfl rfl (LOp.pick_true rfl rfl rfl) ?_
        refine zN ?_
        refine RunC.cond_true rfl rfl ?_
        refine zQ ?_
        refine zM (r := ik .u64 4294967295) rfl rfl rfl rfl rfl ?_
        refine zL (r := x (.iface 103 (.int .i64 1))) rfl rfl rfl (LOp.mkif (v := .int .i64 1) und103 rfl rfl) ?_
        refine zA (r := ik .u64 4294967295) rfl rfl rfl rfl rfl ?_
        refine zA (r := x (.iface 103 (.int .i64 1))) rfl rfl rfl rfl rfl ?_
        refine zN ?_
        cases Option.some.inj h4_
        have hx16_ := hr4 _ rfl
        subst hx16_
        cases Option.some.inj h
       ·rcases bsel_some h4_ with ⟨hc45, h4_⟩ | ⟨hc45, h4_⟩
        ·refine RunC.regionW ?_
         refine zM (r := ik .u64 x29) rfl rfl rfl rfl rfl ?_
         refine zM (r := ik .u64 x27) rfl rfl rfl rfl rfl ?_
         refine zL (r := b false) rfl rfl rfl (LOp.eqb (LOp.lss rfl rfl rfl) hc44) ?_
         refine zM (r := b false) rfl rfl rfl rfl rfl ?_
         refine zM (r := ik .u64 x29) rfl rfl rfl rfl rfl ?_
         refine zM (r := ik .u64 4294967295) rfl rfl rfl rfl rfl ?_
         refine zL (r := b true) rfl rfl rfl (LOp.eqb (LOp.gtr rfl rfl rfl) hc45) ?_
         refine zL (r := b true) rfl rfl rfl (LOp.pick_false rfl rfl rfl) ?_
         refine zN ?_
         refine RunC.cond_true rfl rfl ?_
         refine zQ ?_
         refine zM (r := ik .u64 4294967295) rfl rfl rfl rfl rfl ?_
         refine zL (r := x (.iface 103 (.int .i64 1))) rfl rfl rfl (LOp.mkif (v := .int .i64 1) und103 rfl rfl) ?_
         refine zA (r := ik .u64 4294967295) rfl rfl rfl rfl rfl ?_
         refine zA (r := x (.iface 103 (.int .i64 1))) rfl rfl rfl rfl rfl ?_
         refine zN ?_
         cases Option.some.inj h4_
         have hx17_ := hr4 _ rfl
         subst hx17_
         cases Option.some.inj h
        ·refine RunC.regionW ?_
         refine zM (r := ik .u64 x29) rfl rfl rfl rfl rfl ?_
         refine zM (r := ik .u64 x27) rfl rfl rfl rfl rfl ?_
         refine zL (r := b false) rfl rfl rfl (LOp.eqb (LOp.lss rfl rfl rfl) hc44) ?_
         refine zM (r := b false) rfl rfl rfl rfl rfl ?_
         refine zM (r := ik .u64 x29) rfl rfl rfl rfl rfl ?_
         refine zM (r := ik .u64 4294967295) rfl rfl rfl rfl rfl ?_
         refine zL (r := b false) rfl rfl rfl (LOp.eqb (LOp.gtr rfl rfl rfl) hc45) ?_
         refine zL (r := b false) rfl rfl rfl (LOp.pick_false rfl rfl rfl) ?_
         refine zN ?_
         refine RunC.cond_false rfl rfl ?_
         refine RunC.skip ?_
         refine RunC.wl (τ' := [(1, i64 16), (8, b false), (9, str a0), (10, ik .u64 1152921504606846976), (11, ik .u64 4294967295), (12, b false), (17, ik .u64 x29), (99, sl (bytI a0).length ((bytI a0).map (ik .u8))), (100, i64 ((bytI a0).length : Int)), (101, i64 v2), (156, ik .u64 x29), (157, ik .u64 4294967295), (158, b false)]) (Γ' := []) ⟨aR, aR, aR, aR, aR, aR, aR, aR, aR, aR, aR, aR, aR, trivial⟩ trivial ?_
         refine RunC.regionW ?_
         refine zM (r := ik .u64 x29) rfl rfl rfl rfl rfl ?_
         refine zA (r := ik .u64 x29) rfl rfl rfl rfl rfl ?_
         refine zN ?_
         obtain ⟨x30, hx46, h4_⟩ := olet_some h4_
         refine RunC.regionW ?_
         refine zL (r := i64 x30) rfl rfl rfl (LOp.eqr (LOp.add rfl rfl rfl) (congrArg (ik .i64) hx46)) ?_
         refine zM (r := i64 x30) rfl rfl rfl rfl rfl ?_
         refine zN ?_
         cases Option.some.inj h4_
         exact ⟨_, rfl, ⟨aR, aR, aR, aR, aR, aR, aR, aR, aR, aR, trivial⟩, trivial⟩
   ·refine RunC.regionW ?_
    refine zL (r := b false) rfl rfl rfl (LOp.eqb (LOp.lss rfl rfl rfl) hc2) ?_
    refine zN ?_
    refine RunC.seq ?_
    refine RunC.cond_false rfl rfl ?_
    refine RunC.exit ?_
    cases Option.some.inj h4_
    have hx := ho4 _ rfl
    exact ⟨v1, ⟨aR, aR, aR, trivial⟩, trivial, hx⟩
  ·rintro τ18 Γ18 ⟨v31, hw18, hd18, rfl⟩
   refine RunC.wl hw18 hd18 ?_
   replace h : x_internal_strconv_ParseUint_k3 v31 = some (Sum.inl q0) := h
   unfold x_internal_strconv_ParseUint_k3 at h
   refine RunC.seq ?_
   refine zQ ?_
   refine zM (r := b false) rfl rfl rfl rfl rfl ?_
   refine zM (r := b false) rfl rfl rfl rfl rfl ?_
   refine ROps.s rfl rfl rfl ?_
   refine ROps.s rfl rfl rfl ?_
   refine ROps.s rfl rfl rfl ?_
   refine zL (r := b false) rfl rfl rfl (LOp.pick_false rfl rfl rfl) ?_
   refine zN ?_
   refine RunC.cond_false rfl rfl ?_
   refine RunC.skip ?_
   refine zQ ?_
   refine zM (r := ik .u64 v31) rfl rfl rfl rfl rfl ?_
   refine zA (r := ik .u64 v31) rfl rfl rfl rfl rfl ?_
   refine zA (r := x .nilIface) rfl rfl rfl rfl rfl ?_
   refine zN ?_
   cases Option.some.inj h
theorem x_internal_strconv_ParseUint_ok1 (a0 : ByteArray) (q0 : Int) (h : x_internal_strconv_ParseUint a0 = some (Sum.inr (Sum.inl q0))) : Ev Tryz.prog 63 [str a0, i64 16, i64 32] [] (tup [ik .u64 q0, x (.iface 103 (.int .i64 1))]) [] := by
 refine Ev.start Tryz.func63 rfl rfl 0 (τ := [(0, str a0), (1, i64 16), (2, i64 32)]) rfl (Γ' := []) rfl (n := 345) rfl (g := 0) rfl (fun _ => rfl) ?_
 unfold x_internal_strconv_ParseUint at h
 refine zQ ?_
 refine zA (r := ik .u64 0) rfl rfl rfl rfl rfl ?_
 refine zA (r := x .nilIface) rfl rfl rfl rfl rfl ?_
 refine zN ?_
 refine RunC.seq ?_
 refine RunC.seq ?_
 rcases bsel_some h with ⟨hc1, h⟩ | ⟨hc1, h⟩
 ·refine RunC.regionW ?_
  refine zM (r := str a0) rfl rfl rfl rfl rfl ?_
  refine zL (r := b true) rfl rfl rfl (LOp.eqb (LOp.eqs rfl rfl rfl) hc1) ?_
  refine zN ?_
  refine RunC.cond_true rfl rfl ?_
  refine zQ ?_
  refine zL (r := x (.iface 103 (.int .i64 2))) rfl rfl rfl (LOp.mkif (v := .int .i64 2) und103 rfl rfl) ?_
  refine zA (r := ik .u64 0) rfl rfl rfl rfl rfl ?_
  refine zA (r := x (.iface 103 (.int .i64 2))) rfl rfl rfl rfl rfl ?_
  refine zN ?_
  cases Option.some.inj h
 ·refine RunC.regionW ?_
  refine zM (r := str a0) rfl rfl rfl rfl rfl ?_
  refine zL (r := b false) rfl rfl rfl (LOp.eqb (LOp.eqs rfl rfl rfl) hc1) ?_
  refine zN ?_
  refine RunC.cond_false rfl rfl ?_
  refine RunC.skip ?_
  refine zQ ?_
  refine zM (r := i64 16) rfl rfl rfl rfl rfl ?_
  refine zL (r := b false) rfl rfl rfl ((show LOp _ _ _ (b (decide ((16 : Int) = 0))) from LOp.eql rfl rfl rfl)) ?_
  refine zA (r := b false) rfl rfl rfl rfl rfl ?_
  refine zN ?_
  refine zQ ?_
  refine zM (r := str a0) rfl rfl rfl rfl rfl ?_
  refine zA (r := str a0) rfl rfl rfl rfl rfl ?_
  refine zN ?_
  refine RunC.seq ?_
  refine RunC.block ?_
  refine zQ ?_
  refine zM (r := i64 16) rfl rfl rfl rfl rfl ?_
  refine zL (r := b true) rfl rfl rfl ((show LOp _ _ _ (b (decide ((2 : Int) ≤ 16))) from LOp.leq rfl rfl rfl)) ?_
  refine zM (r := b true) rfl rfl rfl rfl rfl ?_
  refine zM (r := i64 16) rfl rfl rfl rfl rfl ?_
  refine zL (r := b true) rfl rfl rfl ((show LOp _ _ _ (b (decide ((16 : Int) ≤ 36))) from LOp.leq rfl rfl rfl)) ?_
  refine zL (r := b true) rfl rfl rfl (LOp.pick_true rfl rfl rfl) ?_
  refine zA (r := b true) rfl rfl rfl rfl rfl ?_
  refine zN ?_
  refine RunC.cond_true rfl rfl ?_
  refine RunC.skip ?_
  refine RunC.seq ?_
  refine zQ ?_
  refine zM (r := i64 32) rfl rfl rfl rfl rfl ?_
  refine zL (r := b false) rfl rfl rfl ((show LOp _ _ _ (b (decide ((32 : Int) = 0))) from LOp.eql rfl rfl rfl)) ?_
  refine zN ?_
  refine RunC.cond_false rfl rfl ?_
  refine zQ ?_
  refine zM (r := i64 32) rfl rfl rfl rfl rfl ?_
  refine zL (r := b false) rfl rfl rfl ((show LOp _ _ _ (b (decide ((32 : Int) < 0))) from LOp.lss rfl rfl rfl)) ?_
  refine zM (r := b false) rfl rfl rfl rfl rfl ?_
  refine zM (r := i64 32) rfl rfl rfl rfl rfl ?_
  refine zL (r := b false) rfl rfl rfl ((show LOp _ _ _ (b (decide ((64 : Int) < 32))) from LOp.gtr rfl rfl rfl)) ?_
  refine zL (r := b false) rfl rfl rfl (LOp.pick_false rfl rfl rfl) ?_
  refine zN ?_
  refine RunC.cond_false rfl rfl ?_
  refine RunC.skip ?_
  refine zQ ?_
  refine zA (r := ik .u64 0) rfl rfl rfl rfl rfl ?_
  refine zN ?_
  refine RunC.seq ?_
  refine zQ ?_
  refine zM (r := i64 16) rfl rfl rfl rfl rfl ?_
  refine zN ?_
  refine RunC.block ?_
  refine zQ ?_
  refine zL (r := b false) rfl rfl rfl ((show LOp _ _ _ (b (decide ((16 : Int) = 10))) from LOp.eql rfl rfl rfl)) ?_
  refine zA (r := b false) rfl rfl rfl rfl rfl ?_
  refine zN ?_
  refine RunC.cond_false rfl rfl ?_
  refine zQ ?_
  refine zL (r := b true) rfl rfl rfl ((show LOp _ _ _ (b (decide ((16 : Int) = 16))) from LOp.eql rfl rfl rfl)) ?_
  refine zA (r := b true) rfl rfl rfl rfl rfl ?_
  refine zN ?_
  refine RunC.wl (τ' := [(0, str a0), (1, i64 16), (2, i64 32), (8, b false), (9, str a0), (92, b true)]) (Γ' := []) ⟨aR, aR, aR, aR, aR, aR, trivial⟩ trivial ?_
  refine RunC.cond_true rfl rfl ?_
  refine RunC.regionW ?_
  refine zA (r := ik .u64 1152921504606846976) rfl rfl rfl rfl rfl ?_
  refine zN ?_
  refine zQ ?_
  refine zM (r := i64 32) rfl rfl rfl rfl rfl ?_
  refine zL (r := ik .u64 32) rfl rfl rfl ((show LOp _ _ _ (ik .u64 (IntKind.u64.wrap 32)) from LOp.i2i (src := 3) (dst := 87) ⟨_, pun3⟩ pun87 rfl rfl)) ?_
  refine zL (r := ik .u64 4294967296) rfl rfl rfl ((show LOp _ _ _ (ik .u64 (ishl .u64 1 32)) from LOp.shl rfl rfl rfl (by decide))) ?_
  refine zL (r := ik .u64 4294967295) rfl rfl rfl ((show LOp _ _ _ (ik .u64 (IntKind.u64.wrap (4294967296 - 1))) from LOp.sub rfl rfl rfl)) ?_
  refine zA (r := ik .u64 4294967295) rfl rfl rfl rfl rfl ?_
  refine zN ?_
  refine zQ ?_
  refine zA (r := b false) rfl rfl rfl rfl rfl ?_
  refine zN ?_
  refine zQ ?_
  refine zA (r := ik .u64 0) rfl rfl rfl rfl rfl ?_
  refine zN ?_
  refine RunC.seq ?_
  refine zQ ?_
  refine zM (r := str a0) rfl rfl rfl rfl rfl ?_
  refine ROps.d (r := sl (bytI a0).length ((bytI a0).map (ik .u8))) (fs := []) (Γ' := []) rfl rfl rfl (TOp.s2b pun9 pun105 pun5 rfl rfl) rfl ?_
  refine zL (r := i64 ((bytI a0).length : Int)) rfl rfl rfl (LOp.len_sl und105 rfl rfl) ?_
  refine zM (r := i64 0) rfl rfl rfl rfl rfl ?_
  refine zN ?_
  obtain ⟨z19, hz_19, h⟩ := obind_some h
  refine RunC.cutN (fun τ Γ => ∃ (v31 : Int), WeakLe τ [(9, str a0), (12, b false), (13, ik .u64 v31)] ∧ DeadLe Γ [] ∧ z19 = .inl v31) ?_ ?_
  ·refine RunC.block (RunC.loop (RunL.loopM (x := z19) (x_internal_strconv_ParseUint_s3 a0) (fun (s : Int × Int) τ Γ => WeakLe τ [(1, i64 16), (8, b false), (9, str a0), (10, ik .u64 1152921504606846976), (11, ik .u64 4294967295), (12, b false), (13, ik .u64 s.1), (99, sl (bytI a0).length ((bytI a0).map (ik .u8))), (100, i64 ((bytI a0).length : Int)), (101, i64 s.2)] ∧ DeadLe Γ []) ?_ _ _ _ hz_19 ⟨⟨aR, aR, aR, aR, aR, aR, aR, aR, aR, aR, trivial⟩, trivial⟩))
   rintro ⟨v1, v2⟩ τ19 Γ19 y19_ ⟨hw19, hd19⟩ h19_ ho19 hr19
   refine RunC.wl (τ' := [(1, i64 16), (8, b false), (9, str a0), (10, ik .u64 1152921504606846976), (11, ik .u64 4294967295), (12, b false), (13, ik .u64 v1), (99, sl (bytI a0).length ((bytI a0).map (ik .u8))), (100, i64 ((bytI a0).length : Int)), (101, i64 v2)]) (Γ' := []) hw19 hd19 ?_
   replace h19_ : x_internal_strconv_ParseUint_b3 a0 v1 v2 = some y19_ := h19_
   unfold x_internal_strconv_ParseUint_b3 at h19_
   refine RunC.seq ?_
   rcases bsel_some h19_ with ⟨hc2, h19_⟩ | ⟨hc2, h19_⟩
   ·refine RunC.regionW ?_
    refine zL (r := b true) rfl rfl rfl (LOp.eqb (LOp.lss rfl rfl rfl) hc2) ?_
    refine zN ?_
    refine RunC.seq ?_
    refine RunC.cond_true rfl rfl ?_
    refine RunC.skip ?_
    refine RunC.seq ?_
    refine RunC.block ?_
    refine RunC.seq ?_
    obtain ⟨e3, he3, h19_⟩ := obind_some h19_
    refine RunC.regionW ?_
    refine zL (r := ptr [ik .u8 e3]) rfl rfl rfl (LOp.le (LOp.ix (f := (ik .u8)) und105 siz5 rfl rfl rfl rfl he3) ALe.ptr) ?_
    refine zL (r := ik .u8 e3) rfl rfl rfl (LOp.load1 agg5 rfl rfl) ?_
    refine zA (r := ik .u8 e3) rfl rfl rfl rfl rfl ?_
    refine zN ?_
    refine zQ ?_
    refine zA (r := ik .u8 0) rfl rfl rfl rfl rfl ?_
    refine zN ?_
    refine RunC.seq ?_
    refine RunC.cutN (fun τ Γ => ∃ (v26 : Int), WeakLe τ [(1, i64 16), (8, b false), (9, str a0), (10, ik .u64 1152921504606846976), (11, ik .u64 4294967295), (12, b false), (13, ik .u64 v1), (16, ik .u8 v26), (99, sl (bytI a0).length ((bytI a0).map (ik .u8))), (100, i64 ((bytI a0).length : Int)), (101, i64 v2)] ∧ DeadLe Γ [] ∧ x_internal_strconv_ParseUint_k2 v1 v2 v26 = some y19_) ?_ ?_
    ·refine RunC.block ?_
     refine RunC.seq ?_
     rcases bsel_some h19_ with ⟨hc4, h19_⟩ | ⟨hc4, h19_⟩
     ·refine RunC.regionW ?_
      refine zM (r := ik .u8 e3) rfl rfl rfl rfl rfl ?_
      refine zL (r := b true) rfl rfl rfl (LOp.eqb (LOp.eql rfl rfl rfl) hc4) ?_
      refine zM (r := b true) rfl rfl rfl rfl rfl ?_
      refine zM (r := b false) rfl rfl rfl rfl rfl ?_
      refine zL (r := b false) rfl rfl rfl (LOp.pick_true rfl rfl rfl) ?_
      refine zA (r := b false) rfl rfl rfl rfl rfl ?_
      refine zN ?_
      refine RunC.cond_false rfl rfl ?_
      refine RunC.seq ?_
      rcases bsel_some h19_ with ⟨hc5, h19_⟩ | ⟨hc5, h19_⟩
      ·rcases bsel_some h19_ with ⟨hc6, h19_⟩ | ⟨hc6, h19_⟩
       ·refine RunC.regionW ?_
        refine zM (r := ik .u8 e3) rfl rfl rfl rfl rfl ?_
        refine zL (r := b true) rfl rfl rfl (LOp.eqb (LOp.leq rfl rfl rfl) hc5) ?_
        refine zM (r := b true) rfl rfl rfl rfl rfl ?_
        refine zM (r := ik .u8 e3) rfl rfl rfl rfl rfl ?_
        refine zL (r := b true) rfl rfl rfl (LOp.eqb (LOp.leq rfl rfl rfl) hc6) ?_
        refine zL (r := b true) rfl rfl rfl (LOp.pick_true rfl rfl rfl) ?_
        refine zA (r := b true) rfl rfl rfl rfl rfl ?_
        refine zN ?_
        refine RunC.cond_true rfl rfl ?_
        obtain ⟨x4, hx7, h19_⟩ := olet_some h19_
        refine RunC.regionW ?_
        refine zM (r := ik .u8 e3) rfl rfl rfl rfl rfl ?_
        refine zL (r := ik .u8 x4) rfl rfl rfl (LOp.eqr (LOp.sub rfl rfl rfl) (congrArg (ik .u8) hx7)) ?_
        refine zA (r := ik .u8 x4) rfl rfl rfl rfl rfl ?_
        refine zN ?_
        exact ⟨x4, ⟨aR, aR, aR, aR, aR, aR, aR, aR, aR, aR, aR, trivial⟩, trivial, h19_⟩
       ·refine RunC.regionW ?_
        refine zM (r := ik .u8 e3) rfl rfl rfl rfl rfl ?_
        refine zL (r := b true) rfl rfl rfl (LOp.eqb (LOp.leq rfl rfl rfl) hc5) ?_
        refine zM (r := b true) rfl rfl rfl rfl rfl ?_
        refine zM (r := ik .u8 e3) rfl rfl rfl rfl rfl ?_
        refine zL (r := b false) rfl rfl rfl (LOp.eqb (LOp.leq rfl rfl rfl) hc6) ?_
        refine zL (r := b false) rfl rfl rfl (LOp.pick_true rfl rfl rfl) ?_
        refine zA (r := b false) rfl rfl rfl rfl rfl ?_
        refine zN ?_
        refine RunC.cond_false rfl rfl ?_
        refine RunC.seq ?_
        obtain ⟨r5, hf8, h19_⟩ := obind_some h19_
        rcases bsel_some h19_ with ⟨hc9, h19_⟩ | ⟨hc9, h19_⟩
        ·obtain ⟨r6, hf10, h19_⟩ := obind_some h19_
         rcases bsel_some h19_ with ⟨hc11, h19_⟩ | ⟨hc11, h19_⟩
         ·refine RunC.regionW ?_
          refine zM (r := ik .u8 e3) rfl rfl rfl rfl rfl ?_
          refine ROps.d (r := ik .u8 r5) (fs := []) (Γ' := []) rfl rfl rfl (TOp.callB (CallAs.func ent79 rfl rfl) (Bors.cons (Bor.pure rfl) Bors.nil) rfl rfl (x_internal_strconv_lower_ok e3 r5 hf8)) rfl ?_
          refine zL (r := b true) rfl rfl rfl (LOp.eqb (LOp.leq rfl rfl rfl) hc9) ?_
          refine zM (r := b true) rfl rfl rfl rfl rfl ?_
          refine zM (r := ik .u8 e3) rfl rfl rfl rfl rfl ?_
          refine ROps.d (r := ik .u8 r6) (fs := []) (Γ' := []) rfl rfl rfl (TOp.callB (CallAs.func ent79 rfl rfl) (Bors.cons (Bor.pure rfl) Bors.nil) rfl rfl (x_internal_strconv_lower_ok e3 r6 hf10)) rfl ?_
          refine zL (r := b true) rfl rfl rfl (LOp.eqb (LOp.leq rfl rfl rfl) hc11) ?_
          refine zL (r := b true) rfl rfl rfl (LOp.pick_true rfl rfl rfl) ?_
          refine zA (r := b true) rfl rfl rfl rfl rfl ?_
          refine zN ?_
          refine RunC.wl (τ' := [(1, i64 16), (8, b false), (9, str a0), (10, ik .u64 1152921504606846976), (11, ik .u64 4294967295), (12, b false), (13, ik .u64 v1), (15, ik .u8 e3), (99, sl (bytI a0).length ((bytI a0).map (ik .u8))), (100, i64 ((bytI a0).length : Int)), (101, i64 v2), (110, b false), (116, ik .u8 e3), (117, b false), (121, b true), (126, ik .u8 e3), (127, ik .u8 r6), (128, b true)]) (Γ' := []) ⟨aR, aR, aR, aR, aR, aR, aR, aR, aR, aR, aR, aR, aR, aR, aR, aR, aR, aR, trivial⟩ trivial ?_
          refine RunC.cond_true rfl rfl ?_
          obtain ⟨r7, hf12, h19_⟩ := obind_some h19_
          obtain ⟨x8, hx13, h19_⟩ := olet_some h19_
          obtain ⟨x9, hx14, h19_⟩ := olet_some h19_
          refine RunC.regionW ?_
          refine zM (r := ik .u8 e3) rfl rfl rfl rfl rfl ?_
          refine ROps.d (r := ik .u8 r7) (fs := []) (Γ' := []) rfl rfl rfl (TOp.callB (CallAs.func ent79 rfl rfl) (Bors.cons (Bor.pure rfl) Bors.nil) rfl rfl (x_internal_strconv_lower_ok e3 r7 hf12)) rfl ?_
          refine zL (r := ik .u8 x8) rfl rfl rfl (LOp.eqr (LOp.sub rfl rfl rfl) (congrArg (ik .u8) hx13)) ?_
          refine zL (r := ik .u8 x9) rfl rfl rfl (LOp.eqr (LOp.add rfl rfl rfl) (congrArg (ik .u8) hx14)) ?_
          refine zA (r := ik .u8 x9) rfl rfl rfl rfl rfl ?_
          refine zN ?_
          exact ⟨x9, ⟨aR, aR, aR, aR, aR, aR, aR, aR, aR, aR, aR, trivial⟩, trivial, h19_⟩
         ·refine RunC.regionW ?_
          refine zM (r := ik .u8 e3) rfl rfl rfl rfl rfl ?_
          refine ROps.d (r := ik .u8 r5) (fs := []) (Γ' := []) rfl rfl rfl (TOp.callB (CallAs.func ent79 rfl rfl) (Bors.cons (Bor.pure rfl) Bors.nil) rfl rfl (x_internal_strconv_lower_ok e3 r5 hf8)) rfl ?_
          refine zL (r := b true) rfl rfl rfl (LOp.eqb (LOp.leq rfl rfl rfl) hc9) ?_
          refine zM (r := b true) rfl rfl rfl rfl rfl ?_
          refine zM (r := ik .u8 e3) rfl rfl rfl rfl rfl ?_
          refine ROps.d (r := ik .u8 r6) (fs := []) (Γ' := []) rfl rfl rfl (TOp.callB (CallAs.func ent79 rfl rfl) (Bors.cons (Bor.pure rfl) Bors.nil) rfl rfl (x_internal_strconv_lower_ok e3 r6 hf10)) rfl ?_
          refine zL (r := b false) rfl rfl rfl (LOp.eqb (LOp.leq rfl rfl rfl) hc11) ?_
          refine zL (r := b false) rfl rfl rfl (LOp.pick_true rfl rfl rfl) ?_
          refine zA (r := b false) rfl rfl rfl rfl rfl ?_
          refine zN ?_
          refine RunC.wl (τ' := [(1, i64 16), (8, b false), (9, str a0), (10, ik .u64 1152921504606846976), (11, ik .u64 4294967295), (12, b false), (13, ik .u64 v1), (15, ik .u8 e3), (99, sl (bytI a0).length ((bytI a0).map (ik .u8))), (100, i64 ((bytI a0).length : Int)), (101, i64 v2), (110, b false), (116, ik .u8 e3), (117, b false), (121, b false), (126, ik .u8 e3), (127, ik .u8 r6), (128, b false)]) (Γ' := []) ⟨aR, aR, aR, aR, aR, aR, aR, aR, aR, aR, aR, aR, aR, aR, aR, aR, aR, aR, trivial⟩ trivial ?_
          refine RunC.cond_false rfl rfl ?_
          refine zQ ?_
          refine zL (r := x (.iface 103 (.int .i64 2))) rfl rfl rfl (LOp.mkif (v := .int .i64 2) und103 rfl rfl) ?_
          refine zA (r := ik .u64 0) rfl rfl rfl rfl rfl ?_
          refine zA (r := x (.iface 103 (.int .i64 2))) rfl rfl rfl rfl rfl ?_
          refine zN ?_
          cases Option.some.inj h19_
          have hx20_ := hr19 _ rfl
          subst hx20_
          cases Option.some.inj h
        ·refine RunC.regionW ?_
         refine zM (r := ik .u8 e3) rfl rfl rfl rfl rfl ?_
         refine ROps.d (r := ik .u8 r5) (fs := []) (Γ' := []) rfl rfl rfl (TOp.callB (CallAs.func ent79 rfl rfl) (Bors.cons (Bor.pure rfl) Bors.nil) rfl rfl (x_internal_strconv_lower_ok e3 r5 hf8)) rfl ?_
         refine zL (r := b false) rfl rfl rfl (LOp.eqb (LOp.leq rfl rfl rfl) hc9) ?_
         refine zM (r := b false) rfl rfl rfl rfl rfl ?_
         refine ROps.s rfl rfl rfl ?_
         refine ROps.s rfl rfl rfl ?_
         refine ROps.s rfl rfl rfl ?_
         refine zL (r := b false) rfl rfl rfl (LOp.pick_false rfl rfl rfl) ?_
         refine zA (r := b false) rfl rfl rfl rfl rfl ?_
         refine zN ?_
         refine RunC.wl (τ' := [(1, i64 16), (8, b false), (9, str a0), (10, ik .u64 1152921504606846976), (11, ik .u64 4294967295), (12, b false), (13, ik .u64 v1), (15, ik .u8 e3), (99, sl (bytI a0).length ((bytI a0).map (ik .u8))), (100, i64 ((bytI a0).length : Int)), (101, i64 v2), (110, b false), (116, ik .u8 e3), (117, b false), (121, b false)]) (Γ' := []) ⟨aR, aR, aR, aR, aR, aR, aR, aR, aR, aR, aR, aR, aR, aR, aR, trivial⟩ trivial ?_
         refine RunC.cond_false rfl rfl ?_
         refine zQ ?_
         refine zL (r := x (.iface 103 (.int .i64 2))) rfl rfl rfl (LOp.mkif (v := .int .i64 2) und103 rfl rfl) ?_
         refine zA (r := ik .u64 0) rfl rfl rfl rfl rfl ?_
         refine zA (r := x (.iface 103 (.int .i64 2))) rfl rfl rfl rfl rfl ?_
         refine zN ?_
         cases Option.some.inj h19_
         have hx21_ := hr19 _ rfl
         subst hx21_
         cases Option.some.inj h
      ·refine RunC.regionW ?_
       refine zM (r := ik .u8 e3) rfl rfl rfl rfl rfl ?_
       refine zL (r := b false) rfl rfl rfl (LOp.eqb (LOp.leq rfl rfl rfl) hc5) ?_
       refine zM (r := b false) rfl rfl rfl rfl rfl ?_
       refine ROps.s rfl rfl rfl ?_
       refine ROps.s rfl rfl rfl ?_
       refine zL (r := b false) rfl rfl rfl (LOp.pick_false rfl rfl rfl) ?_
       refine zA (r := b false) rfl rfl rfl rfl rfl ?_
       refine zN ?_
       refine RunC.cond_false rfl rfl ?_
       refine RunC.seq ?_
       obtain ⟨r10, hf15, h19_⟩ := obind_some h19_
       rcases bsel_some h19_ with ⟨hc16, h19_⟩ | ⟨hc16, h19_⟩
       ·obtain ⟨r11, hf17, h19_⟩ := obind_some h19_
        rcases bsel_some h19_ with ⟨hc18, h19_⟩ | ⟨hc18, h19_⟩
        ·refine RunC.regionW ?_
         refine zM (r := ik .u8 e3) rfl rfl rfl rfl rfl ?_
         refine ROps.d (r := ik .u8 r10) (fs := []) (Γ' := []) rfl rfl rfl (TOp.callB (CallAs.func ent79 rfl rfl) (Bors.cons (Bor.pure rfl) Bors.nil) rfl rfl (x_internal_strconv_lower_ok e3 r10 hf15)) rfl ?_
         refine zL (r := b true) rfl rfl rfl (LOp.eqb (LOp.leq rfl rfl rfl) hc16) ?_
         refine zM (r := b true) rfl rfl rfl rfl rfl ?_
         refine zM (r := ik .u8 e3) rfl rfl rfl rfl rfl ?_
         refine ROps.d (r := ik .u8 r11) (fs := []) (Γ' := []) rfl rfl rfl (TOp.callB (CallAs.func ent79 rfl rfl) (Bors.cons (Bor.pure rfl) Bors.nil) rfl rfl (x_internal_strconv_lower_ok e3 r11 hf17)) rfl ?_
         refine zL (r := b true) rfl rfl rfl (LOp.eqb (LOp.leq rfl rfl rfl) hc18) ?_
         refine zL (r := b true) rfl rfl rfl (LOp.pick_true rfl rfl rfl) ?_
         refine zA (r := b true) rfl rfl rfl rfl rfl ?_
         refine zN ?_
         refine RunC.wl (τ' := [(1, i64 16), (8, b false), (9, str a0), (10, ik .u64 1152921504606846976), (11, ik .u64 4294967295), (12, b false), (13, ik .u64 v1), (15, ik .u8 e3), (99, sl (bytI a0).length ((bytI a0).map (ik .u8))), (100, i64 ((bytI a0).length : Int)), (101, i64 v2), (110, b false), (121, b true), (126, ik .u8 e3), (127, ik .u8 r11), (128, b true)]) (Γ' := []) ⟨aR, aR, aR, aR, aR, aR, aR, aR, aR, aR, aR, aR, aR, aR, aR, aR, trivial⟩ trivial ?_
         refine RunC.cond_true rfl rfl ?_
         obtain ⟨r12, hf19, h19_⟩ := obind_some h19_
         obtain ⟨x13, hx20, h19_⟩ := olet_some h19_
         obtain ⟨x14, hx21, h19_⟩ := olet_some h19_
         refine RunC.regionW ?_
         refine zM (r := ik .u8 e3) rfl rfl rfl rfl rfl ?_
         refine ROps.d (r := ik .u8 r12) (fs := []) (Γ' := []) rfl rfl rfl (TOp.callB (CallAs.func ent79 rfl rfl) (Bors.cons (Bor.pure rfl) Bors.nil) rfl rfl (x_internal_strconv_lower_ok e3 r12 hf19)) rfl ?_
         refine zL (r := ik .u8 x13) rfl rfl rfl (LOp.eqr (LOp.sub rfl rfl rfl) (congrArg (ik .u8) hx20)) ?_
         refine zL (r := ik .u8 x14) rfl rfl rfl (LOp.eqr (LOp.add rfl rfl rfl) (congrArg (ik .u8) hx21)) ?_
         refine zA (r := ik .u8 x14) rfl rfl rfl rfl rfl ?_
         refine zN ?_
         exact ⟨x14, ⟨aR, aR, aR, aR, aR, aR, aR, aR, aR, aR, aR, trivial⟩, trivial, h19_⟩
        ·refine RunC.regionW ?_
         refine zM (r := ik .u8 e3) rfl rfl rfl rfl rfl ?_
         refine ROps.d (r := ik .u8 r10) (fs := []) (Γ' := []) rfl rfl rfl (TOp.callB (CallAs.func ent79 rfl rfl) (Bors.cons (Bor.pure rfl) Bors.nil) rfl rfl (x_internal_strconv_lower_ok e3 r10 hf15)) rfl ?_
         refine zL (r := b true) rfl rfl rfl (LOp.eqb (LOp.leq rfl rfl rfl) hc16) ?_
         refine zM (r := b true) rfl rfl rfl rfl rfl ?_
         refine zM (r := ik .u8 e3) rfl rfl rfl rfl rfl ?_
         refine ROps.d (r := ik .u8 r11) (fs := []) (Γ' := []) rfl rfl rfl (TOp.callB (CallAs.func ent79 rfl rfl) (Bors.cons (Bor.pure rfl) Bors.nil) rfl rfl (x_internal_strconv_lower_ok e3 r11 hf17)) rfl ?_
         refine zL (r := b false) rfl rfl rfl (LOp.eqb (LOp.leq rfl rfl rfl) hc18) ?_
         refine zL (r := b false) rfl rfl rfl (LOp.pick_true rfl rfl rfl) ?_
         refine zA (r := b false) rfl rfl rfl rfl rfl ?_
         refine zN ?_
         refine RunC.wl (τ' := [(1, i64 16), (8, b false), (9, str a0), (10, ik .u64 1152921504606846976), (11, ik .u64 4294967295), (12, b false), (13, ik .u64 v1), (15, ik .u8 e3), (99, sl (bytI a0).length ((bytI a0).map (ik .u8))), (100, i64 ((bytI a0).length : Int)), (101, i64 v2), (110, b false), (121, b false), (126, ik .u8 e3), (127, ik .u8 r11), (128, b false)]) (Γ' := []) ⟨aR, aR, aR, aR, aR, aR, aR, aR, aR, aR, aR, aR, aR, aR, aR, aR, trivial⟩ trivial ?_
         refine RunC.cond_false rfl rfl ?_
         refine zQ ?_
         refine zL (r := x (.iface 103 (.int .i64 2))) rfl rfl rfl (LOp.mkif (v := .int .i64 2) und103 rfl rfl) ?_
         refine zA (r := ik .u64 0) rfl rfl rfl rfl rfl ?_
         refine zA (r := x (.iface 103 (.int .i64 2))) rfl rfl rfl rfl rfl ?_
         refine zN ?_
         cases Option.some.inj h19_
         have hx22_ := hr19 _ rfl
         subst hx22_
         cases Option.some.inj h
       ·refine RunC.regionW ?_
        refine zM (r := ik .u8 e3) rfl rfl rfl rfl rfl ?_
        refine ROps.d (r := ik .u8 r10) (fs := []) (Γ' := []) rfl rfl rfl (TOp.callB (CallAs.func ent79 rfl rfl) (Bors.cons (Bor.pure rfl) Bors.nil) rfl rfl (x_internal_strconv_lower_ok e3 r10 hf15)) rfl ?_
        refine zL (r := b false) rfl rfl rfl (LOp.eqb (LOp.leq rfl rfl rfl) hc16) ?_
        refine zM (r := b false) rfl rfl rfl rfl rfl ?_
        refine ROps.s rfl rfl rfl ?_
        refine ROps.s rfl rfl rfl ?_
        refine ROps.s rfl rfl rfl ?_
        refine zL (r := b false) rfl rfl rfl (LOp.pick_false rfl rfl rfl) ?_
        refine zA (r := b false) rfl rfl rfl rfl rfl ?_
        refine zN ?_
        refine RunC.wl (τ' := [(1, i64 16), (8, b false), (9, str a0), (10, ik .u64 1152921504606846976), (11, ik .u64 4294967295), (12, b false), (13, ik .u64 v1), (15, ik .u8 e3), (99, sl (bytI a0).length ((bytI a0).map (ik .u8))), (100, i64 ((bytI a0).length : Int)), (101, i64 v2), (110, b false), (121, b false)]) (Γ' := []) ⟨aR, aR, aR, aR, aR, aR, aR, aR, aR, aR, aR, aR, aR, trivial⟩ trivial ?_
        refine RunC.cond_false rfl rfl ?_
        refine zQ ?_
        refine zL (r := x (.iface 103 (.int .i64 2))) rfl rfl rfl (LOp.mkif (v := .int .i64 2) und103 rfl rfl) ?_
        refine zA (r := ik .u64 0) rfl rfl rfl rfl rfl ?_
        refine zA (r := x (.iface 103 (.int .i64 2))) rfl rfl rfl rfl rfl ?_
        refine zN ?_
        cases Option.some.inj h19_
        have hx23_ := hr19 _ rfl
        subst hx23_
        cases Option.some.inj h
     ·refine RunC.regionW ?_
      refine zM (r := ik .u8 e3) rfl rfl rfl rfl rfl ?_
      refine zL (r := b false) rfl rfl rfl (LOp.eqb (LOp.eql rfl rfl rfl) hc4) ?_
      refine zM (r := b false) rfl rfl rfl rfl rfl ?_
      refine ROps.s rfl rfl rfl ?_
      refine zL (r := b false) rfl rfl rfl (LOp.pick_false rfl rfl rfl) ?_
      refine zA (r := b false) rfl rfl rfl rfl rfl ?_
      refine zN ?_
      refine RunC.cond_false rfl rfl ?_
      refine RunC.seq ?_
      rcases bsel_some h19_ with ⟨hc22, h19_⟩ | ⟨hc22, h19_⟩
      ·rcases bsel_some h19_ with ⟨hc23, h19_⟩ | ⟨hc23, h19_⟩
       ·refine RunC.regionW ?_
        refine zM (r := ik .u8 e3) rfl rfl rfl rfl rfl ?_
        refine zL (r := b true) rfl rfl rfl (LOp.eqb (LOp.leq rfl rfl rfl) hc22) ?_
        refine zM (r := b true) rfl rfl rfl rfl rfl ?_
        refine zM (r := ik .u8 e3) rfl rfl rfl rfl rfl ?_
        refine zL (r := b true) rfl rfl rfl (LOp.eqb (LOp.leq rfl rfl rfl) hc23) ?_
        refine zL (r := b true) rfl rfl rfl (LOp.pick_true rfl rfl rfl) ?_
        refine zA (r := b true) rfl rfl rfl rfl rfl ?_
        refine zN ?_
        refine RunC.cond_true rfl rfl ?_
        obtain ⟨x15, hx24, h19_⟩ := olet_some h19_
        refine RunC.regionW ?_
        refine zM (r := ik .u8 e3) rfl rfl rfl rfl rfl ?_
        refine zL (r := ik .u8 x15) rfl rfl rfl (LOp.eqr (LOp.sub rfl rfl rfl) (congrArg (ik .u8) hx24)) ?_
        refine zA (r := ik .u8 x15) rfl rfl rfl rfl rfl ?_
        refine zN ?_
        exact ⟨x15, ⟨aR, aR, aR, aR, aR, aR, aR, aR, aR, aR, aR, trivial⟩, trivial, h19_⟩
       ·refine RunC.regionW ?_
        refine zM (r := ik .u8 e3) rfl rfl rfl rfl rfl ?_
        refine zL (r := b true) rfl rfl rfl (LOp.eqb (LOp.leq rfl rfl rfl) hc22) ?_
        refine zM (r := b true) rfl rfl rfl rfl rfl ?_
        refine zM (r := ik .u8 e3) rfl rfl rfl rfl rfl ?_
        refine zL (r := b false) rfl rfl rfl (LOp.eqb (LOp.leq rfl rfl rfl) hc23) ?_
        refine zL (r := b false) rfl rfl rfl (LOp.pick_true rfl rfl rfl) ?_
        refine zA (r := b false) rfl rfl rfl rfl rfl ?_
        refine zN ?_
        refine RunC.cond_false rfl rfl ?_
        refine RunC.seq ?_
        obtain ⟨r16, hf25, h19_⟩ := obind_some h19_
        rcases bsel_some h19_ with ⟨hc26, h19_⟩ | ⟨hc26, h19_⟩
        ·obtain ⟨r17, hf27, h19_⟩ := obind_some h19_
         rcases bsel_some h19_ with ⟨hc28, h19_⟩ | ⟨hc28, h19_⟩
         ·refine RunC.regionW ?_
          refine zM (r := ik .u8 e3) rfl rfl rfl rfl rfl ?_
          refine ROps.d (r := ik .u8 r16) (fs := []) (Γ' := []) rfl rfl rfl (TOp.callB (CallAs.func ent79 rfl rfl) (Bors.cons (Bor.pure rfl) Bors.nil) rfl rfl (x_internal_strconv_lower_ok e3 r16 hf25)) rfl ?_
          refine zL (r := b true) rfl rfl rfl (LOp.eqb (LOp.leq rfl rfl rfl) hc26) ?_
          refine zM (r := b true) rfl rfl rfl rfl rfl ?_
          refine zM (r := ik .u8 e3) rfl rfl rfl rfl rfl ?_
          refine ROps.d (r := ik .u8 r17) (fs := []) (Γ' := []) rfl rfl rfl (TOp.callB (CallAs.func ent79 rfl rfl) (Bors.cons (Bor.pure rfl) Bors.nil) rfl rfl (x_internal_strconv_lower_ok e3 r17 hf27)) rfl ?_
          refine zL (r := b true) rfl rfl rfl (LOp.eqb (LOp.leq rfl rfl rfl) hc28) ?_
          refine zL (r := b true) rfl rfl rfl (LOp.pick_true rfl rfl rfl) ?_
          refine zA (r := b true) rfl rfl rfl rfl rfl ?_
          refine zN ?_
          refine RunC.wl (τ' := [(1, i64 16), (8, b false), (9, str a0), (10, ik .u64 1152921504606846976), (11, ik .u64 4294967295), (12, b false), (13, ik .u64 v1), (15, ik .u8 e3), (99, sl (bytI a0).length ((bytI a0).map (ik .u8))), (100, i64 ((bytI a0).length : Int)), (101, i64 v2), (116, ik .u8 e3), (117, b false), (121, b true), (126, ik .u8 e3), (127, ik .u8 r17), (128, b true)]) (Γ' := []) ⟨aR, aR, aR, aR, aR, aR, aR, aR, aR, aR, aR, aR, aR, aR, aR, aR, aR, trivial⟩ trivial ?_
          refine RunC.cond_true rfl rfl ?_
          obtain ⟨r18, hf29, h19_⟩ := obind_some h19_
          obtain ⟨x19, hx30, h19_⟩ := olet_some h19_
          obtain ⟨x20, hx31, h19_⟩ := olet_some h19_
          refine RunC.regionW ?_
          refine zM (r := ik .u8 e3) rfl rfl rfl rfl rfl ?_
          refine ROps.d (r := ik .u8 r18) (fs := []) (Γ' := []) rfl rfl rfl (TOp.callB (CallAs.func ent79 rfl rfl) (Bors.cons (Bor.pure rfl) Bors.nil) rfl rfl (x_internal_strconv_lower_ok e3 r18 hf29)) rfl ?_
          refine zL (r := ik .u8 x19) rfl rfl rfl (LOp.eqr (LOp.sub rfl rfl rfl) (congrArg (ik .u8) hx30)) ?_
          refine zL (r := ik .u8 x20) rfl rfl rfl (LOp.eqr (LOp.add rfl rfl rfl) (congrArg (ik .u8) hx31)) ?_
          refine zA (r := ik .u8 x20) rfl rfl rfl rfl rfl ?_
          refine zN ?_
          exact ⟨x20, ⟨aR, aR, aR, aR, aR, aR, aR, aR, aR, aR, aR, trivial⟩, trivial, h19_⟩
         ·refine RunC.regionW ?_
          refine zM (r := ik .u8 e3) rfl rfl rfl rfl rfl ?_
          refine ROps.d (r := ik .u8 r16) (fs := []) (Γ' := []) rfl rfl rfl (TOp.callB (CallAs.func ent79 rfl rfl) (Bors.cons (Bor.pure rfl) Bors.nil) rfl rfl (x_internal_strconv_lower_ok e3 r16 hf25)) rfl ?_
          refine zL (r := b true) rfl rfl rfl (LOp.eqb (LOp.leq rfl rfl rfl) hc26) ?_
          refine zM (r := b true) rfl rfl rfl rfl rfl ?_
          refine zM (r := ik .u8 e3) rfl rfl rfl rfl rfl ?_
          refine ROps.d (r := ik .u8 r17) (fs := []) (Γ' := []) rfl rfl rfl (TOp.callB (CallAs.func ent79 rfl rfl) (Bors.cons (Bor.pure rfl) Bors.nil) rfl rfl (x_internal_strconv_lower_ok e3 r17 hf27)) rfl ?_
          refine zL (r := b false) rfl rfl rfl (LOp.eqb (LOp.leq rfl rfl rfl) hc28) ?_
          refine zL (r := b false) rfl rfl rfl (LOp.pick_true rfl rfl rfl) ?_
          refine zA (r := b false) rfl rfl rfl rfl rfl ?_
          refine zN ?_
          refine RunC.wl (τ' := [(1, i64 16), (8, b false), (9, str a0), (10, ik .u64 1152921504606846976), (11, ik .u64 4294967295), (12, b false), (13, ik .u64 v1), (15, ik .u8 e3), (99, sl (bytI a0).length ((bytI a0).map (ik .u8))), (100, i64 ((bytI a0).length : Int)), (101, i64 v2), (116, ik .u8 e3), (117, b false), (121, b false), (126, ik .u8 e3), (127, ik .u8 r17), (128, b false)]) (Γ' := []) ⟨aR, aR, aR, aR, aR, aR, aR, aR, aR, aR, aR, aR, aR, aR, aR, aR, aR, trivial⟩ trivial ?_
          refine RunC.cond_false rfl rfl ?_
          refine zQ ?_
          refine zL (r := x (.iface 103 (.int .i64 2))) rfl rfl rfl (LOp.mkif (v := .int .i64 2) und103 rfl rfl) ?_
          refine zA (r := ik .u64 0) rfl rfl rfl rfl rfl ?_
          refine zA (r := x (.iface 103 (.int .i64 2))) rfl rfl rfl rfl rfl ?_
          refine zN ?_
          cases Option.some.inj h19_
          have hx24_ := hr19 _ rfl
          subst hx24_
          cases Option.some.inj h
        ·refine RunC.regionW ?_
         refine zM (r := ik .u8 e3) rfl rfl rfl rfl rfl ?_
         refine ROps.d (r := ik .u8 r16) (fs := []) (Γ' := []) rfl rfl rfl (TOp.callB (CallAs.func ent79 rfl rfl) (Bors.cons (Bor.pure rfl) Bors.nil) rfl rfl (x_internal_strconv_lower_ok e3 r16 hf25)) rfl ?_
         refine zL (r := b false) rfl rfl rfl (LOp.eqb (LOp.leq rfl rfl rfl) hc26) ?_
         refine zM (r := b false) rfl rfl rfl rfl rfl ?_
         refine ROps.s rfl rfl rfl ?_
         refine ROps.s rfl rfl rfl ?_
         refine ROps.s rfl rfl rfl ?_
         refine zL (r := b false) rfl rfl rfl (LOp.pick_false rfl rfl rfl) ?_
         refine zA (r := b false) rfl rfl rfl rfl rfl ?_
         refine zN ?_
         refine RunC.wl (τ' := [(1, i64 16), (8, b false), (9, str a0), (10, ik .u64 1152921504606846976), (11, ik .u64 4294967295), (12, b false), (13, ik .u64 v1), (15, ik .u8 e3), (99, sl (bytI a0).length ((bytI a0).map (ik .u8))), (100, i64 ((bytI a0).length : Int)), (101, i64 v2), (116, ik .u8 e3), (117, b false), (121, b false)]) (Γ' := []) ⟨aR, aR, aR, aR, aR, aR, aR, aR, aR, aR, aR, aR, aR, aR, trivial⟩ trivial ?_
         refine RunC.cond_false rfl rfl ?_
         refine zQ ?_
         refine zL (r := x (.iface 103 (.int .i64 2))) rfl rfl rfl (LOp.mkif (v := .int .i64 2) und103 rfl rfl) ?_
         refine zA (r := ik .u64 0) rfl rfl rfl rfl rfl ?_
         refine zA (r := x (.iface 103 (.int .i64 2))) rfl rfl rfl rfl rfl ?_
         refine zN ?_
         cases Option.some.inj h19_
         have hx25_ := hr19 _ rfl
         subst hx25_
         cases Option.some.inj h
      ·refine RunC.regionW ?_
       refine zM (r := ik .u8 e3) rfl rfl rfl rfl rfl ?_
       refine zL (r := b false) rfl rfl rfl (LOp.eqb (LOp.leq rfl rfl rfl) hc22) ?_
       refine zM (r := b false) rfl rfl rfl rfl rfl ?_
       refine ROps.s rfl rfl rfl ?_
       refine ROps.s rfl rfl rfl ?_
       refine zL (r := b false) rfl rfl rfl (LOp.pick_false rfl rfl rfl) ?_
       refine zA (r := b false) rfl rfl rfl rfl rfl ?_
       refine zN ?_
       refine RunC.cond_false rfl rfl ?_
       refine RunC.seq ?_
       obtain ⟨r21, hf32, h19_⟩ := obind_some h19_
       rcases bsel_some h19_ with ⟨hc33, h19_⟩ | ⟨hc33, h19_⟩
       ·obtain ⟨r22, hf34, h19_⟩ := obind_some h19_
        rcases bsel_some h19_ with ⟨hc35, h19_⟩ | ⟨hc35, h19_⟩
        ·refine RunC.regionW ?_
         refine zM (r := ik .u8 e3) rfl rfl rfl rfl rfl ?_
         refine ROps.d (r := ik .u8 r21) (fs := []) (Γ' := []) rfl rfl rfl (TOp.callB (CallAs.func ent79 rfl rfl) (Bors.cons (Bor.pure rfl) Bors.nil) rfl rfl (x_internal_strconv_lower_ok e3 r21 hf32)) rfl ?_
         refine zL (r := b true) rfl rfl rfl (LOp.eqb (LOp.leq rfl rfl rfl) hc33) ?_
         refine zM (r := b true) rfl rfl rfl rfl rfl ?_
         refine zM (r := ik .u8 e3) rfl rfl rfl rfl rfl ?_
         refine ROps.d (r := ik .u8 r22) (fs := []) (Γ' := []) rfl rfl rfl (TOp.callB (CallAs.func ent79 rfl rfl) (Bors.cons (Bor.pure rfl) Bors.nil) rfl rfl (x_internal_strconv_lower_ok e3 r22 hf34)) rfl ?_
         refine zL (r := b true) rfl rfl rfl (LOp.eqb (LOp.leq rfl rfl rfl) hc35) ?_
         refine zL (r := b true) rfl rfl rfl (LOp.pick_true rfl rfl rfl) ?_
         refine zA (r := b true) rfl rfl rfl rfl rfl ?_
         refine zN ?_
         refine RunC.wl (τ' := [(1, i64 16), (8, b false), (9, str a0), (10, ik .u64 1152921504606846976), (11, ik .u64 4294967295), (12, b false), (13, ik .u64 v1), (15, ik .u8 e3), (99, sl (bytI a0).length ((bytI a0).map (ik .u8))), (100, i64 ((bytI a0).length : Int)), (101, i64 v2), (121, b true), (126, ik .u8 e3), (127, ik .u8 r22), (128, b true)]) (Γ' := []) ⟨aR, aR, aR, aR, aR, aR, aR, aR, aR, aR, aR, aR, aR, aR, aR, trivial⟩ trivial ?_
         refine RunC.cond_true rfl rfl ?_
         obtain ⟨r23, hf36, h19_⟩ := obind_some h19_
         obtain ⟨x24, hx37, h19_⟩ := olet_some h19_
         obtain ⟨x25, hx38, h19_⟩ := olet_some h19_
         refine RunC.regionW ?_
         refine zM (r := ik .u8 e3) rfl rfl rfl rfl rfl ?_
         refine ROps.d (r := ik .u8 r23) (fs := []) (Γ' := []) rfl rfl rfl (TOp.callB (CallAs.func ent79 rfl rfl) (Bors.cons (Bor.pure rfl) Bors.nil) rfl rfl (x_internal_strconv_lower_ok e3 r23 hf36)) rfl ?_
         refine zL (r := ik .u8 x24) rfl rfl rfl (LOp.eqr (LOp.sub rfl rfl rfl) (congrArg (ik .u8) hx37)) ?_
         refine zL (r := ik .u8 x25) rfl rfl rfl (LOp.eqr (LOp.add rfl rfl rfl) (congrArg (ik .u8) hx38)) ?_
         refine zA (r := ik .u8 x25) rfl rfl rfl rfl rfl ?_
         refine zN ?_
         exact ⟨x25, ⟨aR, aR, aR, aR, aR, aR, aR, aR, aR, aR, aR, trivial⟩, trivial, h19_⟩
        ·refine RunC.regionW ?_
         refine zM (r := ik .u8 e3) rfl rfl rfl rfl rfl ?_
         refine ROps.d (r := ik .u8 r21) (fs := []) (Γ' := []) rfl rfl rfl (TOp.callB (CallAs.func ent79 rfl rfl) (Bors.cons (Bor.pure rfl) Bors.nil) rfl rfl (x_internal_strconv_lower_ok e3 r21 hf32)) rfl ?_
         refine zL (r := b true) rfl rfl rfl (LOp.eqb (LOp.leq rfl rfl rfl) hc33) ?_
         refine zM (r := b true) rfl rfl rfl rfl rfl ?_
         refine zM (r := ik .u8 e3) rfl rfl rfl rfl rfl ?_
         refine ROps.d (r := ik .u8 r22) (fs := []) (Γ' := []) rfl rfl rfl (TOp.callB (CallAs.func ent79 rfl rfl) (Bors.cons (Bor.pure rfl) Bors.nil) rfl rfl (x_internal_strconv_lower_ok e3 r22 hf34)) rfl ?_
         refine zL (r := b false) rfl rfl rfl (LOp.eqb (LOp.leq rfl rfl rfl) hc35) ?_
         refine zL (r := b false) rfl rfl rfl (LOp.pick_true rfl rfl rfl) ?_
         refine zA (r := b false) rfl rfl rfl rfl rfl ?_
         refine zN ?_
         refine RunC.wl (τ' := [(1, i64 16), (8, b false), (9, str a0), (10, ik .u64 1152921504606846976), (11, ik .u64 4294967295), (12, b false), (13, ik .u64 v1), (15, ik .u8 e3), (99, sl (bytI a0).length ((bytI a0).map (ik .u8))), (100, i64 ((bytI a0).length : Int)), (101, i64 v2), (121, b false), (126, ik .u8 e3), (127, ik .u8 r22), (128, b false)]) (Γ' := []) ⟨aR, aR, aR, aR, aR, aR, aR, aR, aR, aR, aR, aR, aR, aR, aR, trivial⟩ trivial ?_
         refine RunC.cond_false rfl rfl ?_
         refine zQ ?_
         refine zL (r := x (.iface 103 (.int .i64 2))) rfl rfl rfl (LOp.mkif (v := .int .i64 2) und103 rfl rfl) ?_
         refine zA (r := ik .u64 0) rfl rfl rfl rfl rfl ?_
         refine zA (r := x (.iface 103 (.int .i64 2))) rfl rfl rfl rfl rfl ?_
         refine zN ?_
         cases Option.some.inj h19_
         have hx26_ := hr19 _ rfl
         subst hx26_
         cases Option.some.inj h
       ·refine RunC.regionW ?_
        refine zM (r := ik .u8 e3) rfl rfl rfl rfl rfl ?_
        refine ROps.d (r := ik .u8 r21) (fs := []) (Γ' := []) rfl rfl rfl (TOp.callB (CallAs.func ent79 rfl rfl) (Bors.cons (Bor.pure rfl) Bors.nil) rfl rfl (x_internal_strconv_lower_ok e3 r21 hf32)) rfl ?_
        refine zL (r := b false) rfl rfl rfl (LOp.eqb (LOp.leq rfl rfl rfl) hc33) ?_
        refine zM (r := b false) rfl rfl rfl rfl rfl ?_
        refine ROps.s rfl rfl rfl ?_
        refine ROps.s rfl rfl rfl ?_
        refine ROps.s rfl rfl rfl ?_
        refine zL (r := b false) rfl rfl rfl (LOp.pick_false rfl rfl rfl) ?_
        refine zA (r := b false) rfl rfl rfl rfl rfl ?_
        refine zN ?_
        refine RunC.wl (τ' := [(1, i64 16), (8, b false), (9, str a0), (10, ik .u64 1152921504606846976), (11, ik .u64 4294967295), (12, b false), (13, ik .u64 v1), (15, ik .u8 e3), (99, sl (bytI a0).length ((bytI a0).map (ik .u8))), (100, i64 ((bytI a0).length : Int)), (101, i64 v2), (121, b false)]) (Γ' := []) ⟨aR, aR, aR, aR, aR, aR, aR, aR, aR, aR, aR, aR, trivial⟩ trivial ?_
        refine RunC.cond_false rfl rfl ?_
        refine zQ ?_
        refine zL (r := x (.iface 103 (.int .i64 2))) rfl rfl rfl (LOp.mkif (v := .int .i64 2) und103 rfl rfl) ?_
        refine zA (r := ik .u64 0) rfl rfl rfl rfl rfl ?_
        refine zA (r := x (.iface 103 (.int .i64 2))) rfl rfl rfl rfl rfl ?_
        refine zN ?_
        cases Option.some.inj h19_
        have hx27_ := hr19 _ rfl
        subst hx27_
        cases Option.some.inj h
    ·rintro τ28 Γ28 ⟨v26, hw28, hd28, h19_⟩
     refine RunC.wl hw28 hd28 ?_
     unfold x_internal_strconv_ParseUint_k2 at h19_
     refine RunC.seq ?_
     refine RunC.seq ?_
     rcases bsel_some h19_ with ⟨hc39, h19_⟩ | ⟨hc39, h19_⟩
     ·refine RunC.regionW ?_
      refine zM (r := ik .u8 v26) rfl rfl rfl rfl rfl ?_
      refine zM (r := i64 16) rfl rfl rfl rfl rfl ?_
      refine zL (r := ik .u8 16) rfl rfl rfl ((show LOp _ _ _ (ik .u8 (IntKind.u8.wrap 16)) from LOp.i2i (src := 3) (dst := 5) ⟨_, pun3⟩ pun5 rfl rfl)) ?_
      refine zL (r := b true) rfl rfl rfl (LOp.eqb (LOp.geq rfl rfl rfl) hc39) ?_
      refine zN ?_
      refine RunC.cond_true rfl rfl ?_
      refine zQ ?_
      refine zL (r := x (.iface 103 (.int .i64 2))) rfl rfl rfl (LOp.mkif (v := .int .i64 2) und103 rfl rfl) ?_
      refine zA (r := ik .u64 0) rfl rfl rfl rfl rfl ?_
      refine zA (r := x (.iface 103 (.int .i64 2))) rfl rfl rfl rfl rfl ?_
      refine zN ?_
      cases Option.some.inj h19_
      have hx29_ := hr19 _ rfl
      subst hx29_
      cases Option.some.inj h
     ·refine RunC.regionW ?_
      refine zM (r := ik .u8 v26) rfl rfl rfl rfl rfl ?_
      refine zM (r := i64 16) rfl rfl rfl rfl rfl ?_
      refine zL (r := ik .u8 16) rfl rfl rfl ((show LOp _ _ _ (ik .u8 (IntKind.u8.wrap 16)) from LOp.i2i (src := 3) (dst := 5) ⟨_, pun3⟩ pun5 rfl rfl)) ?_
      refine zL (r := b false) rfl rfl rfl (LOp.eqb (LOp.geq rfl rfl rfl) hc39) ?_
      refine zN ?_
      refine RunC.cond_false rfl rfl ?_
      refine RunC.skip ?_
      refine RunC.seq ?_
      refine RunC.seq ?_
      rcases bsel_some h19_ with ⟨hc40, h19_⟩ | ⟨hc40, h19_⟩
      ·refine RunC.regionW ?_
       refine zM (r := ik .u64 v1) rfl rfl rfl rfl rfl ?_
       refine zM (r := ik .u64 1152921504606846976) rfl rfl rfl rfl rfl ?_
       refine zL (r := b true) rfl rfl rfl (LOp.eqb (LOp.geq rfl rfl rfl) hc40) ?_
       refine zN ?_
       refine RunC.cond_true rfl rfl ?_
       refine zQ ?_
       refine zM (r := ik .u64 4294967295) rfl rfl rfl rfl rfl ?_
       refine zL (r := x (.iface 103 (.int .i64 1))) rfl rfl rfl (LOp.mkif (v := .int .i64 1) und103 rfl rfl) ?_
       refine zA (r := ik .u64 4294967295) rfl rfl rfl rfl rfl ?_
       refine zA (r := x (.iface 103 (.int .i64 1))) rfl rfl rfl rfl rfl ?_
       refine zN ?_
       refine RunC.ret ?_
       cases Option.some.inj h19_
       have hx30_ := hr19 _ rfl
       subst hx30_
       have hq := Option.some.inj h
       have hq := Sum.inr.inj hq
       have hq := Sum.inl.inj hq
       subst q0
       exact bodyQ.pure (.inr rfl) rfl (Res.two rfl (RV.tmp rfl) (RV.tmp rfl))
      ·refine RunC.regionW ?_
       refine zM (r := ik .u64 v1) rfl rfl rfl rfl rfl ?_
       refine zM (r := ik .u64 1152921504606846976) rfl rfl rfl rfl rfl ?_
       refine zL (r := b false) rfl rfl rfl (LOp.eqb (LOp.geq rfl rfl rfl) hc40) ?_
       refine zN ?_
       refine RunC.cond_false rfl rfl ?_
       refine RunC.skip ?_
       refine RunC.seq ?_
       obtain ⟨x27, hx41, h19_⟩ := olet_some h19_
       refine RunC.regionW ?_
       refine zM (r := ik .u64 v1) rfl rfl rfl rfl rfl ?_
       refine zM (r := i64 16) rfl rfl rfl rfl rfl ?_
       refine zL (r := ik .u64 16) rfl rfl rfl ((show LOp _ _ _ (ik .u64 (IntKind.u64.wrap 16)) from LOp.i2i (src := 3) (dst := 69) ⟨_, pun3⟩ pun69 rfl rfl)) ?_
       refine zL (r := ik .u64 x27) rfl rfl rfl (LOp.eqr (LOp.mul rfl rfl rfl) (congrArg (ik .u64) hx41)) ?_
       refine zA (r := ik .u64 x27) rfl rfl rfl rfl rfl ?_
       refine zN ?_
       refine RunC.seq ?_
       obtain ⟨x28, hx42, h19_⟩ := olet_some h19_
       obtain ⟨x29, hx43, h19_⟩ := olet_some h19_
       refine RunC.regionW ?_
       refine zM (r := ik .u64 x27) rfl rfl rfl rfl rfl ?_
       refine zM (r := ik .u8 v26) rfl rfl rfl rfl rfl ?_
       refine zL (r := ik .u64 x28) rfl rfl rfl (LOp.eqr (LOp.i2i (src := 5) (dst := 69) ⟨_, pun5⟩ pun69 rfl rfl) (congrArg (ik .u64) hx42)) ?_
       refine zL (r := ik .u64 x29) rfl rfl rfl (LOp.eqr (LOp.add rfl rfl rfl) (congrArg (ik .u64) hx43)) ?_
       refine zA (r := ik .u64 x29) rfl rfl rfl rfl rfl ?_
       refine zN ?_
       refine RunC.seq ?_
       refine RunC.seq ?_
       rcases bsel_some h19_ with ⟨hc44, h19_⟩ | ⟨hc44, h19_⟩
       ·refine RunC.regionW ?_
        refine zM (r := ik .u64 x29) rfl rfl rfl rfl rfl ?_
        refine zM (r := ik .u64 x27) rfl rfl rfl rfl rfl ?_
        refine zL (r := b true) rfl rfl rfl (LOp.eqb (LOp.lss rfl rfl rfl) hc44) ?_
        refine zM (r := b true) rfl rfl rfl rfl rfl ?_
        refine ROps.s rfl rfl rfl ?_
        refine ROps.s rfl rfl rfl ?_
        refine ROps.s rfl rfl rfl ?_
        refine zL (r := b true) rfl rfl rfl (LOp.pick_true rfl rfl rfl) ?_
        refine zN ?_
        refine RunC.cond_true rfl rfl ?_
        refine zQ ?_
        refine zM (r := ik .u64 4294967295) rfl rfl rfl rfl rfl ?_
        refine zL (r := x (.iface 103 (.int .i64 1))) rfl rfl rfl (LOp.mkif (v := .int .i64 1) und103 rfl rfl) ?_
        refine zA (r := ik .u64 4294967295) rfl rfl rfl rfl rfl ?_
        refine zA (r := x (.iface 103 (.int .i64 1))) rfl rfl rfl rfl rfl ?_
        refine zN ?_
        refine RunC.ret ?_
        cases Option.some.inj h19_
        have hx31_ := hr19 _ rfl
        subst hx31_
        have hq := Option.some.inj h
        have hq := Sum.inr.inj hq
        have hq := Sum.inl.inj hq
        subst q0
        exact bodyQ.pure (.inr rfl) rfl (Res.two rfl (RV.tmp rfl) (RV.tmp rfl))
       ·rcases bsel_some h19_ with ⟨hc45, h19_⟩ | ⟨hc45, h19_⟩
        ·refine RunC.regionW ?_
         refine zM (r := ik .u64 x29) rfl rfl rfl rfl rfl ?_
         refine zM (r := ik .u64 x27) rfl rfl rfl rfl rfl ?_
         refine zL (r := b false) rfl rfl rfl (LOp.eqb (LOp.lss rfl rfl rfl) hc44) ?_
         refine zM (r := b false) rfl rfl rfl rfl rfl ?_
         refine zM (r := ik .u64 x29) rfl rfl rfl rfl rfl ?_
         refine zM (r := ik .u64 4294967295) rfl rfl rfl rfl rfl ?_
         refine zL (r := b true) rfl rfl rfl (LOp.eqb (LOp.gtr rfl rfl rfl) hc45) ?_
         refine zL (r := b true) rfl rfl rfl (LOp.pick_false rfl rfl rfl) ?_
         refine zN ?_
         refine RunC.cond_true rfl rfl ?_
         refine zQ ?_
         refine zM (r := ik .u64 4294967295) rfl rfl rfl rfl rfl ?_
         refine zL (r := x (.iface 103 (.int .i64 1))) rfl rfl rfl (LOp.mkif (v := .int .i64 1) und103 rfl rfl) ?_
         refine zA (r := ik .u64 4294967295) rfl rfl rfl rfl rfl ?_
         refine zA (r := x (.iface 103 (.int .i64 1))) rfl rfl rfl rfl rfl ?_
         refine zN ?_
         refine RunC.ret ?_
         cases Option.some.inj h19_
         have hx32_ := hr19 _ rfl
         subst hx32_
         have hq := Option.some.inj h
         have hq := Sum.inr.inj hq
         have hq := Sum.inl.inj hq
         subst q0
         exact bodyQ.pure (.inr rfl) rfl (Res.two rfl (RV.tmp rfl) (RV.tmp rfl))
        ·refine RunC.regionW ?_
         refine zM (r := ik .u64 x29) rfl rfl rfl rfl rfl ?_
         refine zM (r := ik .u64 x27) rfl rfl rfl rfl rfl ?_
         refine zL (r := b false) rfl rfl rfl (LOp.eqb (LOp.lss rfl rfl rfl) hc44) ?_
         refine zM (r := b false) rfl rfl rfl rfl rfl ?_
         refine zM (r := ik .u64 x29) rfl rfl rfl rfl rfl ?_
         refine zM (r := ik .u64 4294967295) rfl rfl rfl rfl rfl ?_
         refine zL (r := b false) rfl rfl rfl (LOp.eqb (LOp.gtr rfl rfl rfl) hc45) ?_
         refine zL (r := b false) rfl rfl rfl (LOp.pick_false rfl rfl rfl) ?_
         refine zN ?_
         refine RunC.cond_false rfl rfl ?_
         refine RunC.skip ?_
         refine RunC.wl (τ' := [(1, i64 16), (8, b false), (9, str a0), (10, ik .u64 1152921504606846976), (11, ik .u64 4294967295), (12, b false), (17, ik .u64 x29), (99, sl (bytI a0).length ((bytI a0).map (ik .u8))), (100, i64 ((bytI a0).length : Int)), (101, i64 v2), (156, ik .u64 x29), (157, ik .u64 4294967295), (158, b false)]) (Γ' := []) ⟨aR, aR, aR, aR, aR, aR, aR, aR, aR, aR, aR, aR, aR, trivial⟩ trivial ?_
         refine RunC.regionW ?_
         refine zM (r := ik .u64 x29) rfl rfl rfl rfl rfl ?_
         refine zA (r := ik .u64 x29) rfl rfl rfl rfl rfl ?_
         refine zN ?_
         obtain ⟨x30, hx46, h19_⟩ := olet_some h19_
         refine RunC.regionW ?_
         refine zL (r := i64 x30) rfl rfl rfl (LOp.eqr (LOp.add rfl rfl rfl) (congrArg (ik .i64) hx46)) ?_
         refine zM (r := i64 x30) rfl rfl rfl rfl rfl ?_
         refine zN ?_
         cases Option.some.inj h19_
         exact ⟨_, rfl, ⟨aR, aR, aR, aR, aR, aR, aR, aR, aR, aR, trivial⟩, trivial⟩
   ·refine RunC.regionW ?_
    refine zL (r := b false) rfl rfl rfl (LOp.eqb (LOp.lss rfl rfl rfl) hc2) ?_
    refine zN ?_
    refine RunC.seq ?_
    refine RunC.cond_false rfl rfl ?_
    refine RunC.exit ?_
    cases Option.some.inj h19_
    have hx := ho19 _ rfl
    exact ⟨v1, ⟨aR, aR, aR, trivial⟩, trivial, hx⟩
  ·rintro τ33 Γ33 ⟨v31, hw33, hd33, rfl⟩
   refine RunC.wl hw33 hd33 ?_
   replace h : x_internal_strconv_ParseUint_k3 v31 = some (Sum.inr (Sum.inl q0)) := h
   unfold x_internal_strconv_ParseUint_k3 at h
   refine RunC.seq ?_
   refine zQ ?_
   refine zM (r := b false) rfl rfl rfl rfl rfl ?_
   refine zM (r := b false) rfl rfl rfl rfl rfl ?_
   refine ROps.s rfl rfl rfl ?_
   refine ROps.s rfl rfl rfl ?_
   refine ROps.s rfl rfl rfl ?_
   refine zL (r := b false) rfl rfl rfl (LOp.pick_false rfl rfl rfl) ?_
   refine zN ?_
   refine RunC.cond_false rfl rfl ?_
   refine RunC.skip ?_
   refine zQ ?_
   refine zM (r := ik .u64 v31) rfl rfl rfl rfl rfl ?_
   refine zA (r := ik .u64 v31) rfl rfl rfl rfl rfl ?_
   refine zA (r := x .nilIface) rfl rfl rfl rfl rfl ?_
   refine zN ?_
   cases Option.some.inj h
theorem x_internal_strconv_ParseUint_ok2 (a0 : ByteArray) (q0 : Int) (h : x_internal_strconv_ParseUint a0 = some (Sum.inr (Sum.inr q0))) : Ev Tryz.prog 63 [str a0, i64 16, i64 32] [] (tup [ik .u64 q0, x .nilIface]) [] := by
 refine Ev.start Tryz.func63 rfl rfl 0 (τ := [(0, str a0), (1, i64 16), (2, i64 32)]) rfl (Γ' := []) rfl (n := 345) rfl (g := 0) rfl (fun _ => rfl) ?_
 unfold x_internal_strconv_ParseUint at h
 refine zQ ?_
 refine zA (r := ik .u64 0) rfl rfl rfl rfl rfl ?_
 refine zA (r := x .nilIface) rfl rfl rfl rfl rfl ?_
 refine zN ?_
 refine RunC.seq ?_
 refine RunC.seq ?_
 rcases bsel_some h with ⟨hc1, h⟩ | ⟨hc1, h⟩
 ·refine RunC.regionW ?_
  refine zM (r := str a0) rfl rfl rfl rfl rfl ?_
  refine zL (r := b true) rfl rfl rfl (LOp.eqb (LOp.eqs rfl rfl rfl) hc1) ?_
  refine zN ?_
  refine RunC.cond_true rfl rfl ?_
  refine zQ ?_
  refine zL (r := x (.iface 103 (.int .i64 2))) rfl rfl rfl (LOp.mkif (v := .int .i64 2) und103 rfl rfl) ?_
  refine zA (r := ik .u64 0) rfl rfl rfl rfl rfl ?_
  refine zA (r := x (.iface 103 (.int .i64 2))) rfl rfl rfl rfl rfl ?_
  refine zN ?_
  cases Option.some.inj h
 ·refine RunC.regionW ?_
  refine zM (r := str a0) rfl rfl rfl rfl rfl ?_
  refine zL (r := b false) rfl rfl rfl (LOp.eqb (LOp.eqs rfl rfl rfl) hc1) ?_
  refine zN ?_
  refine RunC.cond_false rfl rfl ?_
  refine RunC.skip ?_
  refine zQ ?_
  refine zM (r := i64 16) rfl rfl rfl rfl rfl ?_
  refine zL (r := b false) rfl rfl rfl ((show LOp _ _ _ (b (decide ((16 : Int) = 0))) from LOp.eql rfl rfl rfl)) ?_
  refine zA (r := b false) rfl rfl rfl rfl rfl ?_
  refine zN ?_
  refine zQ ?_
  refine zM (r := str a0) rfl rfl rfl rfl rfl ?_
  refine zA (r := str a0) rfl rfl rfl rfl rfl ?_
  refine zN ?_
  refine RunC.seq ?_
  refine RunC.block ?_
  refine zQ ?_
  refine zM (r := i64 16) rfl rfl rfl rfl rfl ?_
  refine zL (r := b true) rfl rfl rfl ((show LOp _ _ _ (b (decide ((2 : Int) ≤ 16))) from LOp.leq rfl rfl rfl)) ?_
  refine zM (r := b true) rfl rfl rfl rfl rfl ?_
  refine zM (r := i64 16) rfl rfl rfl rfl rfl ?_
  refine zL (r := b true) rfl rfl rfl ((show LOp _ _ _ (b (decide ((16 : Int) ≤ 36))) from LOp.leq rfl rfl rfl)) ?_
  refine zL (r := b true) rfl rfl rfl (LOp.pick_true rfl rfl rfl) ?_
  refine zA (r := b true) rfl rfl rfl rfl rfl ?_
  refine zN ?_
  refine RunC.cond_true rfl rfl ?_
  refine RunC.skip ?_
  refine RunC.seq ?_
  refine zQ ?_
  refine zM (r := i64 32) rfl rfl rfl rfl rfl ?_
  refine zL (r := b false) rfl rfl rfl ((show LOp _ _ _ (b (decide ((32 : Int) = 0))) from LOp.eql rfl rfl rfl)) ?_
  refine zN ?_
  refine RunC.cond_false rfl rfl ?_
  refine zQ ?_
  refine zM (r := i64 32) rfl rfl rfl rfl rfl ?_
  refine zL (r := b false) rfl rfl rfl ((show LOp _ _ _ (b (decide ((32 : Int) < 0))) from LOp.lss rfl rfl rfl)) ?_
  refine zM (r := b false) rfl rfl rfl rfl rfl ?_
  refine zM (r := i64 32) rfl rfl rfl rfl rfl ?_
  refine zL (r := b false) rfl rfl rfl ((show LOp _ _ _ (b (decide ((64 : Int) < 32))) from LOp.gtr rfl rfl rfl)) ?_
  refine zL (r := b false) rfl rfl rfl (LOp.pick_false rfl rfl rfl) ?_
  refine zN ?_
  refine RunC.cond_false rfl rfl ?_
  refine RunC.skip ?_
  refine zQ ?_
  refine zA (r := ik .u64 0) rfl rfl rfl rfl rfl ?_
  refine zN ?_
  refine RunC.seq ?_
  refine zQ ?_
  refine zM (r := i64 16) rfl rfl rfl rfl rfl ?_
  refine zN ?_
  refine RunC.block ?_
  refine zQ ?_
  refine zL (r := b false) rfl rfl rfl ((show LOp _ _ _ (b (decide ((16 : Int) = 10))) from LOp.eql rfl rfl rfl)) ?_
  refine zA (r := b false) rfl rfl rfl rfl rfl ?_
  refine zN ?_
  refine RunC.cond_false rfl rfl ?_
  refine zQ ?_
  refine zL (r := b true) rfl rfl rfl ((show LOp _ _ _ (b (decide ((16 : Int) = 16))) from LOp.eql rfl rfl rfl)) ?_
  refine zA (r := b true) rfl rfl rfl rfl rfl ?_
  refine zN ?_
  refine RunC.wl (τ' := [(0, str a0), (1, i64 16), (2, i64 32), (8, b false), (9, str a0), (92, b true)]) (Γ' := []) ⟨aR, aR, aR, aR, aR, aR, trivial⟩ trivial ?_
  refine RunC.cond_true rfl rfl ?_
  refine RunC.regionW ?_
  refine zA (r := ik .u64 1152921504606846976) rfl rfl rfl rfl rfl ?_
  refine zN ?_
  refine zQ ?_
  refine zM (r := i64 32) rfl rfl rfl rfl rfl ?_
  refine zL (r := ik .u64 32) rfl rfl rfl ((show LOp _ _ _ (ik .u64 (IntKind.u64.wrap 32)) from LOp.i2i (src := 3) (dst := 87) ⟨_, pun3⟩ pun87 rfl rfl)) ?_
  refine zL (r := ik .u64 4294967296) rfl rfl rfl ((show LOp _ _ _ (ik .u64 (ishl .u64 1 32)) from LOp.shl rfl rfl rfl (by decide))) ?_
  refine zL (r := ik .u64 4294967295) rfl rfl rfl ((show LOp _ _ _ (ik .u64 (IntKind.u64.wrap (4294967296 - 1))) from LOp.sub rfl rfl rfl)) ?_
  refine zA (r := ik .u64 4294967295) rfl rfl rfl rfl rfl ?_
  refine zN ?_
  refine zQ ?_
  refine zA (r := b false) rfl rfl rfl rfl rfl ?_
  refine zN ?_
  refine zQ ?_
  refine zA (r := ik .u64 0) rfl rfl rfl rfl rfl ?_
  refine zN ?_
  refine RunC.seq ?_
  refine zQ ?_
  refine zM (r := str a0) rfl rfl rfl rfl rfl ?_
  refine ROps.d (r := sl (bytI a0).length ((bytI a0).map (ik .u8))) (fs := []) (Γ' := []) rfl rfl rfl (TOp.s2b pun9 pun105 pun5 rfl rfl) rfl ?_
  refine zL (r := i64 ((bytI a0).length : Int)) rfl rfl rfl (LOp.len_sl und105 rfl rfl) ?_
  refine zM (r := i64 0) rfl rfl rfl rfl rfl ?_
  refine zN ?_
  obtain ⟨z34, hz_34, h⟩ := obind_some h
  refine RunC.cutN (fun τ Γ => ∃ (v31 : Int), WeakLe τ [(9, str a0), (12, b false), (13, ik .u64 v31)] ∧ DeadLe Γ [] ∧ z34 = .inl v31) ?_ ?_
  ·refine RunC.block (RunC.loop (RunL.loopM (x := z34) (x_internal_strconv_ParseUint_s3 a0) (fun (s : Int × Int) τ Γ => WeakLe τ [(1, i64 16), (8, b false), (9, str a0), (10, ik .u64 1152921504606846976), (11, ik .u64 4294967295), (12, b false), (13, ik .u64 s.1), (99, sl (bytI a0).length ((bytI a0).map (ik .u8))), (100, i64 ((bytI a0).length : Int)), (101, i64 s.2)] ∧ DeadLe Γ []) ?_ _ _ _ hz_34 ⟨⟨aR, aR, aR, aR, aR, aR, aR, aR, aR, aR, trivial⟩, trivial⟩))
   rintro ⟨v1, v2⟩ τ34 Γ34 y34_ ⟨hw34, hd34⟩ h34_ ho34 hr34
   refine RunC.wl (τ' := [(1, i64 16), (8, b false), (9, str a0), (10, ik .u64 1152921504606846976), (11, ik .u64 4294967295), (12, b false), (13, ik .u64 v1), (99, sl (bytI a0).length ((bytI a0).map (ik .u8))), (100, i64 ((bytI a0).length : Int)), (101, i64 v2)]) (Γ' := []) hw34 hd34 ?_
   replace h34_ : x_internal_strconv_ParseUint_b3 a0 v1 v2 = some y34_ := h34_
   unfold x_internal_strconv_ParseUint_b3 at h34_
   refine RunC.seq ?_
   rcases bsel_some h34_ with ⟨hc2, h34_⟩ | ⟨hc2, h34_⟩
   ·refine RunC.regionW ?_
    refine zL (r := b true) rfl rfl rfl (LOp.eqb (LOp.lss rfl rfl rfl) hc2) ?_
    refine zN ?_
    refine RunC.seq ?_
    refine RunC.cond_true rfl rfl ?_
    refine RunC.skip ?_
    refine RunC.seq ?_
    refine RunC.block ?_
    refine RunC.seq ?_
    obtain ⟨e3, he3, h34_⟩ := obind_some h34_
    refine RunC.regionW ?_
    refine zL (r := ptr [ik .u8 e3]) rfl rfl rfl (LOp.le (LOp.ix (f := (ik .u8)) und105 siz5 rfl rfl rfl rfl he3) ALe.ptr) ?_
    refine zL (r := ik .u8 e3) rfl rfl rfl (LOp.load1 agg5 rfl rfl) ?_
    refine zA (r := ik .u8 e3) rfl rfl rfl rfl rfl ?_
    refine zN ?_
    refine zQ ?_
    refine zA (r := ik .u8 0) rfl rfl rfl rfl rfl ?_
    refine zN ?_
    refine RunC.seq ?_
    refine RunC.cutN (fun τ Γ => ∃ (v26 : Int), WeakLe τ [(1, i64 16), (8, b false), (9, str a0), (10, ik .u64 1152921504606846976), (11, ik .u64 4294967295), (12, b false), (13, ik .u64 v1), (16, ik .u8 v26), (99, sl (bytI a0).length ((bytI a0).map (ik .u8))), (100, i64 ((bytI a0).length : Int)), (101, i64 v2)] ∧ DeadLe Γ [] ∧ x_internal_strconv_ParseUint_k2 v1 v2 v26 = some y34_) ?_ ?_
    ·refine RunC.block ?_
     refine RunC.seq ?_
     rcases bsel_some h34_ with ⟨hc4, h34_⟩ | ⟨hc4, h34_⟩
     ·refine RunC.regionW ?_
      refine zM (r := ik .u8 e3) rfl rfl rfl rfl rfl ?_
      refine zL (r := b true) rfl rfl rfl (LOp.eqb (LOp.eql rfl rfl rfl) hc4) ?_
      refine zM (r := b true) rfl rfl rfl rfl rfl ?_
      refine zM (r := b false) rfl rfl rfl rfl rfl ?_
      refine zL (r := b false) rfl rfl rfl (LOp.pick_true rfl rfl rfl) ?_
      refine zA (r := b false) rfl rfl rfl rfl rfl ?_
      refine zN ?_
      refine RunC.cond_false rfl rfl ?_
      refine RunC.seq ?_
      rcases bsel_some h34_ with ⟨hc5, h34_⟩ | ⟨hc5, h34_⟩
      ·rcases bsel_some h34_ with ⟨hc6, h34_⟩ | ⟨hc6, h34_⟩
       ·refine RunC.regionW ?_
        refine zM (r := ik .u8 e3) rfl rfl rfl rfl rfl ?_
        refine zL (r := b true) rfl rfl rfl (LOp.eqb (LOp.leq rfl rfl rfl) hc5) ?_
        refine zM (r := b true) rfl rfl rfl rfl rfl ?_
        refine zM (r := ik .u8 e3) rfl rfl rfl rfl rfl ?_
        refine zL (r := b true) rfl rfl rfl (LOp.eqb (LOp.leq rfl rfl rfl) hc6) ?_
        refine zL (r := b true) rfl rfl rfl (LOp.pick_true rfl rfl rfl) ?_
        refine zA (r := b true) rfl rfl rfl rfl rfl ?_
        refine zN ?_
        refine RunC.cond_true rfl rfl ?_
        obtain ⟨x4, hx7, h34_⟩ := olet_some h34_
        refine RunC.regionW ?_
        refine zM (r := ik .u8 e3) rfl rfl rfl rfl rfl ?_
        refine zL (r := ik .u8 x4) rfl rfl rfl (LOp.eqr (LOp.sub rfl rfl rfl) (congrArg (ik .u8) hx7)) ?_
        refine zA (r := ik .u8 x4) rfl rfl rfl rfl rfl ?_
        refine zN ?_
        exact ⟨x4, ⟨aR, aR, aR, aR, aR, aR, aR, aR, aR, aR, aR, trivial⟩, trivial, h34_⟩
       ·refine RunC.regionW ?_
        refine zM (r := ik .u8 e3) rfl rfl rfl rfl rfl ?_
        refine zL (r := b true) rfl rfl rfl (LOp.eqb (LOp.leq rfl rfl rfl) hc5) ?_
        refine zM (r := b true) rfl rfl rfl rfl rfl ?_
        refine zM (r := ik .u8 e3) rfl rfl rfl rfl rfl ?_
        refine zL (r := b false) rfl rfl rfl (LOp.eqb (LOp.leq rfl rfl rfl) hc6) ?_
        refine zL (r := b false) rfl rfl rfl (LOp.pick_true rfl rfl rfl) ?_
        refine zA (r := b false) rfl rfl rfl rfl rfl ?_
        refine zN ?_
        refine RunC.cond_false rfl rfl ?_
        refine RunC.seq ?_
        obtain ⟨r5, hf8, h34_⟩ := obind_some h34_
        rcases bsel_some h34_ with ⟨hc9, h34_⟩ | ⟨hc9, h34_⟩
        ·obtain ⟨r6, hf10, h34_⟩ := obind_some h34_
         rcases bsel_some h34_ with ⟨hc11, h34_⟩ | ⟨hc11, h34_⟩
         ·refine RunC.regionW ?_
          refine zM (r := ik .u8 e3) rfl rfl rfl rfl rfl ?_
          refine ROps.d (r := ik .u8 r5) (fs := []) (Γ' := []) rfl rfl rfl (TOp.callB (CallAs.func ent79 rfl rfl) (Bors.cons (Bor.pure rfl) Bors.nil) rfl rfl (x_internal_strconv_lower_ok e3 r5 hf8)) rfl ?_
          refine zL (r := b true) rfl rfl rfl (LOp.eqb (LOp.leq rfl rfl rfl) hc9) ?_
          refine zM (r := b true) rfl rfl rfl rfl rfl ?_
          refine zM (r := ik .u8 e3) rfl rfl rfl rfl rfl ?_
          refine ROps.d (r := ik .u8 r6) (fs := []) (Γ' := []) rfl rfl rfl (TOp.callB (CallAs.func ent79 rfl rfl) (Bors.cons (Bor.pure rfl) Bors.nil) rfl rfl (x_internal_strconv_lower_ok e3 r6 hf10)) rfl ?_
          refine zL (r := b true) rfl rfl rfl (LOp.eqb (LOp.leq rfl rfl rfl) hc11) ?_
          refine zL (r := b true) rfl rfl rfl (LOp.pick_true rfl rfl rfl) ?_
          refine zA (r := b true) rfl rfl rfl rfl rfl ?_
          refine zN ?_
          refine RunC.wl (τ' := [(1, i64 16), (8, b false), (9, str a0), (10, ik .u64 1152921504606846976), (11, ik .u64 4294967295), (12, b false), (13, ik .u64 v1), (15, ik .u8 e3), (99, sl (bytI a0).length ((bytI a0).map (ik .u8))), (100, i64 ((bytI a0).length : Int)), (101, i64 v2), (110, b false), (116, ik .u8 e3), (117, b false), (121, b true), (126, ik .u8 e3), (127, ik .u8 r6), (128, b true)]) (Γ' := []) ⟨aR, aR, aR, aR, aR, aR, aR, aR, aR, aR, aR, aR, aR, aR, aR, aR, aR, aR, trivial⟩ trivial ?_
          refine RunC.cond_true rfl rfl ?_
          obtain ⟨r7, hf12, h34_⟩ := obind_some h34_
          obtain ⟨x8, hx13, h34_⟩ := olet_some h34_
          obtain ⟨x9, hx14, h34_⟩ := olet_some h34_
          refine RunC.regionW ?_
          refine zM (r := ik .u8 e3) rfl rfl rfl rfl rfl ?_
          refine ROps.d (r := ik .u8 r7) (fs := []) (Γ' := []) rfl rfl rfl (TOp.callB (CallAs.func ent79 rfl rfl) (Bors.cons (Bor.pure rfl) Bors.nil) rfl rfl (x_internal_strconv_lower_ok e3 r7 hf12)) rfl ?_
          refine zL (r := ik .u8 x8) rfl rfl rfl (LOp.eqr (LOp.sub rfl rfl rfl) (congrArg (ik .u8) hx13)) ?_
          refine zL (r := ik .u8 x9) rfl rfl rfl (LOp.eqr (LOp.add rfl rfl rfl) (congrArg (ik .u8) hx14)) ?_
          refine zA (r := ik .u8 x9) rfl rfl rfl rfl rfl ?_
          refine zN ?_
          exact ⟨x9, ⟨aR, aR, aR, aR, aR, aR, aR, aR, aR, aR, aR, trivial⟩, trivial, h34_⟩
         ·refine RunC.regionW ?_
          refine zM (r := ik .u8 e3) rfl rfl rfl rfl rfl ?_
          refine ROps.d (r := ik .u8 r5) (fs := []) (Γ' := []) rfl rfl rfl (TOp.callB (CallAs.func ent79 rfl rfl) (Bors.cons (Bor.pure rfl) Bors.nil) rfl rfl (x_internal_strconv_lower_ok e3 r5 hf8)) rfl ?_
          refine zL (r := b true) rfl rfl rfl (LOp.eqb (LOp.leq rfl rfl rfl) hc9) ?_
          refine zM (r := b true) rfl rfl rfl rfl rfl ?_
          refine zM (r := ik .u8 e3) rfl rfl rfl rfl rfl ?_
          refine ROps.d (r := ik .u8 r6) (fs := []) (Γ' := []) rfl rfl rfl (TOp.callB (CallAs.func ent79 rfl rfl) (Bors.cons (Bor.pure rfl) Bors.nil) rfl rfl (x_internal_strconv_lower_ok e3 r6 hf10)) rfl ?_
          refine zL (r := b false) rfl rfl rfl (LOp.eqb (LOp.leq rfl rfl rfl) hc11) ?_
          refine zL (r := b false) rfl rfl rfl (LOp.pick_true rfl rfl rfl) ?_
          refine zA (r := b false) rfl rfl rfl rfl rfl ?_
          refine zN ?_
          refine RunC.wl (τ' := [(1, i64 16), (8, b false), (9, str a0), (10, ik .u64 1152921504606846976), (11, ik .u64 4294967295), (12, b false), (13, ik .u64 v1), (15, ik .u8 e3), (99, sl (bytI a0).length ((bytI a0).map (ik .u8))), (100, i64 ((bytI a0).length : Int)), (101, i64 v2), (110, b false), (116, ik .u8 e3), (117, b false), (121, b false), (126, ik .u8 e3), (127, ik .u8 r6), (128, b false)]) (Γ' := []) ⟨aR, aR, aR, aR, aR, aR, aR, aR, aR, aR, aR, aR, aR, aR, aR, aR, aR, aR, trivial⟩ trivial ?_
          refine RunC.cond_false rfl rfl ?_
          refine zQ ?_
          refine zL (r := x (.iface 103 (.int .i64 2))) rfl rfl rfl (LOp.mkif (v := .int .i64 2) und103 rfl rfl) ?_
          refine zA (r := ik .u64 0) rfl rfl rfl rfl rfl ?_
          refine zA (r := x (.iface 103 (.int .i64 2))) rfl rfl rfl rfl rfl ?_
          refine zN ?_
          cases Option.some.inj h34_
          have hx35_ := hr34 _ rfl
          subst hx35_
          cases Option.some.inj h
        ·refine RunC.regionW ?_
         refine zM (r := ik .u8 e3) rfl rfl rfl rfl rfl ?_
         refine ROps.d (r := ik .u8 r5) (fs := []) (Γ' := []) rfl rfl rfl (TOp.callB (CallAs.func ent79 rfl rfl) (Bors.cons (Bor.pure rfl) Bors.nil) rfl rfl (x_internal_strconv_lower_ok e3 r5 hf8)) rfl ?_
         refine zL (r := b false) rfl rfl rfl (LOp.eqb (LOp.leq rfl rfl rfl) hc9) ?_
         refine zM (r := b false) rfl rfl rfl rfl rfl ?_
         refine ROps.s rfl rfl rfl ?_
         refine ROps.s rfl rfl rfl ?_
         refine ROps.s rfl rfl rfl ?_
         refine zL (r := b false) rfl rfl rfl (LOp.pick_false rfl rfl rfl) ?_
         refine zA (r := b false) rfl rfl rfl rfl rfl ?_
         refine zN ?_
         refine RunC.wl (τ' := [(1, i64 16), (8, b false), (9, str a0), (10, ik .u64 1152921504606846976), (11, ik .u64 4294967295), (12, b false), (13, ik .u64 v1), (15, ik .u8 e3), (99, sl (bytI a0).length ((bytI a0).map (ik .u8))), (100, i64 ((bytI a0).length : Int)), (101, i64 v2), (110, b false), (116, ik .u8 e3), (117, b false), (121, b false)]) (Γ' := []) ⟨aR, aR, aR, aR, aR, aR, aR, aR, aR, aR, aR, aR, aR, aR, aR, trivial⟩ trivial ?_
         refine RunC.cond_false rfl rfl ?_
         refine zQ ?_
         refine zL (r := x (.iface 103 (.int .i64 2))) rfl rfl rfl (LOp.mkif (v := .int .i64 2) und103 rfl rfl) ?_
         refine zA (r := ik .u64 0) rfl rfl rfl rfl rfl ?_
         refine zA (r := x (.iface 103 (.int .i64 2))) rfl rfl rfl rfl rfl ?_
         refine zN ?_
         cases Option.some.inj h34_
         have hx36_ := hr34 _ rfl
         subst hx36_
         cases Option.some.inj h
      ·refine RunC.regionW ?_
       refine zM (r := ik .u8 e3) rfl rfl rfl rfl rfl ?_
       refine zL (r := b false) rfl rfl rfl (LOp.eqb (LOp.leq rfl rfl rfl) hc5) ?_
       refine zM (r := b false) rfl rfl rfl rfl rfl ?_
       refine ROps.s rfl rfl rfl ?_
       refine ROps.s rfl rfl rfl ?_
       refine zL (r := b false) rfl rfl rfl (LOp.pick_false rfl rfl rfl) ?_
       refine zA (r := b false) rfl rfl rfl rfl rfl ?_
       refine zN ?_
       refine RunC.cond_false rfl rfl ?_
       refine RunC.seq ?_
       obtain ⟨r10, hf15, h34_⟩ := obind_some h34_
       rcases bsel_some h34_ with ⟨hc16, h34_⟩ | ⟨hc16, h34_⟩
       ·obtain ⟨r11, hf17, h34_⟩ := obind_some h34_
        rcases bsel_some h34_ with ⟨hc18, h34_⟩ | ⟨hc18, h34_⟩
        ·refine RunC.regionW ?_
         refine zM (r := ik .u8 e3) rfl rfl rfl rfl rfl ?_
         refine ROps.d (r := ik .u8 r10) (fs := []) (Γ' := []) rfl rfl rfl (TOp.callB (CallAs.func ent79 rfl rfl) (Bors.cons (Bor.pure rfl) Bors.nil) rfl rfl (x_internal_strconv_lower_ok e3 r10 hf15)) rfl ?_
         refine zL (r := b true) rfl rfl rfl (LOp.eqb (LOp.leq rfl rfl rfl) hc16) ?_
         refine zM (r := b true) rfl rfl rfl rfl rfl ?_
         refine zM (r := ik .u8 e3) rfl rfl rfl rfl rfl ?_
         refine ROps.d (r := ik .u8 r11) (fs := []) (Γ' := []) rfl rfl rfl (TOp.callB (CallAs.func ent79 rfl rfl) (Bors.cons (Bor.pure rfl) Bors.nil) rfl rfl (x_internal_strconv_lower_ok e3 r11 hf17)) rfl ?_
         refine zL (r := b true) rfl rfl rfl (LOp.eqb (LOp.leq rfl rfl rfl) hc18) ?_
         refine zL (r := b true) rfl rfl rfl (LOp.pick_true rfl rfl rfl) ?_
         refine zA (r := b true) rfl rfl rfl rfl rfl ?_
         refine zN ?_
         refine RunC.wl (τ' := [(1, i64 16), (8, b false), (9, str a0), (10, ik .u64 1152921504606846976), (11, ik .u64 4294967295), (12, b false), (13, ik .u64 v1), (15, ik .u8 e3), (99, sl (bytI a0).length ((bytI a0).map (ik .u8))), (100, i64 ((bytI a0).length : Int)), (101, i64 v2), (110, b false), (121, b true), (126, ik .u8 e3), (127, ik .u8 r11), (128, b true)]) (Γ' := []) ⟨aR, aR, aR, aR, aR, aR, aR, aR, aR, aR, aR, aR, aR, aR, aR, aR, trivial⟩ trivial ?_
         refine RunC.cond_true rfl rfl ?_
         obtain ⟨r12, hf19, h34_⟩ := obind_some h34_
         obtain ⟨x13, hx20, h34_⟩ := olet_some h34_
         obtain ⟨x14, hx21, h34_⟩ := olet_some h34_
         refine RunC.regionW ?_
         refine zM (r := ik .u8 e3) rfl rfl rfl rfl rfl ?_
         refine ROps.d (r := ik .u8 r12) (fs := []) (Γ' := []) rfl rfl rfl (TOp.callB (CallAs.func ent79 rfl rfl) (Bors.cons (Bor.pure rfl) Bors.nil) rfl rfl (x_internal_strconv_lower_ok e3 r12 hf19)) rfl ?_
         refine zL (r := ik .u8 x13) rfl rfl rfl (LOp.eqr (LOp.sub rfl rfl rfl) (congrArg (ik .u8) hx20)) ?_
         refine zL (r := ik .u8 x14) rfl rfl rfl (LOp.eqr (LOp.add rfl rfl rfl) (congrArg (ik .u8) hx21)) ?_
         refine zA (r := ik .u8 x14) rfl rfl rfl rfl rfl ?_
         refine zN ?_
         exact ⟨x14, ⟨aR, aR, aR, aR, aR, aR, aR, aR, aR, aR, aR, trivial⟩, trivial, h34_⟩
        ·refine RunC.regionW ?_
         refine zM (r := ik .u8 e3) rfl rfl rfl rfl rfl ?_
         refine ROps.d (r := ik .u8 r10) (fs := []) (Γ' := []) rfl rfl rfl (TOp.callB (CallAs.func ent79 rfl rfl) (Bors.cons (Bor.pure rfl) Bors.nil) rfl rfl (x_internal_strconv_lower_ok e3 r10 hf15)) rfl ?_
         refine zL (r := b true) rfl rfl rfl (LOp.eqb (LOp.leq rfl rfl rfl) hc16) ?_
         refine zM (r := b true) rfl rfl rfl rfl rfl ?_
         refine zM (r := ik .u8 e3) rfl rfl rfl rfl rfl ?_
         refine ROps.d (r := ik .u8 r11) (fs := []) (Γ' := []) rfl rfl rfl (TOp.callB (CallAs.func ent79 rfl rfl) (Bors.cons (Bor.pure rfl) Bors.nil) rfl rfl (x_internal_strconv_lower_ok e3 r11 hf17)) rfl ?_
         refine zL (r := b false) rfl rfl rfl (LOp.eqb (LOp.leq rfl rfl rfl) hc18) ?_
         refine zL (r := b false) rfl rfl rfl (LOp.pick_true rfl rfl rfl) ?_
         refine zA (r := b false) rfl rfl rfl rfl rfl ?_
         refine zN ?_
         refine RunC.wl (τ' := [(1, i64 16), (8, b false), (9, str a0), (10, ik .u64 1152921504606846976), (11, ik .u64 4294967295), (12, b false), (13, ik .u64 v1), (15, ik .u8 e3), (99, sl (bytI a0).length ((bytI a0).map (ik .u8))), (100, i64 ((bytI a0).length : Int)), (101, i64 v2), (110, b false), (121, b false), (126, ik .u8 e3), (127, ik .u8 r11), (128, b false)]) (Γ' := []) ⟨aR, aR, aR, aR, aR, aR, aR, aR, aR, aR, aR, aR, aR, aR, aR, aR, trivial⟩ trivial ?_
         refine RunC.cond_false rfl rfl ?_
         refine zQ ?_
         refine zL (r := x (.iface 103 (.int .i64 2))) rfl rfl rfl (LOp.mkif (v := .int .i64 2) und103 rfl rfl) ?_
         refine zA (r := ik .u64 0) rfl rfl rfl rfl rfl ?_
         refine zA (r := x (.iface 103 (.int .i64 2))) rfl rfl rfl rfl rfl ?_
         refine zN ?_
         cases Option.some.inj h34_
         have hx37_ := hr34 _ rfl
         subst hx37_
         cases Option.some.inj h
       ·refine RunC.regionW ?_
        refine zM (r := ik .u8 e3) rfl rfl rfl rfl rfl ?_
        refine ROps.d (r := ik .u8 r10) (fs := []) (Γ' := []) rfl rfl rfl (TOp.callB (CallAs.func ent79 rfl rfl) (Bors.cons (Bor.pure rfl) Bors.nil) rfl rfl (x_internal_strconv_lower_ok e3 r10 hf15)) rfl ?_
        refine zL (r := b false) rfl rfl rfl (LOp.eqb (LOp.leq rfl rfl rfl) hc16) ?_
        refine zM (r := b false) rfl rfl rfl rfl rfl ?_
        refine ROps.s rfl rfl rfl ?_
        refine ROps.s rfl rfl rfl ?_
        refine ROps.s rfl rfl rfl ?_
        refine zL (r := b false) rfl rfl rfl (LOp.pick_false rfl rfl rfl) ?_
        refine zA (r := b false) rfl rfl rfl rfl rfl ?_
        refine zN ?_
        refine RunC.wl (τ' := [(1, i64 16), (8, b false), (9, str a0), (10, ik .u64 1152921504606846976), (11, ik .u64 4294967295), (12, b false), (13, ik .u64 v1), (15, ik .u8 e3), (99, sl (bytI a0).length ((bytI a0).map (ik .u8))), (100, i64 ((bytI a0).length : Int)), (101, i64 v2), (110, b false), (121, b false)]) (Γ' := []) ⟨aR, aR, aR, aR, aR, aR, aR, aR, aR, aR, aR, aR, aR, trivial⟩ trivial ?_
        refine RunC.cond_false rfl rfl ?_
        refine zQ ?_
        refine zL (r := x (.iface 103 (.int .i64 2))) rfl rfl rfl (LOp.mkif (v := .int .i64 2) und103 rfl rfl) ?_
        refine zA (r := ik .u64 0) rfl rfl rfl rfl rfl ?_
        refine zA (r := x (.iface 103 (.int .i64 2))) rfl rfl rfl rfl rfl ?_
        refine zN ?_
        cases Option.some.inj h34_
        have hx38_ := hr34 _ rfl
        subst hx38_
        cases Option.some.inj h
     ·refine RunC.regionW ?_
      refine zM (r := ik .u8 e3) rfl rfl rfl rfl rfl ?_
      refine zL (r := b false) rfl rfl rfl (LOp.eqb (LOp.eql rfl rfl rfl) hc4) ?_
      refine zM (r := b false) rfl rfl rfl rfl rfl ?_
      refine ROps.s rfl rfl rfl ?_
      refine zL (r := b false) rfl rfl rfl (LOp.pick_false rfl rfl rfl) ?_
      refine zA (r := b false) rfl rfl rfl rfl rfl ?_
      refine zN ?_
      refine RunC.cond_false rfl rfl ?_
      refine RunC.seq ?_
      rcases bsel_some h34_ with ⟨hc22, h34_⟩ | ⟨hc22, h34_⟩
      ·rcases bsel_some h34_ with ⟨hc23, h34_⟩ | ⟨hc23, h34_⟩
       ·refine RunC.regionW ?_
        refine zM (r := ik .u8 e3) rfl rfl rfl rfl rfl ?_
        refine zL (r := b true) rfl rfl rfl (LOp.eqb (LOp.leq rfl rfl rfl) hc22) ?_
        refine zM (r := b true) rfl rfl rfl rfl rfl ?_
        refine zM (r := ik .u8 e3) rfl rfl rfl rfl rfl ?_
        refine zL (r := b true) rfl rfl rfl (LOp.eqb (LOp.leq rfl rfl rfl) hc23) ?_
        refine zL (r := b true) rfl rfl rfl (LOp.pick_true rfl rfl rfl) ?_
        refine zA (r := b true) rfl rfl rfl rfl rfl ?_
        refine zN ?_
        refine RunC.cond_true rfl rfl ?_
        obtain ⟨x15, hx24, h34_⟩ := olet_some h34_
        refine RunC.regionW ?_
        refine zM (r := ik .u8 e3) rfl rfl rfl rfl rfl ?_
        refine zL (r := ik .u8 x15) rfl rfl rfl (LOp.eqr (LOp.sub rfl rfl rfl) (congrArg (ik .u8) hx24)) ?_
        refine zA (r := ik .u8 x15) rfl rfl rfl rfl rfl ?_
        refine zN ?_
        exact ⟨x15, ⟨aR, aR, aR, aR, aR, aR, aR, aR, aR, aR, aR, trivial⟩, trivial, h34_⟩
       ·refine RunC.regionW ?_
        refine zM (r := ik .u8 e3) rfl rfl rfl rfl rfl ?_
        refine zL (r := b true) rfl rfl rfl (LOp.eqb (LOp.leq rfl rfl rfl) hc22) ?_
        refine zM (r := b true) rfl rfl rfl rfl rfl ?_
        refine zM (r := ik .u8 e3) rfl rfl rfl rfl rfl ?_
        refine zL (r := b false) rfl rfl rfl (LOp.eqb (LOp.leq rfl rfl rfl) hc23) ?_
        refine zL (r := b false) rfl rfl rfl (LOp.pick_true rfl rfl rfl) ?_
        refine zA (r := b false) rfl rfl rfl rfl rfl ?_
        refine zN ?_
        refine RunC.cond_false rfl rfl ?_
        refine RunC.seq ?_
        obtain ⟨r16, hf25, h34_⟩ := obind_some h34_
        rcases bsel_some h34_ with ⟨hc26, h34_⟩ | ⟨hc26, h34_⟩
        ·obtain ⟨r17, hf27, h34_⟩ := obind_some h34_
         rcases bsel_some h34_ with ⟨hc28, h34_⟩ | ⟨hc28, h34_⟩
         ·refine RunC.regionW ?_
          refine zM (r := ik .u8 e3) rfl rfl rfl rfl rfl ?_
          refine ROps.d (r := ik .u8 r16) (fs := []) (Γ' := []) rfl rfl rfl (TOp.callB (CallAs.func ent79 rfl rfl) (Bors.cons (Bor.pure rfl) Bors.nil) rfl rfl (x_internal_strconv_lower_ok e3 r16 hf25)) rfl ?_
          refine zL (r := b true) rfl rfl rfl (LOp.eqb (LOp.leq rfl rfl rfl) hc26) ?_
          refine zM (r := b true) rfl rfl rfl rfl rfl ?_
          refine zM (r := ik .u8 e3) rfl rfl rfl rfl rfl ?_
          refine ROps.d (r := ik .u8 r17) (fs := []) (Γ' := []) rfl rfl rfl (TOp.callB (CallAs.func ent79 rfl rfl) (Bors.cons (Bor.pure rfl) Bors.nil) rfl rfl (x_internal_strconv_lower_ok e3 r17 hf27)) rfl ?_
          refine zL (r := b true) rfl rfl rfl (LOp.eqb (LOp.leq rfl rfl rfl) hc28) ?_
          refine zL (r := b true) rfl rfl rfl (LOp.pick_true rfl rfl rfl) ?_
          refine zA (r := b true) rfl rfl rfl rfl rfl ?_
          refine zN ?_
          refine RunC.wl (τ' := [(1, i64 16), (8, b false), (9, str a0), (10, ik .u64 1152921504606846976), (11, ik .u64 4294967295), (12, b false), (13, ik .u64 v1), (15, ik .u8 e3), (99, sl (bytI a0).length ((bytI a0).map (ik .u8))), (100, i64 ((bytI a0).length : Int)), (101, i64 v2), (116, ik .u8 e3), (117, b false), (121, b true), (126, ik .u8 e3), (127, ik .u8 r17), (128, b true)]) (Γ' := []) ⟨aR, aR, aR, aR, aR, aR, aR, aR, aR, aR, aR, aR, aR, aR, aR, aR, aR, trivial⟩ trivial ?_
          refine RunC.cond_true rfl rfl ?_
          obtain ⟨r18, hf29, h34_⟩ := obind_some h34_
          obtain ⟨x19, hx30, h34_⟩ := olet_some h34_
          obtain ⟨x20, hx31, h34_⟩ := olet_some h34_
          refine RunC.regionW ?_
          refine zM (r := ik .u8 e3) rfl rfl rfl rfl rfl ?_
          refine ROps.d (r := ik .u8 r18) (fs := []) (Γ' := []) rfl rfl rfl (TOp.callB (CallAs.func ent79 rfl rfl) (Bors.cons (Bor.pure rfl) Bors.nil) rfl rfl (x_internal_strconv_lower_ok e3 r18 hf29)) rfl ?_
          refine zL (r := ik .u8 x19) rfl rfl rfl (LOp.eqr (LOp.sub rfl rfl rfl) (congrArg (ik .u8) hx30)) ?_
          refine zL (r := ik .u8 x20) rfl rfl rfl (LOp.eqr (LOp.add rfl rfl rfl) (congrArg (ik .u8) hx31)) ?_
          refine zA (r := ik .u8 x20) rfl rfl rfl rfl rfl ?_
          refine zN ?_
          exact ⟨x20, ⟨aR, aR, aR, aR, aR, aR, aR, aR, aR, aR, aR, trivial⟩, trivial, h34_⟩
         ·refine RunC.regionW ?_
          refine zM (r := ik .u8 e3) rfl rfl rfl rfl rfl ?_
          refine ROps.d (r := ik .u8 r16) (fs := []) (Γ' := []) rfl rfl rfl (TOp.callB (CallAs.func ent79 rfl rfl) (Bors.cons (Bor.pure rfl) Bors.nil) rfl rfl (x_internal_strconv_lower_ok e3 r16 hf25)) rfl ?_
          refine zL (r := b true) rfl rfl rfl (LOp.eqb (LOp.leq rfl rfl rfl) hc26) ?_
          refine zM (r := b true) rfl rfl rfl rfl rfl ?_
          refine zM (r := ik .u8 e3) rfl rfl rfl rfl rfl ?_
          refine ROps.d (r := ik .u8 r17) (fs := []) (Γ' := []) rfl rfl rfl (TOp.callB (CallAs.func ent79 rfl rfl) (Bors.cons (Bor.pure rfl) Bors.nil) rfl rfl (x_internal_strconv_lower_ok e3 r17 hf27)) rfl ?_
          refine zL (r := b false) rfl rfl rfl (LOp.eqb (LOp.leq rfl rfl rfl) hc28) ?_
          refine zL (r := b false) rfl rfl rfl (LOp.pick_true rfl rfl rfl) ?_
          refine zA (r := b false) rfl rfl rfl rfl rfl ?_
          refine zN ?_
          refine RunC.wl (τ' := [(1, i64 16), (8, b false), (9, str a0), (10, ik .u64 1152921504606846976), (11, ik .u64 4294967295), (12, b false), (13, ik .u64 v1), (15, ik .u8 e3), (99, sl (bytI a0).length ((bytI a0).map (ik .u8))), (100, i64 ((bytI a0).length : Int)), (101, i64 v2), (116, ik .u8 e3), (117, b false), (121, b false), (126, ik .u8 e3), (127, ik .u8 r17), (128, b false)]) (Γ' := []) ⟨aR, aR, aR, aR, aR, aR, aR, aR, aR, aR, aR, aR, aR, aR, aR, aR, aR, trivial⟩ trivial ?_
          refine RunC.cond_false rfl rfl ?_
          refine zQ ?_
          refine zL (r := x (.iface 103 (.int .i64 2))) rfl rfl rfl (LOp.mkif (v := .int .i64 2) und103 rfl rfl) ?_
          refine zA (r := ik .u64 0) rfl rfl rfl rfl rfl ?_
          refine zA (r := x (.iface 103 (.int .i64 2))) rfl rfl rfl rfl rfl ?_
          refine zN ?_
          cases Option.some.inj h34_
          have hx39_ := hr34 _ rfl
          subst hx39_
          cases Option.some.inj h
        ·refine RunC.regionW ?_
         refine zM (r := ik .u8 e3) rfl rfl rfl rfl rfl ?_
         refine ROps.d (r := ik .u8 r16) (fs := []) (Γ' := []) rfl rfl rfl (TOp.callB (CallAs.func ent79 rfl rfl) (Bors.cons (Bor.pure rfl) Bors.nil) rfl rfl (x_internal_strconv_lower_ok e3 r16 hf25)) rfl ?_
         refine zL (r := b false) rfl rfl rfl (LOp.eqb (LOp.leq rfl rfl rfl) hc26) ?_
         refine zM (r := b false) rfl rfl rfl rfl rfl ?_
         refine ROps.s rfl rfl rfl ?_
         refine ROps.s rfl rfl rfl ?_
         refine ROps.s rfl rfl rfl ?_
         refine zL (r := b false) rfl rfl rfl (LOp.pick_false rfl rfl rfl) ?_
         refine zA (r := b false) rfl rfl rfl rfl rfl ?_
         refine zN ?_
         refine RunC.wl (τ' := [(1, i64 16), (8, b false), (9, str a0), (10, ik .u64 1152921504606846976), (11, ik .u64 4294967295), (12, b false), (13, ik .u64 v1), (15, ik .u8 e3), (99, sl (bytI a0).length ((bytI a0).map (ik .u8))), (100, i64 ((bytI a0).length : Int)), (101, i64 v2), (116, ik .u8 e3), (117, b false), (121, b false)]) (Γ' := []) ⟨aR, aR, aR, aR, aR, aR, aR, aR, aR, aR, aR, aR, aR, aR, trivial⟩ trivial ?_
         refine RunC.cond_false rfl rfl ?_
         refine zQ ?_
         refine zL (r := x (.iface 103 (.int .i64 2))) rfl rfl rfl (LOp.mkif (v := .int .i64 2) und103 rfl rfl) ?_
         refine zA (r := ik .u64 0) rfl rfl rfl rfl rfl ?_
         refine zA (r := x (.iface 103 (.int .i64 2))) rfl rfl rfl rfl rfl ?_
         refine zN ?_
         cases Option.some.inj h34_
         have hx40_ := hr34 _ rfl
         subst hx40_
         cases Option.some.inj h
      ·refine RunC.regionW ?_
       refine zM (r := ik .u8 e3) rfl rfl rfl rfl rfl ?_
       refine zL (r := b false) rfl rfl rfl (LOp.eqb (LOp.leq rfl rfl rfl) hc22) ?_
       refine zM (r := b false) rfl rfl rfl rfl rfl ?_
       refine ROps.s rfl rfl rfl ?_
       refine ROps.s rfl rfl rfl ?_
       refine zL (r := b false) rfl rfl rfl (LOp.pick_false rfl rfl rfl) ?_
       refine zA (r := b false) rfl rfl rfl rfl rfl ?_
       refine zN ?_
       refine RunC.cond_false rfl rfl ?_
       refine RunC.seq ?_
       obtain ⟨r21, hf32, h34_⟩ := obind_some h34_
       rcases bsel_some h34_ with ⟨hc33, h34_⟩ | ⟨hc33, h34_⟩
       ·obtain ⟨r22, hf34, h34_⟩ := obind_some h34_
        rcases bsel_some h34_ with ⟨hc35, h34_⟩ | ⟨hc35, h34_⟩
        ·refine RunC.regionW ?_
         refine zM (r := ik .u8 e3) rfl rfl rfl rfl rfl ?_
         refine ROps.d (r := ik .u8 r21) (fs := []) (Γ' := []) rfl rfl rfl (TOp.callB (CallAs.func ent79 rfl rfl) (Bors.cons (Bor.pure rfl) Bors.nil) rfl rfl (x_internal_strconv_lower_ok e3 r21 hf32)) rfl ?_
         refine zL (r := b true) rfl rfl rfl (LOp.eqb (LOp.leq rfl rfl rfl) hc33) ?_
         refine zM (r := b true) rfl rfl rfl rfl rfl ?_
         refine zM (r := ik .u8 e3) rfl rfl rfl rfl rfl ?_
         refine ROps.d (r := ik .u8 r22) (fs := []) (Γ' := []) rfl rfl rfl (TOp.callB (CallAs.func ent79 rfl rfl) (Bors.cons (Bor.pure rfl) Bors.nil) rfl rfl (x_internal_strconv_lower_ok e3 r22 hf34)) rfl ?_
         refine zL (r := b true) rfl rfl rfl (LOp.eqb (LOp.leq rfl rfl rfl) hc35) ?_
         refine zL (r := b true) rfl rfl rfl (LOp.pick_true rfl rfl rfl) ?_
         refine zA (r := b true) rfl rfl rfl rfl rfl ?_
         refine zN ?_
         refine RunC.wl (τ' := [(1, i64 16), (8, b false), (9, str a0), (10, ik .u64 1152921504606846976), (11, ik .u64 4294967295), (12, b false), (13, ik .u64 v1), (15, ik .u8 e3), (99, sl (bytI a0).length ((bytI a0).map (ik .u8))), (100, i64 ((bytI a0).length : Int)), (101, i64 v2), (121, b true), (126, ik .u8 e3), (127, ik .u8 r22), (128, b true)]) (Γ' := []) ⟨aR, aR, aR, aR, aR, aR, aR, aR, aR, aR, aR, aR, aR, aR, aR, trivial⟩ trivial ?_
         refine RunC.cond_true rfl rfl ?_
         obtain ⟨r23, hf36, h34_⟩ := obind_some h34_
         obtain ⟨x24, hx37, h34_⟩ := olet_some h34_
         obtain ⟨x25, hx38, h34_⟩ := olet_some h34_
         refine RunC.regionW ?_
         refine zM (r := ik .u8 e3) rfl rfl rfl rfl rfl ?_
         refine ROps.d (r := ik .u8 r23) (fs := []) (Γ' := []) rfl rfl rfl (TOp.callB (CallAs.func ent79 rfl rfl) (Bors.cons (Bor.pure rfl) Bors.nil) rfl rfl (x_internal_strconv_lower_ok e3 r23 hf36)) rfl ?_
         refine zL (r := ik .u8 x24) rfl rfl rfl (LOp.eqr (LOp.sub rfl rfl rfl) (congrArg (ik .u8) hx37)) ?_
         refine zL (r := ik .u8 x25) rfl rfl rfl (LOp.eqr (LOp.add rfl rfl rfl) (congrArg (ik .u8) hx38)) ?_
         refine zA (r := ik .u8 x25) rfl rfl rfl rfl rfl ?_
         refine zN ?_
         exact ⟨x25, ⟨aR, aR, aR, aR, aR, aR, aR, aR, aR, aR, aR, trivial⟩, trivial, h34_⟩
        ·refine RunC.regionW ?_
         refine zM (r := ik .u8 e3) rfl rfl rfl rfl rfl ?_
         refine ROps.d (r := ik .u8 r21) (fs := []) (Γ' := []) rfl rfl rfl (TOp.callB (CallAs.func ent79 rfl rfl) (Bors.cons (Bor.pure rfl) Bors.nil) rfl rfl (x_internal_strconv_lower_ok e3 r21 hf32)) rfl ?_
         refine zL (r := b true) rfl rfl rfl (LOp.eqb (LOp.leq rfl rfl rfl) hc33) ?_
         refine zM (r := b true) rfl rfl rfl rfl rfl ?_
         refine zM (r := ik .u8 e3) rfl rfl rfl rfl rfl ?_
         refine ROps.d (r := ik .u8 r22) (fs := []) (Γ' := []) rfl rfl rfl (TOp.callB (CallAs.func ent79 rfl rfl) (Bors.cons (Bor.pure rfl) Bors.nil) rfl rfl (x_internal_strconv_lower_ok e3 r22 hf34)) rfl ?_
         refine zL (r := b false) rfl rfl rfl (LOp.eqb (LOp.leq rfl rfl rfl) hc35) ?_
         refine zL (r := b false) rfl rfl rfl (LOp.pick_true rfl rfl rfl) ?_
         refine zA (r := b false) rfl rfl rfl rfl rfl ?_
         refine zN ?_
         refine RunC.wl (τ' := [(1, i64 16), (8, b false), (9, str a0), (10, ik .u64 1152921504606846976), (11, ik .u64 4294967295), (12, b false), (13, ik .u64 v1), (15, ik .u8 e3), (99, sl (bytI a0).length ((bytI a0).map (ik .u8))), (100, i64 ((bytI a0).length : Int)), (101, i64 v2), (121, b false), (126, ik .u8 e3), (127, ik .u8 r22), (128, b false)]) (Γ' := []) ⟨aR, aR, aR, aR, aR, aR, aR, aR, aR, aR, aR, aR, aR, aR, aR, trivial⟩ trivial ?_
         refine RunC.cond_false rfl rfl ?_
         refine zQ ?_
         refine zL (r := x (.iface 103 (.int .i64 2))) rfl rfl rfl (LOp.mkif (v := .int .i64 2) und103 rfl rfl) ?_
         refine zA (r := ik .u64 0) rfl rfl rfl rfl rfl ?_
         refine zA (r := x (.iface 103 (.int .i64 2))) rfl rfl rfl rfl rfl ?_
         refine zN ?_
         cases Option.some.inj h34_
         have hx41_ := hr34 _ rfl
         subst hx41_
         cases Option.some.inj h
       ·refine RunC.regionW ?_
        refine zM (r := ik .u8 e3) rfl rfl rfl rfl rfl ?_
        refine ROps.d (r := ik .u8 r21) (fs := []) (Γ' := []) rfl rfl rfl (TOp.callB (CallAs.func ent79 rfl rfl) (Bors.cons (Bor.pure rfl) Bors.nil) rfl rfl (x_internal_strconv_lower_ok e3 r21 hf32)) rfl ?_
        refine zL (r := b false) rfl rfl rfl (LOp.eqb (LOp.leq rfl rfl rfl) hc33) ?_
        refine zM (r := b false) rfl rfl rfl rfl rfl ?_
        refine ROps.s rfl rfl rfl ?_
        refine ROps.s rfl rfl rfl ?_
        refine ROps.s rfl rfl rfl ?_
        refine zL (r := b false) rfl rfl rfl (LOp.pick_false rfl rfl rfl) ?_
        refine zA (r := b false) rfl rfl rfl rfl rfl ?_
        refine zN ?_
        refine RunC.wl (τ' := [(1, i64 16), (8, b false), (9, str a0), (10, ik .u64 1152921504606846976), (11, ik .u64 4294967295), (12, b false), (13, ik .u64 v1), (15, ik .u8 e3), (99, sl (bytI a0).length ((bytI a0).map (ik .u8))), (100, i64 ((bytI a0).length : Int)), (101, i64 v2), (121, b false)]) (Γ' := []) ⟨aR, aR, aR, aR, aR, aR, aR, aR, aR, aR, aR, aR, trivial⟩ trivial ?_
        refine RunC.cond_false rfl rfl ?_
        refine zQ ?_
        refine zL (r := x (.iface 103 (.int .i64 2))) rfl rfl rfl (LOp.mkif (v := .int .i64 2) und103 rfl rfl) ?_
        refine zA (r := ik .u64 0) rfl rfl rfl rfl rfl ?_
        refine zA (r := x (.iface 103 (.int .i64 2))) rfl rfl rfl rfl rfl ?_
        refine zN ?_
        cases Option.some.inj h34_
        have hx42_ := hr34 _ rfl
        subst hx42_
        cases Option.some.inj h
    ·rintro τ43 Γ43 ⟨v26, hw43, hd43, h34_⟩
     refine RunC.wl hw43 hd43 ?_
     unfold x_internal_strconv_ParseUint_k2 at h34_
     refine RunC.seq ?_
     refine RunC.seq ?_
     rcases bsel_some h34_ with ⟨hc39, h34_⟩ | ⟨hc39, h34_⟩
     ·refine RunC.regionW ?_
      refine zM (r := ik .u8 v26) rfl rfl rfl rfl rfl ?_
      refine zM (r := i64 16) rfl rfl rfl rfl rfl ?_
      refine zL (r := ik .u8 16) rfl rfl rfl ((show LOp _ _ _ (ik .u8 (IntKind.u8.wrap 16)) from LOp.i2i (src := 3) (dst := 5) ⟨_, pun3⟩ pun5 rfl rfl)) ?_
      refine zL (r := b true) rfl rfl rfl (LOp.eqb (LOp.geq rfl rfl rfl) hc39) ?_
      refine zN ?_
      refine RunC.cond_true rfl rfl ?_
      refine zQ ?_
      refine zL (r := x (.iface 103 (.int .i64 2))) rfl rfl rfl (LOp.mkif (v := .int .i64 2) und103 rfl rfl) ?_
      refine zA (r := ik .u64 0) rfl rfl rfl rfl rfl ?_
      refine zA (r := x (.iface 103 (.int .i64 2))) rfl rfl rfl rfl rfl ?_
      refine zN ?_
      cases Option.some.inj h34_
      have hx44_ := hr34 _ rfl
      subst hx44_
      cases Option.some.inj h
     ·refine RunC.regionW ?_
      refine zM (r := ik .u8 v26) rfl rfl rfl rfl rfl ?_
      refine zM (r := i64 16) rfl rfl rfl rfl rfl ?_
      refine zL (r := ik .u8 16) rfl rfl rfl ((show LOp _ _ _ (ik .u8 (IntKind.u8.wrap 16)) from LOp.i2i (src := 3) (dst := 5) ⟨_, pun3⟩ pun5 rfl rfl)) ?_
      refine zL (r := b false) rfl rfl rfl (LOp.eqb (LOp.geq rfl rfl rfl) hc39) ?_
      refine zN ?_
      refine RunC.cond_false rfl rfl ?_
      refine RunC.skip ?_
      refine RunC.seq ?_
      refine RunC.seq ?_
      rcases bsel_some h34_ with ⟨hc40, h34_⟩ | ⟨hc40, h34_⟩
      ·refine RunC.regionW ?_
       refine zM (r := ik .u64 v1) rfl rfl rfl rfl rfl ?_
       refine zM (r := ik .u64 1152921504606846976) rfl rfl rfl rfl rfl ?_
       refine zL (r := b true) rfl rfl rfl (LOp.eqb (LOp.geq rfl rfl rfl) hc40) ?_
       refine zN ?_
       refine RunC.cond_true rfl rfl ?_
       refine zQ ?_
       refine zM (r := ik .u64 4294967295) rfl rfl rfl rfl rfl ?_
       refine zL (r := x (.iface 103 (.int .i64 1))) rfl rfl rfl (LOp.mkif (v := .int .i64 1) und103 rfl rfl) ?_
       refine zA (r := ik .u64 4294967295) rfl rfl rfl rfl rfl ?_
       refine zA (r := x (.iface 103 (.int .i64 1))) rfl rfl rfl rfl rfl ?_
       refine zN ?_
       cases Option.some.inj h34_
       have hx45_ := hr34 _ rfl
       subst hx45_
       cases Option.some.inj h
      ·refine RunC.regionW ?_
       refine zM (r := ik .u64 v1) rfl rfl rfl rfl rfl ?_
       refine zM (r := ik .u64 1152921504606846976) rfl rfl rfl rfl rfl ?_
       refine zL (r := b false) rfl rfl rfl (LOp.eqb (LOp.geq rfl rfl rfl) hc40) ?_
       refine zN ?_
       refine RunC.cond_false rfl rfl ?_
       refine RunC.skip ?_
       refine RunC.seq ?_
       obtain ⟨x27, hx41, h34_⟩ := olet_some h34_
       refine RunC.regionW ?_
       refine zM (r := ik .u64 v1) rfl rfl rfl rfl rfl ?_
       refine zM (r := i64 16) rfl rfl rfl rfl rfl ?_
       refine zL (r := ik .u64 16) rfl rfl rfl ((show LOp _ _ _ (ik .u64 (IntKind.u64.wrap 16)) from LOp.i2i (src := 3) (dst := 69) ⟨_, pun3⟩ pun69 rfl rfl)) ?_
       refine zL (r := ik .u64 x27) rfl rfl rfl (LOp.eqr (LOp.mul rfl rfl rfl) (congrArg (ik .u64) hx41)) ?_
       refine zA (r := ik .u64 x27) rfl rfl rfl rfl rfl ?_
       refine zN ?_
       refine RunC.seq ?_
       obtain ⟨x28, hx42, h34_⟩ := olet_some h34_
       obtain ⟨x29, hx43, h34_⟩ := olet_some h34_
       refine RunC.regionW ?_
       refine zM (r := ik .u64 x27) rfl rfl rfl rfl rfl ?_
       refine zM (r := ik .u8 v26) rfl rfl rfl rfl rfl ?_
       refine zL (r := ik .u64 x28) rfl rfl rfl (LOp.eqr (LOp.i2i (src := 5) (dst := 69) ⟨_, pun5⟩ pun69 rfl rfl) (congrArg (ik .u64) hx42)) ?_
       refine zL (r := ik .u64 x29) rfl rfl rfl (LOp.eqr (LOp.add rfl rfl rfl) (congrArg (ik .u64) hx43)) ?_
       refine zA (r := ik .u64 x29) rfl rfl rfl rfl rfl ?_
       refine zN ?_
       refine RunC.seq ?_
       refine RunC.seq ?_
       rcases bsel_some h34_ with ⟨hc44, h34_⟩ | ⟨hc44, h34_⟩
       ·refine RunC.regionW ?_
        refine zM (r := ik .u64 x29) rfl rfl rfl rfl rfl ?_
        refine zM (r := ik .u64 x27) rfl rfl rfl rfl rfl ?_
        refine zL (r := b true) rfl rfl rfl (LOp.eqb (LOp.lss rfl rfl rfl) hc44) ?_
        refine zM (r := b true) rfl rfl rfl rfl rfl ?_
        refine ROps.s rfl rfl rfl ?_
        refine ROps.s rfl rfl rfl ?_
        refine ROps.s rfl rfl rfl ?_
        refine zL (r := b true) rfl rfl rfl (LOp.pick_true rfl rfl rfl) ?_
        refine zN ?_
        refine RunC.cond_true rfl rfl ?_
        refine zQ ?_
        refine zM (r := ik .u64 4294967295) rfl rfl rfl rfl rfl ?_
        refine zL (r := x (.iface 103 (.int .i64 1))) rfl rfl rfl (LOp.mkif (v := .int .i64 1) und103 rfl rfl) ?_
        refine zA (r := ik .u64 4294967295) rfl rfl rfl rfl rfl ?_
        refine zA (r := x (.iface 103 (.int .i64 1))) rfl rfl rfl rfl rfl ?_
        refine zN ?_
        cases Option.some.inj h34_
        have hx46_ := hr34 _ rfl
        subst hx46_
        cases Option.some.inj h
       ·rcases bsel_some h34_ with ⟨hc45, h34_⟩ | ⟨hc45, h34_⟩
        ·refine RunC.regionW ?_
         refine zM (r := ik .u64 x29) rfl rfl rfl rfl rfl ?_
         refine zM (r := ik .u64 x27) rfl rfl rfl rfl rfl ?_
         refine zL (r := b false) rfl rfl rfl (LOp.eqb (LOp.lss rfl rfl rfl) hc44) ?_
         refine zM (r := b false) rfl rfl rfl rfl rfl ?_
         refine zM (r := ik .u64 x29) rfl rfl rfl rfl rfl ?_
         refine zM (r := ik .u64 4294967295) rfl rfl rfl rfl rfl ?_
         refine zL (r := b true) rfl rfl rfl (LOp.eqb (LOp.gtr rfl rfl rfl) hc45) ?_
         refine zL (r := b true) rfl rfl rfl (LOp.pick_false rfl rfl rfl) ?_
         refine zN ?_
         refine RunC.cond_true rfl rfl ?_
         refine zQ ?_
         refine zM (r := ik .u64 4294967295) rfl rfl rfl rfl rfl ?_
         refine zL (r := x (.iface 103 (.int .i64 1))) rfl rfl rfl (LOp.mkif (v := .int .i64 1) und103 rfl rfl) ?_
         refine zA (r := ik .u64 4294967295) rfl rfl rfl rfl rfl ?_
         refine zA (r := x (.iface 103 (.int .i64 1))) rfl rfl rfl rfl rfl ?_
         refine zN ?_
         cases Option.some.inj h34_
         have hx47_ := hr34 _ rfl
         subst hx47_
         cases Option.some.inj h
        ·refine RunC.regionW ?_
         refine zM (r := ik .u64 x29) rfl rfl rfl rfl rfl ?_
         refine zM (r := ik .u64 x27) rfl rfl rfl rfl rfl ?_
         refine zL (r := b false) rfl rfl rfl (LOp.eqb (LOp.lss rfl rfl rfl) hc44) ?_
         refine zM (r := b false) rfl rfl rfl rfl rfl ?_
         refine zM (r := ik .u64 x29) rfl rfl rfl rfl rfl ?_
         refine zM (r := ik .u64 4294967295) rfl rfl rfl rfl rfl ?_
         refine zL (r := b false) rfl rfl rfl (LOp.eqb (LOp.gtr rfl rfl rfl) hc45) ?_
         refine zL (r := b false) rfl rfl rfl (LOp.pick_false rfl rfl rfl) ?_
         refine zN ?_
         refine RunC.cond_false rfl rfl ?_
         refine RunC.skip ?_
         refine RunC.wl (τ' := [(1, i64 16), (8, b false), (9, str a0), (10, ik .u64 1152921504606846976), (11, ik .u64 4294967295), (12, b false), (17, ik .u64 x29), (99, sl (bytI a0).length ((bytI a0).map (ik .u8))), (100, i64 ((bytI a0).length : Int)), (101, i64 v2), (156, ik .u64 x29), (157, ik .u64 4294967295), (158, b false)]) (Γ' := []) ⟨aR, aR, aR, aR, aR, aR, aR, aR, aR, aR, aR, aR, aR, trivial⟩ trivial ?_
         refine RunC.regionW ?_
         refine zM (r := ik .u64 x29) rfl rfl rfl rfl rfl ?_
         refine zA (r := ik .u64 x29) rfl rfl rfl rfl rfl ?_
         refine zN ?_
         obtain ⟨x30, hx46, h34_⟩ := olet_some h34_
         refine RunC.regionW ?_
         refine zL (r := i64 x30) rfl rfl rfl (LOp.eqr (LOp.add rfl rfl rfl) (congrArg (ik .i64) hx46)) ?_
         refine zM (r := i64 x30) rfl rfl rfl rfl rfl ?_
         refine zN ?_
         cases Option.some.inj h34_
         exact ⟨_, rfl, ⟨aR, aR, aR, aR, aR, aR, aR, aR, aR, aR, trivial⟩, trivial⟩
   ·refine RunC.regionW ?_
    refine zL (r := b false) rfl rfl rfl (LOp.eqb (LOp.lss rfl rfl rfl) hc2) ?_
    refine zN ?_
    refine RunC.seq ?_
    refine RunC.cond_false rfl rfl ?_
    refine RunC.exit ?_
    cases Option.some.inj h34_
    have hx := ho34 _ rfl
    exact ⟨v1, ⟨aR, aR, aR, trivial⟩, trivial, hx⟩
  ·rintro τ48 Γ48 ⟨v31, hw48, hd48, rfl⟩
   refine RunC.wl hw48 hd48 ?_
   replace h : x_internal_strconv_ParseUint_k3 v31 = some (Sum.inr (Sum.inr q0)) := h
   unfold x_internal_strconv_ParseUint_k3 at h
   refine RunC.seq ?_
   refine zQ ?_
   refine zM (r := b false) rfl rfl rfl rfl rfl ?_
   refine zM (r := b false) rfl rfl rfl rfl rfl ?_
   refine ROps.s rfl rfl rfl ?_
   refine ROps.s rfl rfl rfl ?_
   refine ROps.s rfl rfl rfl ?_
   refine zL (r := b false) rfl rfl rfl (LOp.pick_false rfl rfl rfl) ?_
   refine zN ?_
   refine RunC.cond_false rfl rfl ?_
   refine RunC.skip ?_
   refine zQ ?_
   refine zM (r := ik .u64 v31) rfl rfl rfl rfl rfl ?_
   refine zA (r := ik .u64 v31) rfl rfl rfl rfl rfl ?_
   refine zA (r := x .nilIface) rfl rfl rfl rfl rfl ?_
   refine zN ?_
   refine RunC.ret ?_
   have hq := Option.some.inj h
   have hq := Sum.inr.inj hq
   have hq := Sum.inr.inj hq
   subst q0
   exact bodyQ.pure (.inr rfl) rfl (Res.two rfl (RV.tmp rfl) (RV.tmp rfl))
noncomputable def x_strconv_toError_syntax (a0 a1 : ByteArray) (a2 a3 : Int) : Option Unit :=
 need (decide (a1.size ≤ 281474976710656)) <|
 some ()
def toe_ren : Go.Shelf.Ren :=
{
 f := fun x =>
  match x with
  | 245 => 64
  | 279 => 81
  | 280 => 82
  | 281 => 83
  | 282 => 84
  | 316 => 98
  | 171 => 100
  | 205 => 99
  | 243 => 111
  | 246 => 85
  | 283 => 101
  | 284 => 102
  | 285 => 103
  | 286 => 104
  | 129 => 113
  | 317 => 112
  | 318 => 114
  | 319 => 115
  | 320 => 116
  | 337 => 121
  | 338 => 122
  | n => n,
 t := fun x =>
  match x with
  | 9 => 9
  | 3 => 3
  | 75 => 71
  | 167 => 103
  | 4 => 4
  | 168 => 106
  | 210 => 123
  | 37 => 105
  | 0 => 0
  | 127 => 134
  | 145 => 142
  | 143 => 140
  | 2 => 2
  | 171 => 126
  | 53 => 69
  | 5 => 5
  | 173 => 129
  | 212 => 144
  | 51 => 75
  | 20 => 20
  | 213 => 145
  | 46 => 87
  | 232 => 154
  | 233 => 155
  | 80 => 119
  | n => n,
 g := fun x =>
  match x with
  | 15 => 2
  | 16 => 3
  | 17 => 6
  | 18 => 7
  | 19 => 8
  | n => n }
theorem toe_lays : Go.Proofs.LaysC.n245 Tryz.prog toe_ren :=
 {
  f129 := (Eq.trans Tryz.func113 (congrArg some (by kernel_rfl))),
  f171 := (Eq.trans Tryz.func100 (congrArg some (by kernel_rfl))),
  f205 := (Eq.trans Tryz.func99 (congrArg some (by kernel_rfl))),
  f243 := (Eq.trans Tryz.func111 (congrArg some (by kernel_rfl))),
  f245 := (Eq.trans Tryz.func64 (congrArg some (by kernel_rfl))),
  f246 := (Eq.trans Tryz.func85 (congrArg some (by kernel_rfl))),
  f279 := (Eq.trans Tryz.func81 (congrArg some (by kernel_rfl))),
  f280 := (Eq.trans Tryz.func82 (congrArg some (by kernel_rfl))),
  f281 := (Eq.trans Tryz.func83 (congrArg some (by kernel_rfl))),
  f282 := (Eq.trans Tryz.func84 (congrArg some (by kernel_rfl))),
  f283 := (Eq.trans Tryz.func101 (congrArg some (by kernel_rfl))),
  f284 := (Eq.trans Tryz.func102 (congrArg some (by kernel_rfl))),
  f285 := (Eq.trans Tryz.func103 (congrArg some (by kernel_rfl))),
  f286 := (Eq.trans Tryz.func104 (congrArg some (by kernel_rfl))),
  f316 := (Eq.trans Tryz.func98 (congrArg some (by kernel_rfl))),
  f317 := (Eq.trans Tryz.func112 (congrArg some (by kernel_rfl))),
  f318 := (Eq.trans Tryz.func114 (congrArg some (by kernel_rfl))),
  f319 := (Eq.trans Tryz.func115 (congrArg some (by kernel_rfl))),
  f320 := (Eq.trans Tryz.func116 (congrArg some (by kernel_rfl))),
  f337 := (Eq.trans Tryz.func121 (congrArg some (by kernel_rfl))),
  f338 := (Eq.trans Tryz.func122 (congrArg some (by kernel_rfl))),
  t0 := Tryz.underlying0,
  a0 := Tryz.isAgg0,
  z0 := Tryz.sizeOf0,
  v0 := Tryz.zeroValue0,
  t2 := Tryz.underlying2,
  a2 := Tryz.isAgg2,
  z2 := Tryz.sizeOf2,
  v2 := Tryz.zeroValue2,
  t3 := Tryz.underlying3,
  a3 := Tryz.isAgg3,
  z3 := Tryz.sizeOf3,
  v3 := Tryz.zeroValue3,
  t4 := Tryz.underlying4,
  a4 := Tryz.isAgg4,
  z4 := Tryz.sizeOf4,
  v4 := Tryz.zeroValue4,
  t5 := Tryz.underlying5,
  a5 := Tryz.isAgg5,
  z5 := Tryz.sizeOf5,
  v5 := Tryz.zeroValue5,
  t9 := Tryz.underlying9,
  a9 := Tryz.isAgg9,
  z9 := Tryz.sizeOf9,
  v9 := Tryz.zeroValue9,
  t20 := Tryz.underlying20,
  a20 := Tryz.isAgg20,
  z20 := Tryz.sizeOf20,
  v20 := Tryz.zeroValue20,
  t37 := Tryz.underlying105,
  a37 := Tryz.isAgg105,
  z37 := Tryz.sizeOf105,
  v37 := Tryz.zeroValue105,
  t46 := Tryz.underlying87,
  a46 := Tryz.isAgg87,
  z46 := Tryz.sizeOf87,
  v46 := Tryz.zeroValue87,
  t51 := Tryz.underlying75,
  a51 := Tryz.isAgg75,
  z51 := Tryz.sizeOf75,
  v51 := Tryz.zeroValue75,
  t53 := Tryz.underlying69,
  a53 := Tryz.isAgg69,
  z53 := Tryz.sizeOf69,
  v53 := Tryz.zeroValue69,
  t75 := Tryz.underlying71,
  a75 := Tryz.isAgg71,
  z75 := Tryz.sizeOf71,
  v75 := Tryz.zeroValue71,
  t127 := Tryz.underlying134,
  a127 := Tryz.isAgg134,
  z127 := Tryz.sizeOf134,
  v127 := Tryz.zeroValue134,
  t143 := Tryz.underlying140,
  a143 := Tryz.isAgg140,
  z143 := Tryz.sizeOf140,
  v143 := Tryz.zeroValue140,
  t145 := Tryz.underlying142,
  a145 := Tryz.isAgg142,
  z145 := Tryz.sizeOf142,
  v145 := Tryz.zeroValue142,
  t167 := Tryz.underlying103,
  a167 := Tryz.isAgg103,
  z167 := Tryz.sizeOf103,
  v167 := Tryz.zeroValue103,
  t168 := Tryz.underlying106,
  a168 := Tryz.isAgg106,
  z168 := Tryz.sizeOf106,
  v168 := Tryz.zeroValue106,
  t171 := Tryz.underlying126,
  a171 := Tryz.isAgg126,
  z171 := Tryz.sizeOf126,
  v171 := Tryz.zeroValue126,
  t173 := Tryz.underlying129,
  a173 := Tryz.isAgg129,
  z173 := Tryz.sizeOf129,
  v173 := Tryz.zeroValue129,
  t210 := Tryz.underlying123,
  a210 := Tryz.isAgg123,
  z210 := Tryz.sizeOf123,
  v210 := Tryz.zeroValue123,
  t212 := Tryz.underlying144,
  a212 := Tryz.isAgg144,
  z212 := Tryz.sizeOf144,
  v212 := Tryz.zeroValue144,
  t213 := Tryz.underlying145,
  a213 := Tryz.isAgg145,
  z213 := Tryz.sizeOf145,
  t232 := Tryz.underlying154,
  a232 := Tryz.isAgg154,
  z232 := Tryz.sizeOf154,
  v232 := Tryz.zeroValue154,
  t233 := Tryz.underlying155,
  a233 := Tryz.isAgg155,
  z233 := Tryz.sizeOf155,
  v233 := Tryz.zeroValue155,
  t80 := Tryz.underlying119,
  a80 := Tryz.isAgg119,
  z80 := Tryz.sizeOf119,
  v80 := Tryz.zeroValue119,
  mixed := (by kernel_rfl),
  g15 := (by kernel_rfl),
  g16 := (by kernel_rfl),
  g17 := (by kernel_rfl),
  g18 := (by kernel_rfl),
  g19 := (by kernel_rfl),
  i0 := (by kernel_rfl),
  i2 := (by kernel_rfl),
  i3 := (by kernel_rfl),
  i4 := (by kernel_rfl),
  i5 := (by kernel_rfl),
  i9 := (by kernel_rfl),
  i20 := (by kernel_rfl),
  i37 := (by kernel_rfl),
  i46 := (by kernel_rfl),
  i51 := (by kernel_rfl),
  i53 := (by kernel_rfl),
  i75 := (by kernel_rfl),
  i80 := (by kernel_rfl),
  i127 := (by kernel_rfl),
  i143 := (by kernel_rfl),
  i145 := (by kernel_rfl),
  i167 := (by kernel_rfl),
  i168 := (by kernel_rfl),
  i171 := (by kernel_rfl),
  i173 := (by kernel_rfl),
  i210 := (by kernel_rfl),
  i212 := (by kernel_rfl),
  i232 := (by kernel_rfl),
  i233 := (by kernel_rfl),
  m15 := (by kernel_rfl),
  m16 := (by kernel_rfl),
  m17 := (by kernel_rfl),
  m18 := (by kernel_rfl),
  m19 := (by kernel_rfl),
  c0 := (by kernel_rfl),
  c2 := (by kernel_rfl),
  c3 := (by kernel_rfl),
  c4 := (by kernel_rfl),
  c5 := (by kernel_rfl),
  c9 := (by kernel_rfl),
  c20 := (by kernel_rfl),
  c37 := (by kernel_rfl),
  c46 := (by kernel_rfl),
  c51 := (by kernel_rfl),
  c53 := (by kernel_rfl),
  c75 := (by kernel_rfl),
  c80 := (by kernel_rfl),
  c127 := (by kernel_rfl),
  c143 := (by kernel_rfl),
  c145 := (by kernel_rfl),
  c167 := (by kernel_rfl),
  c168 := (by kernel_rfl),
  c171 := (by kernel_rfl),
  c173 := (by kernel_rfl),
  c210 := (by kernel_rfl),
  c212 := (by kernel_rfl),
  c213 := (by kernel_rfl),
  c232 := (by kernel_rfl),
  c233 := (by kernel_rfl) }
theorem x_strconv_toError_syntax_five {vs : Array Value} {S : Snap} {a0 a1 : ByteArray} {a2 a3 : Int} (ha : VL S [] [str a0, str a1, i64 a2, i64 a3, x (.iface 103 (.int .i64 2))] vs.toList) : vs = #[.string a0, .string a1, .int .i64 a2, .int .i64 a3, .iface 103 (.int .i64 2)] := by
 obtain ⟨vl⟩ := vs
 match vl, ha with
 | [v0, v1, v2, v3, v4], ha =>
  simp only [VL, V] at ha
  obtain ⟨rfl, rfl, rfl, rfl, rfl, _⟩ := ha
  rfl
 | [], ha => simp only [VL] at ha
 | [_], ha => simp only [VL] at ha; exact ha.2.elim
 | [_, _], ha => simp only [VL] at ha; exact ha.2.2.elim
 | [_, _, _], ha => simp only [VL] at ha; exact ha.2.2.2.elim
 | [_, _, _, _], ha => simp only [VL] at ha; exact ha.2.2.2.2.elim
 | _ :: _ :: _ :: _ :: _ :: _ :: _, ha => simp only [VL] at ha; exact ha.2.2.2.2.2.elim
theorem x_strconv_toError_syntax_ok (a0 a1 : ByteArray) (a2 a3 : Int) (h : x_strconv_toError_syntax a0 a1 a2 a3 = some ()) : Ev Tryz.prog 64 [str a0, str a1, i64 a2, i64 a3, x (.iface 103 (.int .i64 2))] [] (nni) [] := by
 unfold x_strconv_toError_syntax at h
 obtain ⟨h1, _⟩ := need_some h
 have h1 := of_decide_eq_true h1
 refine Ev.ofGrow fun S w vs hs ha => ?_
 rw [x_strconv_toError_syntax_five ha]
 obtain ⟨ev, hv, hev⟩ := globs_err hs (g := 2) (by unfold globsI; simp)
 refine (Go.Proofs.Any.strconv_toError_syntax toe_lays a0 a1 a2 a3 ev w h1 hv hev).mono ?_
 rintro e w' ⟨N, rfl, _, _, hB⟩
 exact ⟨_, rfl, by simp only [V]; exact ⟨_, _, rfl⟩, hB.size, fun k hk => hB.block k hk, hB.os, hB.tape, hB.output⟩
noncomputable def x_strconv_toError_range (a0 a1 : ByteArray) (a2 a3 : Int) : Option Unit :=
 need (decide (a1.size ≤ 281474976710656)) <|
 some ()
theorem x_strconv_toError_range_five {vs : Array Value} {S : Snap} {a0 a1 : ByteArray} {a2 a3 : Int} (ha : VL S [] [str a0, str a1, i64 a2, i64 a3, x (.iface 103 (.int .i64 1))] vs.toList) : vs = #[.string a0, .string a1, .int .i64 a2, .int .i64 a3, .iface 103 (.int .i64 1)] := by
 obtain ⟨vl⟩ := vs
 match vl, ha with
 | [v0, v1, v2, v3, v4], ha =>
  simp only [VL, V] at ha
  obtain ⟨rfl, rfl, rfl, rfl, rfl, _⟩ := ha
  rfl
 | [], ha => simp only [VL] at ha
 | [_], ha => simp only [VL] at ha; exact ha.2.elim
 | [_, _], ha => simp only [VL] at ha; exact ha.2.2.elim
 | [_, _, _], ha => simp only [VL] at ha; exact ha.2.2.2.elim
 | [_, _, _, _], ha => simp only [VL] at ha; exact ha.2.2.2.2.elim
 | _ :: _ :: _ :: _ :: _ :: _ :: _, ha => simp only [VL] at ha; exact ha.2.2.2.2.2.elim
theorem x_strconv_toError_range_ok (a0 a1 : ByteArray) (a2 a3 : Int) (h : x_strconv_toError_range a0 a1 a2 a3 = some ()) : Ev Tryz.prog 64 [str a0, str a1, i64 a2, i64 a3, x (.iface 103 (.int .i64 1))] [] (nni) [] := by
 unfold x_strconv_toError_range at h
 obtain ⟨h1, _⟩ := need_some h
 have h1 := of_decide_eq_true h1
 refine Ev.ofGrow fun S w vs hs ha => ?_
 rw [x_strconv_toError_range_five ha]
 obtain ⟨ev, hv, hev⟩ := globs_err hs (g := 3) (by unfold globsI; simp)
 refine (Go.Proofs.Any.strconv_toError_range toe_lays a0 a1 a2 a3 ev w h1 hv hev).mono ?_
 rintro e w' ⟨N, rfl, _, _, hB⟩
 exact ⟨_, rfl, by simp only [V]; exact ⟨_, _, rfl⟩, hB.size, fun k hk => hB.block k hk, hB.os, hB.tape, hB.output⟩
noncomputable def x_strconv_ParseUint (a0 : ByteArray) : Option ((Int) ⊕ (Int)) :=
 obind (x_internal_strconv_ParseUint a0) (fun z => osum z (fun (r1 : Int) =>
  obind (x_strconv_toError_syntax lit_c0869d09 a0 16 32) fun (_u4 : Unit) =>
  some (Sum.inl r1)) (fun z => osum z (fun (r2 : Int) =>
  obind (x_strconv_toError_range lit_c0869d09 a0 16 32) fun (_u5 : Unit) =>
  some (Sum.inl r2)) (fun (r3 : Int) =>
  some (Sum.inr r3))))
theorem x_strconv_ParseUint_ok0 (a0 : ByteArray) (q0 : Int) (h : x_strconv_ParseUint a0 = some (Sum.inl q0)) : Ev Tryz.prog 44 [str a0, i64 16, i64 32] [] (tup [ik .u64 q0, nni]) [] := by
 refine Ev.start Tryz.func44 rfl rfl 0 (τ := [(0, str a0), (1, i64 16), (2, i64 32)]) rfl (Γ' := []) rfl (n := 53) rfl (g := 0) rfl (fun _ => rfl) ?_
 unfold x_strconv_ParseUint at h
 refine zQ ?_
 refine zA (r := ik .u64 0) rfl rfl rfl rfl rfl ?_
 refine zA (r := x .nilIface) rfl rfl rfl rfl rfl ?_
 refine zN ?_
 refine RunC.seq ?_
 obtain ⟨z1, hf1, h⟩ := obind_some h
 rcases z1 with r1 | z1
 ·replace h := (osum_inl _ _ _).symm.trans h
  refine RunC.regionW ?_
  refine zM (r := str a0) rfl rfl rfl rfl rfl ?_
  refine zM (r := i64 16) rfl rfl rfl rfl rfl ?_
  refine zM (r := i64 32) rfl rfl rfl rfl rfl ?_
  refine ROps.d (r := tup [ik .u64 r1, x (.iface 103 (.int .i64 2))]) (fs := []) (Γ' := []) rfl rfl rfl (TOp.callB (CallAs.func ent63 rfl rfl) (Bors.cons (Bor.pure rfl) (Bors.cons (Bor.pure rfl) (Bors.cons (Bor.pure rfl) Bors.nil))) rfl rfl (x_internal_strconv_ParseUint_ok0 a0 r1 hf1)) rfl ?_
  refine zM (r := tup [ik .u64 r1, x (.iface 103 (.int .i64 2))]) rfl rfl rfl rfl rfl ?_
  refine zL (r := ik .u64 r1) rfl rfl rfl (LOp.extract rfl rfl rfl) ?_
  refine zL (r := x (.iface 103 (.int .i64 2))) rfl rfl rfl (LOp.extract rfl rfl rfl) ?_
  refine zA (r := ik .u64 r1) rfl rfl rfl rfl rfl ?_
  refine zA (r := x (.iface 103 (.int .i64 2))) rfl rfl rfl rfl rfl ?_
  refine zN ?_
  refine RunC.seq ?_
  refine zQ ?_
  refine zM (r := x (.iface 103 (.int .i64 2))) rfl rfl rfl rfl rfl ?_
  refine zL (r := b true) rfl rfl rfl (LOp.neq_if pun71 rfl rfl rfl) ?_
  refine zN ?_
  refine RunC.cond_true rfl rfl ?_
  refine RunC.seq ?_
  obtain ⟨_u4, hf2, h⟩ := obind_some h
  refine RunC.regionW ?_
  refine zM (r := ik .u64 r1) rfl rfl rfl rfl rfl ?_
  refine zM (r := str a0) rfl rfl rfl rfl rfl ?_
  refine zM (r := i64 16) rfl rfl rfl rfl rfl ?_
  refine zM (r := i64 32) rfl rfl rfl rfl rfl ?_
  refine zM (r := x (.iface 103 (.int .i64 2))) rfl rfl rfl rfl rfl ?_
  refine ROps.d (r := nni) (fs := []) (Γ' := []) rfl rfl rfl (TOp.callB (CallAs.func ent64 rfl rfl) (Bors.cons (Bor.pure rfl) (Bors.cons (Bor.pure rfl) (Bors.cons (Bor.pure rfl) (Bors.cons (Bor.pure rfl) (Bors.cons (Bor.pure rfl) Bors.nil))))) rfl rfl (x_strconv_toError_syntax_ok lit_c0869d09 a0 16 32 hf2)) rfl ?_
  refine zA (r := ik .u64 r1) rfl rfl rfl rfl rfl ?_
  refine zA (r := nni) rfl rfl rfl rfl rfl ?_
  refine zN ?_
  refine RunC.ret ?_
  have hq := Option.some.inj h
  have hq := Sum.inl.inj hq
  subst q0
  exact bodyQ.pure (.inr rfl) rfl (Res.two rfl (RV.tmp rfl) (RV.tmp rfl))
 ·replace h := (osum_inr _ _ _).symm.trans h
  rcases z1 with r2 | r3
  ·replace h := (osum_inl _ _ _).symm.trans h
   refine RunC.regionW ?_
   refine zM (r := str a0) rfl rfl rfl rfl rfl ?_
   refine zM (r := i64 16) rfl rfl rfl rfl rfl ?_
   refine zM (r := i64 32) rfl rfl rfl rfl rfl ?_
   refine ROps.d (r := tup [ik .u64 r2, x (.iface 103 (.int .i64 1))]) (fs := []) (Γ' := []) rfl rfl rfl (TOp.callB (CallAs.func ent63 rfl rfl) (Bors.cons (Bor.pure rfl) (Bors.cons (Bor.pure rfl) (Bors.cons (Bor.pure rfl) Bors.nil))) rfl rfl (x_internal_strconv_ParseUint_ok1 a0 r2 hf1)) rfl ?_
   refine zM (r := tup [ik .u64 r2, x (.iface 103 (.int .i64 1))]) rfl rfl rfl rfl rfl ?_
   refine zL (r := ik .u64 r2) rfl rfl rfl (LOp.extract rfl rfl rfl) ?_
   refine zL (r := x (.iface 103 (.int .i64 1))) rfl rfl rfl (LOp.extract rfl rfl rfl) ?_
   refine zA (r := ik .u64 r2) rfl rfl rfl rfl rfl ?_
   refine zA (r := x (.iface 103 (.int .i64 1))) rfl rfl rfl rfl rfl ?_
   refine zN ?_
   refine RunC.seq ?_
   refine zQ ?_
   refine zM (r := x (.iface 103 (.int .i64 1))) rfl rfl rfl rfl rfl ?_
   refine zL (r := b true) rfl rfl rfl (LOp.neq_if pun71 rfl rfl rfl) ?_
   refine zN ?_
   refine RunC.cond_true rfl rfl ?_
   refine RunC.seq ?_
   obtain ⟨_u5, hf3, h⟩ := obind_some h
   refine RunC.regionW ?_
   refine zM (r := ik .u64 r2) rfl rfl rfl rfl rfl ?_
   refine zM (r := str a0) rfl rfl rfl rfl rfl ?_
   refine zM (r := i64 16) rfl rfl rfl rfl rfl ?_
   refine zM (r := i64 32) rfl rfl rfl rfl rfl ?_
   refine zM (r := x (.iface 103 (.int .i64 1))) rfl rfl rfl rfl rfl ?_
   refine ROps.d (r := nni) (fs := []) (Γ' := []) rfl rfl rfl (TOp.callB (CallAs.func ent64 rfl rfl) (Bors.cons (Bor.pure rfl) (Bors.cons (Bor.pure rfl) (Bors.cons (Bor.pure rfl) (Bors.cons (Bor.pure rfl) (Bors.cons (Bor.pure rfl) Bors.nil))))) rfl rfl (x_strconv_toError_range_ok lit_c0869d09 a0 16 32 hf3)) rfl ?_
   refine zA (r := ik .u64 r2) rfl rfl rfl rfl rfl ?_
   refine zA (r := nni) rfl rfl rfl rfl rfl ?_
   refine zN ?_
   refine RunC.ret ?_
   have hq := Option.some.inj h
   have hq := Sum.inl.inj hq
   subst q0
   exact bodyQ.pure (.inr rfl) rfl (Res.two rfl (RV.tmp rfl) (RV.tmp rfl))
  ·replace h := (osum_inr _ _ _).symm.trans h
   refine RunC.regionW ?_
   refine zM (r := str a0) rfl rfl rfl rfl rfl ?_
   refine zM (r := i64 16) rfl rfl rfl rfl rfl ?_
   refine zM (r := i64 32) rfl rfl rfl rfl rfl ?_
   refine ROps.d (r := tup [ik .u64 r3, x .nilIface]) (fs := []) (Γ' := []) rfl rfl rfl (TOp.callB (CallAs.func ent63 rfl rfl) (Bors.cons (Bor.pure rfl) (Bors.cons (Bor.pure rfl) (Bors.cons (Bor.pure rfl) Bors.nil))) rfl rfl (x_internal_strconv_ParseUint_ok2 a0 r3 hf1)) rfl ?_
   refine zM (r := tup [ik .u64 r3, x .nilIface]) rfl rfl rfl rfl rfl ?_
   refine zL (r := ik .u64 r3) rfl rfl rfl (LOp.extract rfl rfl rfl) ?_
   refine zL (r := x .nilIface) rfl rfl rfl (LOp.extract rfl rfl rfl) ?_
   refine zA (r := ik .u64 r3) rfl rfl rfl rfl rfl ?_
   refine zA (r := x .nilIface) rfl rfl rfl rfl rfl ?_
   refine zN ?_
   refine RunC.seq ?_
   refine zQ ?_
   refine zM (r := x .nilIface) rfl rfl rfl rfl rfl ?_
   refine zL (r := b false) rfl rfl rfl (LOp.neq_nil_nil pun71 rfl rfl) ?_
   refine zN ?_
   refine RunC.cond_false rfl rfl ?_
   refine RunC.skip ?_
   refine RunC.wl (τ' := [(8, ik .u64 r3)]) (Γ' := []) ⟨aR, trivial⟩ trivial ?_
   refine zQ ?_
   refine zM (r := ik .u64 r3) rfl rfl rfl rfl rfl ?_
   refine zA (r := ik .u64 r3) rfl rfl rfl rfl rfl ?_
   refine zA (r := x .nilIface) rfl rfl rfl rfl rfl ?_
   refine zN ?_
   cases Option.some.inj h
theorem x_strconv_ParseUint_ok1 (a0 : ByteArray) (q0 : Int) (h : x_strconv_ParseUint a0 = some (Sum.inr q0)) : Ev Tryz.prog 44 [str a0, i64 16, i64 32] [] (tup [ik .u64 q0, x .nilIface]) [] := by
 refine Ev.start Tryz.func44 rfl rfl 0 (τ := [(0, str a0), (1, i64 16), (2, i64 32)]) rfl (Γ' := []) rfl (n := 53) rfl (g := 0) rfl (fun _ => rfl) ?_
 unfold x_strconv_ParseUint at h
 refine zQ ?_
 refine zA (r := ik .u64 0) rfl rfl rfl rfl rfl ?_
 refine zA (r := x .nilIface) rfl rfl rfl rfl rfl ?_
 refine zN ?_
 refine RunC.seq ?_
 obtain ⟨z2, hf1, h⟩ := obind_some h
 rcases z2 with r1 | z2
 ·replace h := (osum_inl _ _ _).symm.trans h
  refine RunC.regionW ?_
  refine zM (r := str a0) rfl rfl rfl rfl rfl ?_
  refine zM (r := i64 16) rfl rfl rfl rfl rfl ?_
  refine zM (r := i64 32) rfl rfl rfl rfl rfl ?_
  refine ROps.d (r := tup [ik .u64 r1, x (.iface 103 (.int .i64 2))]) (fs := []) (Γ' := []) rfl rfl rfl (TOp.callB (CallAs.func ent63 rfl rfl) (Bors.cons (Bor.pure rfl) (Bors.cons (Bor.pure rfl) (Bors.cons (Bor.pure rfl) Bors.nil))) rfl rfl (x_internal_strconv_ParseUint_ok0 a0 r1 hf1)) rfl ?_
  refine zM (r := tup [ik .u64 r1, x (.iface 103 (.int .i64 2))]) rfl rfl rfl rfl rfl ?_
  refine zL (r := ik .u64 r1) rfl rfl rfl (LOp.extract rfl rfl rfl) ?_
  refine zL (r := x (.iface 103 (.int .i64 2))) rfl rfl rfl (LOp.extract rfl rfl rfl) ?_
  refine zA (r := ik .u64 r1) rfl rfl rfl rfl rfl ?_
  refine zA (r := x (.iface 103 (.int .i64 2))) rfl rfl rfl rfl rfl ?_
  refine zN ?_
  refine RunC.seq ?_
  refine zQ ?_
  refine zM (r := x (.iface 103 (.int .i64 2))) rfl rfl rfl rfl rfl ?_
  refine zL (r := b true) rfl rfl rfl (LOp.neq_if pun71 rfl rfl rfl) ?_
  refine zN ?_
  refine RunC.cond_true rfl rfl ?_
  refine RunC.seq ?_
  obtain ⟨_u4, hf2, h⟩ := obind_some h
  refine RunC.regionW ?_
  refine zM (r := ik .u64 r1) rfl rfl rfl rfl rfl ?_
  refine zM (r := str a0) rfl rfl rfl rfl rfl ?_
  refine zM (r := i64 16) rfl rfl rfl rfl rfl ?_
  refine zM (r := i64 32) rfl rfl rfl rfl rfl ?_
  refine zM (r := x (.iface 103 (.int .i64 2))) rfl rfl rfl rfl rfl ?_
  refine ROps.d (r := nni) (fs := []) (Γ' := []) rfl rfl rfl (TOp.callB (CallAs.func ent64 rfl rfl) (Bors.cons (Bor.pure rfl) (Bors.cons (Bor.pure rfl) (Bors.cons (Bor.pure rfl) (Bors.cons (Bor.pure rfl) (Bors.cons (Bor.pure rfl) Bors.nil))))) rfl rfl (x_strconv_toError_syntax_ok lit_c0869d09 a0 16 32 hf2)) rfl ?_
  refine zA (r := ik .u64 r1) rfl rfl rfl rfl rfl ?_
  refine zA (r := nni) rfl rfl rfl rfl rfl ?_
  refine zN ?_
  cases Option.some.inj h
 ·replace h := (osum_inr _ _ _).symm.trans h
  rcases z2 with r2 | r3
  ·replace h := (osum_inl _ _ _).symm.trans h
   refine RunC.regionW ?_
   refine zM (r := str a0) rfl rfl rfl rfl rfl ?_
   refine zM (r := i64 16) rfl rfl rfl rfl rfl ?_
   refine zM (r := i64 32) rfl rfl rfl rfl rfl ?_
   refine ROps.d (r := tup [ik .u64 r2, x (.iface 103 (.int .i64 1))]) (fs := []) (Γ' := []) rfl rfl rfl (TOp.callB (CallAs.func ent63 rfl rfl) (Bors.cons (Bor.pure rfl) (Bors.cons (Bor.pure rfl) (Bors.cons (Bor.pure rfl) Bors.nil))) rfl rfl (x_internal_strconv_ParseUint_ok1 a0 r2 hf1)) rfl ?_
   refine zM (r := tup [ik .u64 r2, x (.iface 103 (.int .i64 1))]) rfl rfl rfl rfl rfl ?_
   refine zL (r := ik .u64 r2) rfl rfl rfl (LOp.extract rfl rfl rfl) ?_
   refine zL (r := x (.iface 103 (.int .i64 1))) rfl rfl rfl (LOp.extract rfl rfl rfl) ?_
   refine zA (r := ik .u64 r2) rfl rfl rfl rfl rfl ?_
   refine zA (r := x (.iface 103 (.int .i64 1))) rfl rfl rfl rfl rfl ?_
   refine zN ?_
   refine RunC.seq ?_
   refine zQ ?_
   refine zM (r := x (.iface 103 (.int .i64 1))) rfl rfl rfl rfl rfl ?_
   refine zL (r := b true) rfl rfl rfl (LOp.neq_if pun71 rfl rfl rfl) ?_
   refine zN ?_
   refine RunC.cond_true rfl rfl ?_
   refine RunC.seq ?_
   obtain ⟨_u5, hf3, h⟩ := obind_some h
   refine RunC.regionW ?_
   refine zM (r := ik .u64 r2) rfl rfl rfl rfl rfl ?_
   refine zM (r := str a0) rfl rfl rfl rfl rfl ?_
   refine zM (r := i64 16) rfl rfl rfl rfl rfl ?_
   refine zM (r := i64 32) rfl rfl rfl rfl rfl ?_
   refine zM (r := x (.iface 103 (.int .i64 1))) rfl rfl rfl rfl rfl ?_
   refine ROps.d (r := nni) (fs := []) (Γ' := []) rfl rfl rfl (TOp.callB (CallAs.func ent64 rfl rfl) (Bors.cons (Bor.pure rfl) (Bors.cons (Bor.pure rfl) (Bors.cons (Bor.pure rfl) (Bors.cons (Bor.pure rfl) (Bors.cons (Bor.pure rfl) Bors.nil))))) rfl rfl (x_strconv_toError_range_ok lit_c0869d09 a0 16 32 hf3)) rfl ?_
   refine zA (r := ik .u64 r2) rfl rfl rfl rfl rfl ?_
   refine zA (r := nni) rfl rfl rfl rfl rfl ?_
   refine zN ?_
   cases Option.some.inj h
  ·replace h := (osum_inr _ _ _).symm.trans h
   refine RunC.regionW ?_
   refine zM (r := str a0) rfl rfl rfl rfl rfl ?_
   refine zM (r := i64 16) rfl rfl rfl rfl rfl ?_
   refine zM (r := i64 32) rfl rfl rfl rfl rfl ?_
   refine ROps.d (r := tup [ik .u64 r3, x .nilIface]) (fs := []) (Γ' := []) rfl rfl rfl (TOp.callB (CallAs.func ent63 rfl rfl) (Bors.cons (Bor.pure rfl) (Bors.cons (Bor.pure rfl) (Bors.cons (Bor.pure rfl) Bors.nil))) rfl rfl (x_internal_strconv_ParseUint_ok2 a0 r3 hf1)) rfl ?_
   refine zM (r := tup [ik .u64 r3, x .nilIface]) rfl rfl rfl rfl rfl ?_
   refine zL (r := ik .u64 r3) rfl rfl rfl (LOp.extract rfl rfl rfl) ?_
   refine zL (r := x .nilIface) rfl rfl rfl (LOp.extract rfl rfl rfl) ?_
   refine zA (r := ik .u64 r3) rfl rfl rfl rfl rfl ?_
   refine zA (r := x .nilIface) rfl rfl rfl rfl rfl ?_
   refine zN ?_
   refine RunC.seq ?_
   refine zQ ?_
   refine zM (r := x .nilIface) rfl rfl rfl rfl rfl ?_
   refine zL (r := b false) rfl rfl rfl (LOp.neq_nil_nil pun71 rfl rfl) ?_
   refine zN ?_
   refine RunC.cond_false rfl rfl ?_
   refine RunC.skip ?_
   refine RunC.wl (τ' := [(8, ik .u64 r3)]) (Γ' := []) ⟨aR, trivial⟩ trivial ?_
   refine zQ ?_
   refine zM (r := ik .u64 r3) rfl rfl rfl rfl rfl ?_
   refine zA (r := ik .u64 r3) rfl rfl rfl rfl rfl ?_
   refine zA (r := x .nilIface) rfl rfl rfl rfl rfl ?_
   refine zN ?_
   refine RunC.ret ?_
   have hq := Option.some.inj h
   have hq := Sum.inr.inj hq
   subst q0
   exact bodyQ.pure (.inr rfl) rfl (Res.two rfl (RV.tmp rfl) (RV.tmp rfl))
noncomputable def i_BitsOf (a0 : F) : Option (Int) :=
 bsel (!feq .f32 a0 a0) (
  some 2143289344) (
  obind (a0) fun (b1 : Nat) =>
  olet (IntKind.i64.wrap (b1 : Int)) fun (x2 : Int) =>
  some x2)
theorem i_BitsOf_ok (a0 : F) (q0 : Int) (h : i_BitsOf a0 = some q0) : Ev Tryz.prog 66 [f32 a0] [] (i64 q0) [] := by
 refine Ev.start Tryz.func66 rfl rfl 0 (τ := [(0, f32 a0)]) rfl (Γ' := []) rfl (n := 19) rfl (g := 0) rfl (fun _ => rfl) ?_
 unfold i_BitsOf at h
 refine zQ ?_
 refine zA (r := i64 0) rfl rfl rfl rfl rfl ?_
 refine zN ?_
 refine RunC.seq ?_
 refine RunC.seq ?_
 rcases bsel_some h with ⟨hc1, h⟩ | ⟨hc1, h⟩
 ·refine RunC.regionW ?_
  refine zM (r := f32 a0) rfl rfl rfl rfl rfl ?_
  refine zM (r := f32 a0) rfl rfl rfl rfl rfl ?_
  refine zL (r := b true) rfl rfl rfl (LOp.eqb (LOp.fne rfl (OpF.tmp rfl) (OpF.tmp rfl)) hc1) ?_
  refine zN ?_
  refine RunC.cond_true rfl rfl ?_
  refine zQ ?_
  refine zA (r := i64 2143289344) rfl rfl rfl rfl rfl ?_
  refine zN ?_
  refine RunC.ret ?_
  have hq := Option.some.inj h
  subst q0
  exact bodyQ.pure (.inr rfl) rfl (Res.one rfl (RV.tmp rfl))
 ·refine RunC.regionW ?_
  refine zM (r := f32 a0) rfl rfl rfl rfl rfl ?_
  refine zM (r := f32 a0) rfl rfl rfl rfl rfl ?_
  refine zL (r := b false) rfl rfl rfl (LOp.eqb (LOp.fne rfl (OpF.tmp rfl) (OpF.tmp rfl)) hc1) ?_
  refine zN ?_
  refine RunC.cond_false rfl rfl ?_
  refine RunC.skip ?_
  refine RunC.seq ?_
  obtain ⟨b1, he2, h⟩ := obind_some h
  obtain ⟨x2, hx3, h⟩ := olet_some h
  refine RunC.regionW ?_
  refine zM (r := f32 a0) rfl rfl rfl rfl rfl ?_
  refine zL (r := ik .u32 (b1 : Int)) rfl rfl rfl (LOp.fbx ext54 rfl (OpF.tmp rfl) he2) ?_
  refine zL (r := i64 x2) rfl rfl rfl (LOp.eqr (LOp.i2i (src := 75) (dst := 2) ⟨_, pun75⟩ pun2 rfl rfl) (congrArg (ik .i64) hx3)) ?_
  refine zA (r := i64 x2) rfl rfl rfl rfl rfl ?_
  refine zN ?_
  refine RunC.ret ?_
  have hq := Option.some.inj h
  subst q0
  exact bodyQ.pure (.inr rfl) rfl (Res.one rfl (RV.tmp rfl))
noncomputable def x_internal_strconv_isPowerOfTwo (a0 : Int) : Option (Bool) :=
 olet (IntKind.i64.wrap (a0 - 1)) fun (x1 : Int) =>
 olet (iand .i64 a0 x1) fun (x2 : Int) =>
 some (decide (x2 = 0))
theorem x_internal_strconv_isPowerOfTwo_ok (a0 : Int) (q0 : Bool) (h : x_internal_strconv_isPowerOfTwo a0 = some q0) : Ev Tryz.prog 115 [i64 a0] [] (b q0) [] := by
 refine Ev.start Tryz.func115 rfl rfl 0 (τ := [(0, i64 a0)]) rfl (Γ' := []) rfl (n := 17) rfl (g := 0) rfl (fun _ => rfl) ?_
 unfold x_internal_strconv_isPowerOfTwo at h
 refine zQ ?_
 refine zA (r := b false) rfl rfl rfl rfl rfl ?_
 refine zN ?_
 refine RunC.seq ?_
 obtain ⟨x1, hx1, h⟩ := olet_some h
 obtain ⟨x2, hx2, h⟩ := olet_some h
 refine RunC.regionW ?_
 refine zM (r := i64 a0) rfl rfl rfl rfl rfl ?_
 refine zM (r := i64 a0) rfl rfl rfl rfl rfl ?_
 refine zL (r := i64 x1) rfl rfl rfl (LOp.eqr (LOp.sub rfl rfl rfl) (congrArg (ik .i64) hx1)) ?_
 refine zL (r := i64 x2) rfl rfl rfl (LOp.eqr (LOp.iand rfl rfl rfl) (congrArg (ik .i64) hx2)) ?_
 refine zL (r := b (decide (x2 = 0))) rfl rfl rfl (LOp.eql rfl rfl rfl) ?_
 refine zA (r := b (decide (x2 = 0))) rfl rfl rfl rfl rfl ?_
 refine zN ?_
 refine RunC.ret ?_
 have hq := Option.some.inj h
 subst q0
 exact bodyQ.pure (.inr rfl) rfl (Res.one rfl (RV.tmp rfl))
noncomputable def x_math_bits_TrailingZeros64 (a0 : Int) : Option (Int) :=
 bsel (decide (a0 = 0)) (
  some 64) (
  olet (IntKind.u64.wrap (0 - a0)) fun (x1 : Int) =>
  olet (iand .u64 a0 x1) fun (x2 : Int) =>
  olet (IntKind.u64.wrap (x2 * 285870213051353865)) fun (x3 : Int) =>
  need (decide (0 ≤ 58)) <|
  olet (ishr .u64 x3 58) fun (x4 : Int) =>
  obind (at? deB64 x4) fun (e5 : Int) =>
  olet (IntKind.i64.wrap e5) fun (x6 : Int) =>
  some x6)
theorem x_math_bits_TrailingZeros64_ok (a0 : Int) (q0 : Int) (h : x_math_bits_TrailingZeros64 a0 = some q0) : Ev Tryz.prog 122 [ik .u64 a0] [] (i64 q0) [] := by
 refine Ev.start Tryz.func122 rfl rfl 0 (τ := [(0, ik .u64 a0)]) rfl (Γ' := []) rfl (n := 29) rfl (g := 0) rfl (fun _ => rfl) ?_
 unfold x_math_bits_TrailingZeros64 at h
 refine zQ ?_
 refine zA (r := i64 0) rfl rfl rfl rfl rfl ?_
 refine zN ?_
 refine RunC.seq ?_
 refine RunC.seq ?_
 rcases bsel_some h with ⟨hc1, h⟩ | ⟨hc1, h⟩
 ·refine RunC.regionW ?_
  refine zM (r := ik .u64 a0) rfl rfl rfl rfl rfl ?_
  refine zL (r := b true) rfl rfl rfl (LOp.eqb (LOp.eql rfl rfl rfl) hc1) ?_
  refine zN ?_
  refine RunC.cond_true rfl rfl ?_
  refine zQ ?_
  refine zA (r := i64 64) rfl rfl rfl rfl rfl ?_
  refine zN ?_
  refine RunC.ret ?_
  have hq := Option.some.inj h
  subst q0
  exact bodyQ.pure (.inr rfl) rfl (Res.one rfl (RV.tmp rfl))
 ·refine RunC.regionW ?_
  refine zM (r := ik .u64 a0) rfl rfl rfl rfl rfl ?_
  refine zL (r := b false) rfl rfl rfl (LOp.eqb (LOp.eql rfl rfl rfl) hc1) ?_
  refine zN ?_
  refine RunC.cond_false rfl rfl ?_
  refine RunC.skip ?_
  refine RunC.seq ?_
  obtain ⟨x1, hx2, h⟩ := olet_some h
  obtain ⟨x2, hx3, h⟩ := olet_some h
  obtain ⟨x3, hx4, h⟩ := olet_some h
  obtain ⟨hz5, h⟩ := need_some h
  obtain ⟨x4, hx6, h⟩ := olet_some h
  obtain ⟨e5, he7, h⟩ := obind_some h
  obtain ⟨x6, hx8, h⟩ := olet_some h
  refine RunC.regionW ?_
  refine zM (r := ik .u64 a0) rfl rfl rfl rfl rfl ?_
  refine zM (r := ik .u64 a0) rfl rfl rfl rfl rfl ?_
  refine zL (r := ik .u64 x1) rfl rfl rfl (LOp.eqr (LOp.neg_int rfl rfl) (congrArg (ik .u64) hx2)) ?_
  refine zL (r := ik .u64 x2) rfl rfl rfl (LOp.eqr (LOp.iand rfl rfl rfl) (congrArg (ik .u64) hx3)) ?_
  refine zL (r := ik .u64 x3) rfl rfl rfl (LOp.eqr (LOp.mul rfl rfl rfl) (congrArg (ik .u64) hx4)) ?_
  refine zL (r := ik .u64 x4) rfl rfl rfl (LOp.eqr (LOp.shr rfl rfl rfl (of_decide_eq_true hz5)) (congrArg (ik .u64) hx6)) ?_
  refine zL (r := ptr [ik .u8 e5]) rfl rfl rfl (LOp.gix (zs := deB64) und155 siz5 rfl rfl (by unfold globs; simp) (by rfl) he7) ?_
  refine zL (r := ik .u8 e5) rfl rfl rfl (LOp.load1 agg5 rfl rfl) ?_
  refine zL (r := i64 x6) rfl rfl rfl (LOp.eqr (LOp.i2i (src := 5) (dst := 3) ⟨_, pun5⟩ pun3 rfl rfl) (congrArg (ik .i64) hx8)) ?_
  refine zA (r := i64 x6) rfl rfl rfl rfl rfl ?_
  refine zN ?_
  refine RunC.ret ?_
  have hq := Option.some.inj h
  subst q0
  exact bodyQ.pure (.inr rfl) rfl (Res.one rfl (RV.tmp rfl))
noncomputable def x_math_bits_TrailingZeros (a0 : Int) : Option (Int) :=
 obind (x_math_bits_TrailingZeros64 a0) fun (r1 : Int) =>
 some r1
theorem x_math_bits_TrailingZeros_ok (a0 : Int) (q0 : Int) (h : x_math_bits_TrailingZeros a0 = some q0) : Ev Tryz.prog 116 [ik .u64 a0] [] (i64 q0) [] := by
 refine Ev.start Tryz.func116 rfl rfl 0 (τ := [(0, ik .u64 a0)]) rfl (Γ' := []) rfl (n := 17) rfl (g := 0) rfl (fun _ => rfl) ?_
 unfold x_math_bits_TrailingZeros at h
 refine zQ ?_
 refine zA (r := i64 0) rfl rfl rfl rfl rfl ?_
 refine zN ?_
 refine RunC.seq ?_
 refine RunC.cond_false rfl rfl ?_
 refine RunC.skip ?_
 refine RunC.seq ?_
 obtain ⟨r1, hf1, h⟩ := obind_some h
 refine RunC.regionW ?_
 refine zM (r := ik .u64 a0) rfl rfl rfl rfl rfl ?_
 refine ROps.d (r := i64 r1) (fs := []) (Γ' := []) rfl rfl rfl (TOp.callB (CallAs.func ent122 rfl rfl) (Bors.cons (Bor.pure rfl) Bors.nil) rfl rfl (x_math_bits_TrailingZeros64_ok a0 r1 hf1)) rfl ?_
 refine zA (r := i64 r1) rfl rfl rfl rfl rfl ?_
 refine zN ?_
 refine RunC.ret ?_
 have hq := Option.some.inj h
 subst q0
 exact bodyQ.pure (.inr rfl) rfl (Res.one rfl (RV.tmp rfl))
noncomputable def x_internal_strconv_formatBits_k5 (a4 : Bool) (L50 : List Int) (v52 : Int) : Option (ByteArray × (List Int)) :=
 bsel a4 (
  need (decide (0 ≤ v52) && decide (v52 < ((65 : Nat) : Int))) <|
  none) (
  need (decide (0 ≤ v52) && decide (v52 < ((65 : Nat) : Int))) <|
  some ((strOfNums (L50.drop v52.toNat)), ([] : List Int)))
noncomputable def x_internal_strconv_formatBits_k4 (a3 : Bool) (a4 : Bool) (L45 : List Int) (v47 : Int) : Option (ByteArray × (List Int)) :=
 bsel a3 (
  olet (IntKind.i64.wrap (v47 - 1)) fun (x48 : Int) =>
  obind (setAt? L45 x48 45) fun (L49 : List Int) =>
  x_internal_strconv_formatBits_k5 a4 L49 x48) (
  x_internal_strconv_formatBits_k5 a4 L45 v47)
noncomputable def x_internal_strconv_formatBits_b2 (x7 : Int) (x8 : Int) (x10 : Int) (L11 : List Int) (v13 : Int) (v14 : Int) : Option (LR ((List Int) × Int × Int) ((List Int) × Int × Int) (ByteArray × (List Int))) :=
 bsel (decide (x8 ≤ v13)) (
  olet (IntKind.i64.wrap (v14 - 1)) fun (x15 : Int) =>
  olet (iand .u64 v13 x10) fun (x16 : Int) =>
  obind (sat? lit_b1892504 x16) fun (e17 : Int) =>
  obind (setAt? L11 x15 e17) fun (L18 : List Int) =>
  need (decide (0 ≤ x7)) <|
  olet (ishr .u64 v13 x7) fun (x19 : Int) =>
  some (LR.next (L18, x19, x15))) (
  some (LR.out (L11, v13, v14)))
noncomputable def x_internal_strconv_formatBits_s2 (x7 : Int) (x8 : Int) (x10 : Int) : ((List Int) × Int × Int) → Option (LR ((List Int) × Int × Int) ((List Int) × Int × Int) (ByteArray × (List Int))) := fun s => x_internal_strconv_formatBits_b2 x7 x8 x10 s.1 s.2.1 s.2.2
noncomputable def x_internal_strconv_formatBits_k2 (a3 : Bool) (a4 : Bool) (L20 : List Int) (v22 : Int) (v23 : Int) : Option (ByteArray × (List Int)) :=
 olet (IntKind.i64.wrap (v23 - 1)) fun (x24 : Int) =>
 obind (sat? lit_b1892504 v22) fun (e25 : Int) =>
 obind (setAt? L20 x24 e25) fun (L26 : List Int) =>
 x_internal_strconv_formatBits_k4 a3 a4 L26 x24
noncomputable def x_internal_strconv_formatBits_b3 (x27 : Int) (L28 : List Int) (v30 : Int) (v31 : Int) : Option (LR ((List Int) × Int × Int) ((List Int) × Int × Int) (ByteArray × (List Int))) :=
 bsel (decide (x27 ≤ v30)) (
  olet (IntKind.i64.wrap (v31 - 1)) fun (x32 : Int) =>
  need (!decide (x27 = 0)) <|
  olet (IntKind.u64.wrap (v30.tdiv x27)) fun (x33 : Int) =>
  olet (IntKind.u64.wrap (x33 * x27)) fun (x34 : Int) =>
  olet (IntKind.u64.wrap (v30 - x34)) fun (x35 : Int) =>
  obind (sat? lit_b1892504 x35) fun (e36 : Int) =>
  obind (setAt? L28 x32 e36) fun (L37 : List Int) =>
  some (LR.next (L37, x33, x32))) (
  some (LR.out (L28, v30, v31)))
noncomputable def x_internal_strconv_formatBits_s3 (x27 : Int) : ((List Int) × Int × Int) → Option (LR ((List Int) × Int × Int) ((List Int) × Int × Int) (ByteArray × (List Int))) := fun s => x_internal_strconv_formatBits_b3 x27 s.1 s.2.1 s.2.2
noncomputable def x_internal_strconv_formatBits_k3 (a3 : Bool) (a4 : Bool) (L38 : List Int) (v40 : Int) (v41 : Int) : Option (ByteArray × (List Int)) :=
 olet (IntKind.i64.wrap (v41 - 1)) fun (x42 : Int) =>
 obind (sat? lit_b1892504 v40) fun (e43 : Int) =>
 obind (setAt? L38 x42 e43) fun (L44 : List Int) =>
 x_internal_strconv_formatBits_k4 a3 a4 L44 x42
noncomputable def x_internal_strconv_formatBits_k1 (a2 : Int) (a3 : Bool) (a4 : Bool) (v2 : Int) : Option (ByteArray × (List Int)) :=
 obind (x_internal_strconv_isPowerOfTwo a2) fun (r4 : Bool) =>
 bsel r4 (
  olet (IntKind.u64.wrap a2) fun (x5 : Int) =>
  obind (x_math_bits_TrailingZeros x5) fun (r6 : Int) =>
  olet (IntKind.u64.wrap r6) fun (x7 : Int) =>
  olet (IntKind.u64.wrap a2) fun (x8 : Int) =>
  olet (IntKind.u64.wrap a2) fun (x9 : Int) =>
  olet (IntKind.u64.wrap (x9 - 1)) fun (x10 : Int) =>
  obind (loopM (x_internal_strconv_formatBits_s2 x7 x8 x10) ((List.replicate 65 (0 : Int)), v2, 65)) fun z => osum z (fun e => x_internal_strconv_formatBits_k2 a3 a4 e.1 e.2.1 e.2.2) (fun r => some r)) (
  olet (IntKind.u64.wrap a2) fun (x27 : Int) =>
  obind (loopM (x_internal_strconv_formatBits_s3 x27) ((List.replicate 65 (0 : Int)), v2, 65)) fun z => osum z (fun e => x_internal_strconv_formatBits_k3 a3 a4 e.1 e.2.1 e.2.2) (fun r => some r))
noncomputable def x_internal_strconv_formatBits (a0 : List Int) (a1 : Int) (a2 : Int) (a3 : Bool) (a4 : Bool) : Option (ByteArray × (List Int)) :=
 bsel (decide (a2 < 2)) (
  none) (
  bsel (decide (a2 = 10)) (
   none) (
   bsel (decide (36 < a2)) (
    none) (
    bsel a3 (
     olet (IntKind.u64.wrap (0 - a1)) fun (x1 : Int) =>
     x_internal_strconv_formatBits_k1 a2 a3 a4 x1) (
     x_internal_strconv_formatBits_k1 a2 a3 a4 a1))))
theorem x_internal_strconv_formatBits_ok (a0 : List Int) (a1 : Int) (a2 : Int) (a3 : Bool) (a4 : Bool) (q0 : ByteArray) (q1 : List Int) (h : x_internal_strconv_formatBits a0 a1 a2 a3 a4 = some (q0, q1)) : Ev Tryz.prog 104 [sl a0.length (a0.map (ik .u8)), ik .u64 a1, i64 a2, b a3, b a4] [] (tup [oref 0 0 0 q1.length, str q0]) [⟨0, some (q1.map (ik .u8))⟩] := by
 refine Ev.start Tryz.func104 rfl rfl 1 (τ := [(0, sl a0.length (a0.map (ik .u8))), (1, ik .u64 a1), (2, i64 a2), (3, b a3), (4, b a4)]) rfl (Γ' := [⟨0, none⟩]) rfl (n := 205) rfl (g := 0) rfl (fun _ => rfl) ?_
 unfold x_internal_strconv_formatBits at h
 refine zQ ?_
 refine zA (r := nilsl) rfl rfl rfl rfl rfl ?_
 refine zA (r := str lit_99ba06bc) rfl rfl rfl rfl rfl ?_
 refine zN ?_
 refine RunC.seq ?_
 refine RunC.seq ?_
 rcases bsel_some h with ⟨hc1, h⟩ | ⟨hc1, h⟩
 ·refine RunC.regionW ?_
  refine zM (r := i64 a2) rfl rfl rfl rfl rfl ?_
  refine zL (r := b true) rfl rfl rfl (LOp.eqb (LOp.lss rfl rfl rfl) hc1) ?_
  refine zM (r := b true) rfl rfl rfl rfl rfl ?_
  refine ROps.s rfl rfl rfl ?_
  refine ROps.s rfl rfl rfl ?_
  refine zL (r := b true) rfl rfl rfl (LOp.pick_true rfl rfl rfl) ?_
  refine zM (r := b true) rfl rfl rfl rfl rfl ?_
  refine ROps.s rfl rfl rfl ?_
  refine ROps.s rfl rfl rfl ?_
  refine zL (r := b true) rfl rfl rfl (LOp.pick_true rfl rfl rfl) ?_
  refine zN ?_
  refine RunC.cond_true rfl rfl ?_
  cases h
 ·rcases bsel_some h with ⟨hc2, h⟩ | ⟨hc2, h⟩
  ·refine RunC.regionW ?_
   refine zM (r := i64 a2) rfl rfl rfl rfl rfl ?_
   refine zL (r := b false) rfl rfl rfl (LOp.eqb (LOp.lss rfl rfl rfl) hc1) ?_
   refine zM (r := b false) rfl rfl rfl rfl rfl ?_
   refine zM (r := i64 a2) rfl rfl rfl rfl rfl ?_
   refine zL (r := b true) rfl rfl rfl (LOp.eqb (LOp.eql rfl rfl rfl) hc2) ?_
   refine zL (r := b true) rfl rfl rfl (LOp.pick_false rfl rfl rfl) ?_
   refine zM (r := b true) rfl rfl rfl rfl rfl ?_
   refine ROps.s rfl rfl rfl ?_
   refine ROps.s rfl rfl rfl ?_
   refine zL (r := b true) rfl rfl rfl (LOp.pick_true rfl rfl rfl) ?_
   refine zN ?_
   refine RunC.cond_true rfl rfl ?_
   cases h
  ·rcases bsel_some h with ⟨hc3, h⟩ | ⟨hc3, h⟩
   ·refine RunC.regionW ?_
    refine zM (r := i64 a2) rfl rfl rfl rfl rfl ?_
    refine zL (r := b false) rfl rfl rfl (LOp.eqb (LOp.lss rfl rfl rfl) hc1) ?_
    refine zM (r := b false) rfl rfl rfl rfl rfl ?_
    refine zM (r := i64 a2) rfl rfl rfl rfl rfl ?_
    refine zL (r := b false) rfl rfl rfl (LOp.eqb (LOp.eql rfl rfl rfl) hc2) ?_
    refine zL (r := b false) rfl rfl rfl (LOp.pick_false rfl rfl rfl) ?_
    refine zM (r := b false) rfl rfl rfl rfl rfl ?_
    refine zM (r := i64 a2) rfl rfl rfl rfl rfl ?_
    refine zL (r := b true) rfl rfl rfl (LOp.eqb (LOp.gtr rfl rfl rfl) hc3) ?_
    refine zL (r := b true) rfl rfl rfl (LOp.pick_false rfl rfl rfl) ?_
    refine zN ?_
    refine RunC.cond_true rfl rfl ?_
    cases h
   ·refine RunC.regionW ?_
    refine zM (r := i64 a2) rfl rfl rfl rfl rfl ?_
    refine zL (r := b false) rfl rfl rfl (LOp.eqb (LOp.lss rfl rfl rfl) hc1) ?_
    refine zM (r := b false) rfl rfl rfl rfl rfl ?_
    refine zM (r := i64 a2) rfl rfl rfl rfl rfl ?_
    refine zL (r := b false) rfl rfl rfl (LOp.eqb (LOp.eql rfl rfl rfl) hc2) ?_
    refine zL (r := b false) rfl rfl rfl (LOp.pick_false rfl rfl rfl) ?_
    refine zM (r := b false) rfl rfl rfl rfl rfl ?_
    refine zM (r := i64 a2) rfl rfl rfl rfl rfl ?_
    refine zL (r := b false) rfl rfl rfl (LOp.eqb (LOp.gtr rfl rfl rfl) hc3) ?_
    refine zL (r := b false) rfl rfl rfl (LOp.pick_false rfl rfl rfl) ?_
    refine zN ?_
    refine RunC.cond_false rfl rfl ?_
    refine RunC.skip ?_
    refine zQ ?_
    refine ROps.d (r := optr 0 1 0) (fs := [(0, ((List.replicate 65 (0 : Int)).map (ik .u8)))]) (Γ' := [⟨1, some ((List.replicate 65 (0 : Int)).map (ik .u8))⟩]) rfl rfl rfl (TOp.alloc_o (l := ((List.replicate 65 (0 : Int)).map (ik .u8))) (g := ⟨0, none⟩) 0 rfl zer145 zok145 rfl) rfl ?_
    refine zN ?_
    refine zQ ?_
    refine zA (r := i64 65) rfl rfl rfl rfl rfl ?_
    refine zN ?_
    refine RunC.seq ?_
    refine RunC.cutN (fun τ Γ => ∃ (v2 : Int), (List.replicate 65 (0 : Int)).length = 65 ∧ WeakLe τ [(0, sl a0.length (a0.map (ik .u8))), (1, ik .u64 v2), (2, i64 a2), (3, b a3), (4, b a4), (10, nilsl), (11, str lit_99ba06bc), (12, optr 0 1 0), (13, i64 65)] ∧ DeadLe Γ [⟨1, some ((List.replicate 65 (0 : Int)).map (ik .u8))⟩] ∧ x_internal_strconv_formatBits_k1 a2 a3 a4 v2 = some (q0, q1)) ?_ ?_
    ·refine RunC.seq ?_
     rcases bsel_some h with ⟨hc4, h⟩ | ⟨hc4, h⟩
     ·refine RunC.regionW ?_
      refine zL (r := b true) rfl rfl rfl (LOp.eqb (LOp.move rfl rfl) hc4) ?_
      refine zN ?_
      refine RunC.cond_true rfl rfl ?_
      obtain ⟨x1, hx5, h⟩ := olet_some h
      refine RunC.regionW ?_
      refine zM (r := ik .u64 a1) rfl rfl rfl rfl rfl ?_
      refine zL (r := ik .u64 x1) rfl rfl rfl (LOp.eqr (LOp.neg_int rfl rfl) (congrArg (ik .u64) hx5)) ?_
      refine zA (r := ik .u64 x1) rfl rfl rfl rfl rfl ?_
      refine zN ?_
      exact ⟨x1, List.length_replicate, ⟨aR, aR, aR, aR, aR, aR, aR, aR, aR, trivial⟩, ⟨⟨rfl, .inr rfl⟩, trivial⟩, h⟩
     ·refine RunC.regionW ?_
      refine zL (r := b false) rfl rfl rfl (LOp.eqb (LOp.move rfl rfl) hc4) ?_
      refine zN ?_
      refine RunC.cond_false rfl rfl ?_
      refine RunC.skip ?_
      exact ⟨a1, List.length_replicate, ⟨aR, aR, aR, aR, aR, aR, aR, aR, aR, trivial⟩, ⟨⟨rfl, .inr rfl⟩, trivial⟩, h⟩
    ·rintro τ6 Γ6 ⟨v2, hl3, hw6, hd6, h⟩
     refine RunC.wl hw6 hd6 ?_
     unfold x_internal_strconv_formatBits_k1 at h
     refine RunC.seq ?_
     refine RunC.cutN (fun τ Γ => ∃ (L45 : List Int) (v47 : Int), L45.length = 65 ∧ WeakLe τ [(0, sl a0.length (a0.map (ik .u8))), (3, b a3), (4, b a4), (10, nilsl), (11, str lit_99ba06bc), (12, optr 0 1 0), (13, i64 v47)] ∧ DeadLe Γ [⟨1, some (L45.map (ik .u8))⟩] ∧ x_internal_strconv_formatBits_k4 a3 a4 L45 v47 = some (q0, q1)) ?_ ?_
     ·refine RunC.seq ?_
      obtain ⟨r4, hf6, h⟩ := obind_some h
      rcases bsel_some h with ⟨hc7, h⟩ | ⟨hc7, h⟩
      ·refine RunC.regionW ?_
       refine zM (r := i64 a2) rfl rfl rfl rfl rfl ?_
       refine ROps.d (r := b true) (fs := []) (Γ' := [⟨1, some ((List.replicate 65 (0 : Int)).map (ik .u8))⟩]) rfl rfl rfl (TOp.eqb (TOp.callB (CallAs.func ent115 rfl rfl) (Bors.cons (Bor.pure rfl) Bors.nil) rfl rfl (x_internal_strconv_isPowerOfTwo_ok a2 r4 hf6)) hc7) rfl ?_
       refine zN ?_
       refine RunC.cond_true rfl rfl ?_
       refine RunC.seq ?_
       obtain ⟨x5, hx8, h⟩ := olet_some h
       obtain ⟨r6, hf9, h⟩ := obind_some h
       obtain ⟨x7, hx10, h⟩ := olet_some h
       refine RunC.regionW ?_
       refine zM (r := i64 a2) rfl rfl rfl rfl rfl ?_
       refine zL (r := ik .u64 x5) rfl rfl rfl (LOp.eqr (LOp.i2i (src := 3) (dst := 87) ⟨_, pun3⟩ pun87 rfl rfl) (congrArg (ik .u64) hx8)) ?_
       refine ROps.d (r := i64 r6) (fs := []) (Γ' := [⟨1, some ((List.replicate 65 (0 : Int)).map (ik .u8))⟩]) rfl rfl rfl (TOp.callB (CallAs.func ent116 rfl rfl) (Bors.cons (Bor.pure rfl) Bors.nil) rfl rfl (x_math_bits_TrailingZeros_ok x5 r6 hf9)) rfl ?_
       refine zL (r := ik .u64 x7) rfl rfl rfl (LOp.eqr (LOp.i2i (src := 3) (dst := 87) ⟨_, pun3⟩ pun87 rfl rfl) (congrArg (ik .u64) hx10)) ?_
       refine zA (r := ik .u64 x7) rfl rfl rfl rfl rfl ?_
       refine zN ?_
       refine RunC.seq ?_
       obtain ⟨x8, hx11, h⟩ := olet_some h
       refine RunC.regionW ?_
       refine zM (r := i64 a2) rfl rfl rfl rfl rfl ?_
       refine zL (r := ik .u64 x8) rfl rfl rfl (LOp.eqr (LOp.i2i (src := 3) (dst := 69) ⟨_, pun3⟩ pun69 rfl rfl) (congrArg (ik .u64) hx11)) ?_
       refine zA (r := ik .u64 x8) rfl rfl rfl rfl rfl ?_
       refine zN ?_
       refine RunC.seq ?_
       obtain ⟨x9, hx12, h⟩ := olet_some h
       obtain ⟨x10, hx13, h⟩ := olet_some h
       refine RunC.regionW ?_
       refine zM (r := i64 a2) rfl rfl rfl rfl rfl ?_
       refine zL (r := ik .u64 x9) rfl rfl rfl (LOp.eqr (LOp.i2i (src := 3) (dst := 87) ⟨_, pun3⟩ pun87 rfl rfl) (congrArg (ik .u64) hx12)) ?_
       refine zL (r := ik .u64 x10) rfl rfl rfl (LOp.eqr (LOp.sub rfl rfl rfl) (congrArg (ik .u64) hx13)) ?_
       refine zA (r := ik .u64 x10) rfl rfl rfl rfl rfl ?_
       refine zN ?_
       refine RunC.seq ?_
       obtain ⟨z7, hz_7, h⟩ := obind_some h
       refine RunC.cutN (fun τ Γ => ∃ (L20 : List Int) (v22 : Int) (v23 : Int), L20.length = 65 ∧ WeakLe τ [(0, sl a0.length (a0.map (ik .u8))), (1, ik .u64 v22), (3, b a3), (4, b a4), (10, nilsl), (11, str lit_99ba06bc), (12, optr 0 1 0), (13, i64 v23)] ∧ DeadLe Γ [⟨1, some (L20.map (ik .u8))⟩] ∧ z7 = .inl (L20, v22, v23)) ?_ ?_
       ·refine RunC.block (RunC.loop (RunL.loopM (x := z7) (x_internal_strconv_formatBits_s2 x7 x8 x10) (fun (s : (List Int) × Int × Int) τ Γ => s.1.length = 65 ∧ WeakLe τ [(0, sl a0.length (a0.map (ik .u8))), (1, ik .u64 s.2.1), (3, b a3), (4, b a4), (10, nilsl), (11, str lit_99ba06bc), (12, optr 0 1 0), (13, i64 s.2.2), (14, ik .u64 x7), (15, ik .u64 x8), (16, ik .u64 x10)] ∧ DeadLe Γ [⟨1, some (s.1.map (ik .u8))⟩]) ?_ _ _ _ hz_7 ⟨hl3, ⟨aR, aR, aR, aR, aR, aR, aR, aR, aR, aR, aR, trivial⟩, ⟨⟨rfl, .inr rfl⟩, trivial⟩⟩))
        rintro ⟨L11, v13, v14⟩ τ7 Γ7 y7_ ⟨hl12, hw7, hd7⟩ h7_ ho7 hr7
        refine RunC.wl (τ' := [(0, sl a0.length (a0.map (ik .u8))), (1, ik .u64 v13), (3, b a3), (4, b a4), (10, nilsl), (11, str lit_99ba06bc), (12, optr 0 1 0), (13, i64 v14), (14, ik .u64 x7), (15, ik .u64 x8), (16, ik .u64 x10)]) (Γ' := [⟨1, some (L11.map (ik .u8))⟩]) hw7 hd7 ?_
        replace hl12 : L11.length = 65 := hl12
        replace h7_ : x_internal_strconv_formatBits_b2 x7 x8 x10 L11 v13 v14 = some y7_ := h7_
        unfold x_internal_strconv_formatBits_b2 at h7_
        refine RunC.seq ?_
        refine RunC.seq ?_
        rcases bsel_some h7_ with ⟨hc14, h7_⟩ | ⟨hc14, h7_⟩
        ·refine RunC.regionW ?_
         refine zM (r := ik .u64 v13) rfl rfl rfl rfl rfl ?_
         refine zM (r := ik .u64 x8) rfl rfl rfl rfl rfl ?_
         refine zL (r := b true) rfl rfl rfl (LOp.eqb (LOp.geq rfl rfl rfl) hc14) ?_
         refine zN ?_
         refine RunC.cond_true rfl rfl ?_
         refine RunC.skip ?_
         refine RunC.block ?_
         refine RunC.seq ?_
         obtain ⟨x15, hx15, h7_⟩ := olet_some h7_
         refine RunC.regionW ?_
         refine zM (r := i64 v14) rfl rfl rfl rfl rfl ?_
         refine zL (r := i64 x15) rfl rfl rfl (LOp.eqr (LOp.sub rfl rfl rfl) (congrArg (ik .i64) hx15)) ?_
         refine zA (r := i64 x15) rfl rfl rfl rfl rfl ?_
         refine zN ?_
         refine RunC.seq ?_
         obtain ⟨x16, hx16, h7_⟩ := olet_some h7_
         obtain ⟨e17, he17, h7_⟩ := obind_some h7_
         obtain ⟨L18, he18, h7_⟩ := obind_some h7_
         refine RunC.regionW ?_
         refine zM (r := i64 x15) rfl rfl rfl rfl rfl ?_
         refine zM (r := ik .u64 v13) rfl rfl rfl rfl rfl ?_
         refine zM (r := ik .u64 x10) rfl rfl rfl rfl rfl ?_
         refine zL (r := ik .u64 x16) rfl rfl rfl (LOp.eqr (LOp.iand rfl rfl rfl) (congrArg (ik .u64) hx16)) ?_
         refine zL (r := ik .u8 e17) rfl rfl rfl (LOp.index_str und9 rfl rfl rfl he17) ?_
         refine ROps.d (r := optr 0 1 x15.toNat) (fs := []) (Γ' := [⟨1, some (L11.map (ik .u8))⟩]) rfl rfl rfl (TOp.ixa und145 siz5 rfl rfl rfl (set_in he18 hl12) rfl) rfl ?_
         refine ROps.st (f := (ik .u8)) (i := x15) (Γ' := [⟨1, some (L18.map (ik .u8))⟩]) rfl siz5 rfl rfl rfl aR rfl rfl rfl he18 rfl ?_
         refine zN ?_
         obtain ⟨hz19, h7_⟩ := need_some h7_
         obtain ⟨x19, hx20, h7_⟩ := olet_some h7_
         refine RunC.regionW ?_
         refine zM (r := ik .u64 v13) rfl rfl rfl rfl rfl ?_
         refine zM (r := ik .u64 x7) rfl rfl rfl rfl rfl ?_
         refine zL (r := ik .u64 x19) rfl rfl rfl (LOp.eqr (LOp.shr rfl rfl rfl (of_decide_eq_true hz19)) (congrArg (ik .u64) hx20)) ?_
         refine zA (r := ik .u64 x19) rfl rfl rfl rfl rfl ?_
         refine zN ?_
         cases Option.some.inj h7_
         exact ⟨_, rfl, ((setAt?_len he18).trans hl12), ⟨aR, aR, aR, aR, aR, aR, aR, aR, aR, aR, aR, trivial⟩, ⟨⟨rfl, .inr rfl⟩, trivial⟩⟩
        ·refine RunC.regionW ?_
         refine zM (r := ik .u64 v13) rfl rfl rfl rfl rfl ?_
         refine zM (r := ik .u64 x8) rfl rfl rfl rfl rfl ?_
         refine zL (r := b false) rfl rfl rfl (LOp.eqb (LOp.geq rfl rfl rfl) hc14) ?_
         refine zN ?_
         refine RunC.cond_false rfl rfl ?_
         refine RunC.exit ?_
         cases Option.some.inj h7_
         have hx := ho7 _ rfl
         exact ⟨L11, v13, v14, hl12, ⟨aR, aR, aR, aR, aR, aR, aR, aR, trivial⟩, ⟨⟨rfl, .inr rfl⟩, trivial⟩, hx⟩
       ·rintro τ8 Γ8 ⟨L20, v22, v23, hl21, hw8, hd8, rfl⟩
        refine RunC.wl hw8 hd8 ?_
        replace h : x_internal_strconv_formatBits_k2 a3 a4 L20 v22 v23 = some (q0, q1) := h
        unfold x_internal_strconv_formatBits_k2 at h
        refine RunC.seq ?_
        obtain ⟨x24, hx21, h⟩ := olet_some h
        refine RunC.regionW ?_
        refine zM (r := i64 v23) rfl rfl rfl rfl rfl ?_
        refine zL (r := i64 x24) rfl rfl rfl (LOp.eqr (LOp.sub rfl rfl rfl) (congrArg (ik .i64) hx21)) ?_
        refine zA (r := i64 x24) rfl rfl rfl rfl rfl ?_
        refine zN ?_
        obtain ⟨e25, he22, h⟩ := obind_some h
        obtain ⟨L26, he23, h⟩ := obind_some h
        refine RunC.regionW ?_
        refine zM (r := i64 x24) rfl rfl rfl rfl rfl ?_
        refine zM (r := ik .u64 v22) rfl rfl rfl rfl rfl ?_
        refine zL (r := ik .u8 e25) rfl rfl rfl (LOp.index_str und9 rfl rfl rfl he22) ?_
        refine ROps.d (r := optr 0 1 x24.toNat) (fs := []) (Γ' := [⟨1, some (L20.map (ik .u8))⟩]) rfl rfl rfl (TOp.ixa und145 siz5 rfl rfl rfl (set_in he23 hl21) rfl) rfl ?_
        refine ROps.st (f := (ik .u8)) (i := x24) (Γ' := [⟨1, some (L26.map (ik .u8))⟩]) rfl siz5 rfl rfl rfl aR rfl rfl rfl he23 rfl ?_
        refine zN ?_
        exact ⟨L26, x24, ((setAt?_len he23).trans hl21), ⟨aR, aR, aR, aR, aR, aR, aR, trivial⟩, ⟨⟨rfl, .inr rfl⟩, trivial⟩, h⟩
      ·refine RunC.regionW ?_
       refine zM (r := i64 a2) rfl rfl rfl rfl rfl ?_
       refine ROps.d (r := b false) (fs := []) (Γ' := [⟨1, some ((List.replicate 65 (0 : Int)).map (ik .u8))⟩]) rfl rfl rfl (TOp.eqb (TOp.callB (CallAs.func ent115 rfl rfl) (Bors.cons (Bor.pure rfl) Bors.nil) rfl rfl (x_internal_strconv_isPowerOfTwo_ok a2 r4 hf6)) hc7) rfl ?_
       refine zN ?_
       refine RunC.cond_false rfl rfl ?_
       refine RunC.seq ?_
       obtain ⟨x27, hx24, h⟩ := olet_some h
       refine RunC.regionW ?_
       refine zM (r := i64 a2) rfl rfl rfl rfl rfl ?_
       refine zL (r := ik .u64 x27) rfl rfl rfl (LOp.eqr (LOp.i2i (src := 3) (dst := 69) ⟨_, pun3⟩ pun69 rfl rfl) (congrArg (ik .u64) hx24)) ?_
       refine zA (r := ik .u64 x27) rfl rfl rfl rfl rfl ?_
       refine zN ?_
       refine RunC.seq ?_
       obtain ⟨z9, hz_9, h⟩ := obind_some h
       refine RunC.cutN (fun τ Γ => ∃ (L38 : List Int) (v40 : Int) (v41 : Int), L38.length = 65 ∧ WeakLe τ [(0, sl a0.length (a0.map (ik .u8))), (1, ik .u64 v40), (3, b a3), (4, b a4), (10, nilsl), (11, str lit_99ba06bc), (12, optr 0 1 0), (13, i64 v41)] ∧ DeadLe Γ [⟨1, some (L38.map (ik .u8))⟩] ∧ z9 = .inl (L38, v40, v41)) ?_ ?_
       ·refine RunC.block (RunC.loop (RunL.loopM (x := z9) (x_internal_strconv_formatBits_s3 x27) (fun (s : (List Int) × Int × Int) τ Γ => s.1.length = 65 ∧ WeakLe τ [(0, sl a0.length (a0.map (ik .u8))), (1, ik .u64 s.2.1), (3, b a3), (4, b a4), (10, nilsl), (11, str lit_99ba06bc), (12, optr 0 1 0), (13, i64 s.2.2), (17, ik .u64 x27)] ∧ DeadLe Γ [⟨1, some (s.1.map (ik .u8))⟩]) ?_ _ _ _ hz_9 ⟨hl3, ⟨aR, aR, aR, aR, aR, aR, aR, aR, aR, trivial⟩, ⟨⟨rfl, .inr rfl⟩, trivial⟩⟩))
        rintro ⟨L28, v30, v31⟩ τ9 Γ9 y9_ ⟨hl29, hw9, hd9⟩ h9_ ho9 hr9
        refine RunC.wl (τ' := [(0, sl a0.length (a0.map (ik .u8))), (1, ik .u64 v30), (3, b a3), (4, b a4), (10, nilsl), (11, str lit_99ba06bc), (12, optr 0 1 0), (13, i64 v31), (17, ik .u64 x27)]) (Γ' := [⟨1, some (L28.map (ik .u8))⟩]) hw9 hd9 ?_
        replace hl29 : L28.length = 65 := hl29
        replace h9_ : x_internal_strconv_formatBits_b3 x27 L28 v30 v31 = some y9_ := h9_
        unfold x_internal_strconv_formatBits_b3 at h9_
        refine RunC.seq ?_
        refine RunC.seq ?_
        rcases bsel_some h9_ with ⟨hc25, h9_⟩ | ⟨hc25, h9_⟩
        ·refine RunC.regionW ?_
         refine zM (r := ik .u64 v30) rfl rfl rfl rfl rfl ?_
         refine zM (r := ik .u64 x27) rfl rfl rfl rfl rfl ?_
         refine zL (r := b true) rfl rfl rfl (LOp.eqb (LOp.geq rfl rfl rfl) hc25) ?_
         refine zN ?_
         refine RunC.cond_true rfl rfl ?_
         refine RunC.skip ?_
         refine RunC.block ?_
         refine RunC.seq ?_
         obtain ⟨x32, hx26, h9_⟩ := olet_some h9_
         refine RunC.regionW ?_
         refine zM (r := i64 v31) rfl rfl rfl rfl rfl ?_
         refine zL (r := i64 x32) rfl rfl rfl (LOp.eqr (LOp.sub rfl rfl rfl) (congrArg (ik .i64) hx26)) ?_
         refine zA (r := i64 x32) rfl rfl rfl rfl rfl ?_
         refine zN ?_
         refine RunC.seq ?_
         obtain ⟨hz27, h9_⟩ := need_some h9_
         obtain ⟨x33, hx28, h9_⟩ := olet_some h9_
         refine RunC.regionW ?_
         refine zM (r := ik .u64 v30) rfl rfl rfl rfl rfl ?_
         refine zM (r := ik .u64 x27) rfl rfl rfl rfl rfl ?_
         refine zL (r := ik .u64 x33) rfl rfl rfl (LOp.eqr (LOp.quo rfl rfl rfl (nz hz27)) (congrArg (ik .u64) hx28)) ?_
         refine zA (r := ik .u64 x33) rfl rfl rfl rfl rfl ?_
         refine zN ?_
         refine RunC.seq ?_
         obtain ⟨x34, hx29, h9_⟩ := olet_some h9_
         obtain ⟨x35, hx30, h9_⟩ := olet_some h9_
         obtain ⟨e36, he31, h9_⟩ := obind_some h9_
         obtain ⟨L37, he32, h9_⟩ := obind_some h9_
         refine RunC.regionW ?_
         refine zM (r := i64 x32) rfl rfl rfl rfl rfl ?_
         refine zM (r := ik .u64 v30) rfl rfl rfl rfl rfl ?_
         refine zM (r := ik .u64 x33) rfl rfl rfl rfl rfl ?_
         refine zM (r := ik .u64 x27) rfl rfl rfl rfl rfl ?_
         refine zL (r := ik .u64 x34) rfl rfl rfl (LOp.eqr (LOp.mul rfl rfl rfl) (congrArg (ik .u64) hx29)) ?_
         refine zL (r := ik .u64 x35) rfl rfl rfl (LOp.eqr (LOp.sub rfl rfl rfl) (congrArg (ik .u64) hx30)) ?_
         refine zL (r := ik .u8 e36) rfl rfl rfl (LOp.index_str und9 rfl rfl rfl he31) ?_
         refine ROps.d (r := optr 0 1 x32.toNat) (fs := []) (Γ' := [⟨1, some (L28.map (ik .u8))⟩]) rfl rfl rfl (TOp.ixa und145 siz5 rfl rfl rfl (set_in he32 hl29) rfl) rfl ?_
         refine ROps.st (f := (ik .u8)) (i := x32) (Γ' := [⟨1, some (L37.map (ik .u8))⟩]) rfl siz5 rfl rfl rfl aR rfl rfl rfl he32 rfl ?_
         refine zN ?_
         refine RunC.wl (τ' := [(0, sl a0.length (a0.map (ik .u8))), (3, b a3), (4, b a4), (10, nilsl), (11, str lit_99ba06bc), (12, optr 0 1 0), (13, i64 x32), (17, ik .u64 x27), (18, ik .u64 x33)]) (Γ' := [⟨1, some (L37.map (ik .u8))⟩]) ⟨aR, aR, aR, aR, aR, aR, aR, aR, aR, trivial⟩ ⟨⟨rfl, .inr rfl⟩, trivial⟩ ?_
         refine RunC.regionW ?_
         refine zM (r := ik .u64 x33) rfl rfl rfl rfl rfl ?_
         refine zA (r := ik .u64 x33) rfl rfl rfl rfl rfl ?_
         refine zN ?_
         cases Option.some.inj h9_
         exact ⟨_, rfl, ((setAt?_len he32).trans hl29), ⟨aR, aR, aR, aR, aR, aR, aR, aR, aR, trivial⟩, ⟨⟨rfl, .inr rfl⟩, trivial⟩⟩
        ·refine RunC.regionW ?_
         refine zM (r := ik .u64 v30) rfl rfl rfl rfl rfl ?_
         refine zM (r := ik .u64 x27) rfl rfl rfl rfl rfl ?_
         refine zL (r := b false) rfl rfl rfl (LOp.eqb (LOp.geq rfl rfl rfl) hc25) ?_
         refine zN ?_
         refine RunC.cond_false rfl rfl ?_
         refine RunC.exit ?_
         cases Option.some.inj h9_
         have hx := ho9 _ rfl
         exact ⟨L28, v30, v31, hl29, ⟨aR, aR, aR, aR, aR, aR, aR, aR, trivial⟩, ⟨⟨rfl, .inr rfl⟩, trivial⟩, hx⟩
       ·rintro τ10 Γ10 ⟨L38, v40, v41, hl39, hw10, hd10, rfl⟩
        refine RunC.wl hw10 hd10 ?_
        replace h : x_internal_strconv_formatBits_k3 a3 a4 L38 v40 v41 = some (q0, q1) := h
        unfold x_internal_strconv_formatBits_k3 at h
        refine RunC.seq ?_
        obtain ⟨x42, hx33, h⟩ := olet_some h
        refine RunC.regionW ?_
        refine zM (r := i64 v41) rfl rfl rfl rfl rfl ?_
        refine zL (r := i64 x42) rfl rfl rfl (LOp.eqr (LOp.sub rfl rfl rfl) (congrArg (ik .i64) hx33)) ?_
        refine zA (r := i64 x42) rfl rfl rfl rfl rfl ?_
        refine zN ?_
        obtain ⟨e43, he34, h⟩ := obind_some h
        obtain ⟨L44, he35, h⟩ := obind_some h
        refine RunC.regionW ?_
        refine zM (r := i64 x42) rfl rfl rfl rfl rfl ?_
        refine zM (r := ik .u64 v40) rfl rfl rfl rfl rfl ?_
        refine zL (r := ik .u8 e43) rfl rfl rfl (LOp.index_str und9 rfl rfl rfl he34) ?_
        refine ROps.d (r := optr 0 1 x42.toNat) (fs := []) (Γ' := [⟨1, some (L38.map (ik .u8))⟩]) rfl rfl rfl (TOp.ixa und145 siz5 rfl rfl rfl (set_in he35 hl39) rfl) rfl ?_
        refine ROps.st (f := (ik .u8)) (i := x42) (Γ' := [⟨1, some (L44.map (ik .u8))⟩]) rfl siz5 rfl rfl rfl aR rfl rfl rfl he35 rfl ?_
        refine zN ?_
        exact ⟨L44, x42, ((setAt?_len he35).trans hl39), ⟨aR, aR, aR, aR, aR, aR, aR, trivial⟩, ⟨⟨rfl, .inr rfl⟩, trivial⟩, h⟩
     ·rintro τ11 Γ11 ⟨L45, v47, hl46, hw11, hd11, h⟩
      refine RunC.wl hw11 hd11 ?_
      unfold x_internal_strconv_formatBits_k4 at h
      refine RunC.seq ?_
      refine RunC.cutN (fun τ Γ => ∃ (L50 : List Int) (v52 : Int), L50.length = 65 ∧ WeakLe τ [(0, sl a0.length (a0.map (ik .u8))), (4, b a4), (10, nilsl), (11, str lit_99ba06bc), (12, optr 0 1 0), (13, i64 v52)] ∧ DeadLe Γ [⟨1, some (L50.map (ik .u8))⟩] ∧ x_internal_strconv_formatBits_k5 a4 L50 v52 = some (q0, q1)) ?_ ?_
      ·refine RunC.seq ?_
       rcases bsel_some h with ⟨hc36, h⟩ | ⟨hc36, h⟩
       ·refine RunC.regionW ?_
        refine zL (r := b true) rfl rfl rfl (LOp.eqb (LOp.move rfl rfl) hc36) ?_
        refine zN ?_
        refine RunC.cond_true rfl rfl ?_
        refine RunC.seq ?_
        obtain ⟨x48, hx37, h⟩ := olet_some h
        refine RunC.regionW ?_
        refine zM (r := i64 v47) rfl rfl rfl rfl rfl ?_
        refine zL (r := i64 x48) rfl rfl rfl (LOp.eqr (LOp.sub rfl rfl rfl) (congrArg (ik .i64) hx37)) ?_
        refine zA (r := i64 x48) rfl rfl rfl rfl rfl ?_
        refine zN ?_
        obtain ⟨L49, he38, h⟩ := obind_some h
        refine RunC.regionW ?_
        refine zM (r := i64 x48) rfl rfl rfl rfl rfl ?_
        refine ROps.d (r := optr 0 1 x48.toNat) (fs := []) (Γ' := [⟨1, some (L45.map (ik .u8))⟩]) rfl rfl rfl (TOp.ixa und145 siz5 rfl rfl rfl (set_in he38 hl46) rfl) rfl ?_
        refine ROps.st (f := (ik .u8)) (i := x48) (Γ' := [⟨1, some (L49.map (ik .u8))⟩]) rfl siz5 rfl rfl rfl aR rfl rfl rfl he38 rfl ?_
        refine zN ?_
        exact ⟨L49, x48, ((setAt?_len he38).trans hl46), ⟨aR, aR, aR, aR, aR, aR, trivial⟩, ⟨⟨rfl, .inr rfl⟩, trivial⟩, h⟩
       ·refine RunC.regionW ?_
        refine zL (r := b false) rfl rfl rfl (LOp.eqb (LOp.move rfl rfl) hc36) ?_
        refine zN ?_
        refine RunC.cond_false rfl rfl ?_
        refine RunC.skip ?_
        exact ⟨L45, v47, hl46, ⟨aR, aR, aR, aR, aR, aR, trivial⟩, ⟨⟨rfl, .inr rfl⟩, trivial⟩, h⟩
      ·rintro τ12 Γ12 ⟨L50, v52, hl51, hw12, hd12, h⟩
       refine RunC.wl hw12 hd12 ?_
       unfold x_internal_strconv_formatBits_k5 at h
       refine RunC.seq ?_
       refine RunC.seq ?_
       rcases bsel_some h with ⟨hc39, h⟩ | ⟨hc39, h⟩
       ·refine RunC.regionW ?_
        refine zL (r := b true) rfl rfl rfl (LOp.eqb (LOp.move rfl rfl) hc39) ?_
        refine zN ?_
        refine RunC.cond_true rfl rfl ?_
        refine RunC.seq ?_
        refine RunC.le (Le.settle 0 [(0, sl a0.length (a0.map (ik .u8))), (4, b a4), (10, nilsl), (11, str lit_99ba06bc), (12, ptr (L50.map (ik .u8))), (13, i64 v52), (94, b true)] rfl rfl rfl ⟨.inl rfl, .inl rfl, .inl rfl, .inl rfl, .inr (Bor.arr (f := (ik .u8)) (fun _ => rfl) rfl), .inl rfl, .inl rfl, trivial⟩) ?_
        obtain ⟨hp40, h⟩ := need_some h
        cases h
       ·refine RunC.regionW ?_
        refine zL (r := b false) rfl rfl rfl (LOp.eqb (LOp.move rfl rfl) hc39) ?_
        refine zN ?_
        refine RunC.cond_false rfl rfl ?_
        refine RunC.skip ?_
        refine RunC.seq ?_
        refine RunC.le (Le.settle 0 [(0, sl a0.length (a0.map (ik .u8))), (4, b a4), (10, nilsl), (11, str lit_99ba06bc), (12, ptr (L50.map (ik .u8))), (13, i64 v52), (94, b false)] rfl rfl rfl ⟨.inl rfl, .inl rfl, .inl rfl, .inl rfl, .inr (Bor.arr (f := (ik .u8)) (fun _ => rfl) rfl), .inl rfl, .inl rfl, trivial⟩) ?_
        obtain ⟨hp41, h⟩ := need_some h
        refine RunC.regionW ?_
        refine zM (r := i64 v52) rfl rfl rfl rfl rfl ?_
        refine zL (r := sl (L50.drop v52.toNat).length ((L50.drop v52.toNat).map (ik .u8))) rfl rfl rfl (LOp.sla (f := (ik .u8)) und145 siz5 rfl rfl rfl hl51 (par_in hp41)) ?_
        refine ROps.d (r := str (strOfNums (L50.drop v52.toNat))) (fs := []) (Γ' := [⟨1, none⟩]) rfl rfl rfl (TOp.b2s (xs := (L50.drop v52.toNat)) pun105 pun5 pun9 rfl (fun _ _ => ReadAs.sl (by simp))) rfl ?_
        refine zA (r := str (strOfNums (L50.drop v52.toNat))) rfl rfl rfl rfl rfl ?_
        refine zN ?_
        refine RunC.nil_slot (Γ' := [⟨2, some (([] : List Int).map (ik .u8))⟩]) 10 0 rfl rfl rfl ?_
        refine RunC.ret ?_
        have hq := Option.some.inj h
        obtain ⟨hq0, hq⟩ := Prod.mk.inj hq
        subst q0
        subst q1
        exact bodyQ.mk (r' := tup [oref 0 2 0 (([] : List Int).length), str (strOfNums (L50.drop v52.toNat))]) [(0, 2)] (.inr rfl) rfl (show List.Nodup [0] from by decide) rfl rfl (Res.eq (Res.two rfl (RV.tmp rfl) (RV.tmp rfl)) (by rw [(show ([] : List Int).length = 0 from rfl)] <;> rfl)) (SelL.arr0 (f := (ik .u8)) (fun _ => rfl) rfl trivial)
noncomputable def x_internal_strconv_FormatInt_k2 (v3 : Int) : Option (ByteArray) :=
 none
noncomputable def x_internal_strconv_FormatInt_k1 (a0 : Int) : Option (ByteArray) :=
 olet (IntKind.u64.wrap a0) fun (x1 : Int) =>
 bsel (decide (a0 < 0)) (
  olet (IntKind.u64.wrap (0 - x1)) fun (x2 : Int) =>
  x_internal_strconv_FormatInt_k2 x2) (
  x_internal_strconv_FormatInt_k2 x1)
noncomputable def x_internal_strconv_FormatInt (a0 : Int) (a1 : Int) : Option (ByteArray) :=
 bsel (decide (a1 = 10)) (
  bsel (decide (0 ≤ a0)) (
   bsel (decide (a0 < 100)) (
    none) (
    x_internal_strconv_FormatInt_k1 a0)) (
   x_internal_strconv_FormatInt_k1 a0)) (
  olet (IntKind.u64.wrap a0) fun (x5 : Int) =>
  obind2 (x_internal_strconv_formatBits ([] : List Int) x5 a1 (decide (a0 < 0)) false) fun (r6 : ByteArray) (r7 : List Int) =>
  some r6)
theorem x_internal_strconv_FormatInt_ok (a0 : Int) (a1 : Int) (q0 : ByteArray) (h : x_internal_strconv_FormatInt a0 a1 = some q0) : Ev Tryz.prog 85 [i64 a0, i64 a1] [] (str q0) [] := by
 refine Ev.start Tryz.func85 rfl rfl 1 (τ := [(0, i64 a0), (1, i64 a1)]) rfl (Γ' := [⟨0, none⟩]) rfl (n := 109) rfl (g := 0) rfl (fun _ => rfl) ?_
 unfold x_internal_strconv_FormatInt at h
 refine zQ ?_
 refine zA (r := str lit_99ba06bc) rfl rfl rfl rfl rfl ?_
 refine zN ?_
 refine RunC.seq ?_
 refine RunC.seq ?_
 rcases bsel_some h with ⟨hc1, h⟩ | ⟨hc1, h⟩
 ·refine RunC.regionW ?_
  refine zM (r := i64 a1) rfl rfl rfl rfl rfl ?_
  refine zL (r := b true) rfl rfl rfl (LOp.eqb (LOp.eql rfl rfl rfl) hc1) ?_
  refine zN ?_
  refine RunC.cond_true rfl rfl ?_
  refine RunC.seq ?_
  refine RunC.cutN (fun τ Γ =>  WeakLe τ [(0, i64 a0)] ∧ DeadLe Γ [⟨0, none⟩] ∧ x_internal_strconv_FormatInt_k1 a0 = some q0) ?_ ?_
  ·refine RunC.seq ?_
   rcases bsel_some h with ⟨hc2, h⟩ | ⟨hc2, h⟩
   ·rcases bsel_some h with ⟨hc3, h⟩ | ⟨hc3, h⟩
    ·refine RunC.regionW ?_
     refine zM (r := i64 a0) rfl rfl rfl rfl rfl ?_
     refine zL (r := b true) rfl rfl rfl (LOp.eqb (LOp.leq rfl rfl rfl) hc2) ?_
     refine zM (r := b true) rfl rfl rfl rfl rfl ?_
     refine zM (r := i64 a0) rfl rfl rfl rfl rfl ?_
     refine zL (r := b true) rfl rfl rfl (LOp.eqb (LOp.lss rfl rfl rfl) hc3) ?_
     refine zL (r := b true) rfl rfl rfl (LOp.pick_true rfl rfl rfl) ?_
     refine zN ?_
     refine RunC.cond_true rfl rfl ?_
     refine RunC.seq ?_
     cases h
    ·refine RunC.regionW ?_
     refine zM (r := i64 a0) rfl rfl rfl rfl rfl ?_
     refine zL (r := b true) rfl rfl rfl (LOp.eqb (LOp.leq rfl rfl rfl) hc2) ?_
     refine zM (r := b true) rfl rfl rfl rfl rfl ?_
     refine zM (r := i64 a0) rfl rfl rfl rfl rfl ?_
     refine zL (r := b false) rfl rfl rfl (LOp.eqb (LOp.lss rfl rfl rfl) hc3) ?_
     refine zL (r := b false) rfl rfl rfl (LOp.pick_true rfl rfl rfl) ?_
     refine zN ?_
     refine RunC.cond_false rfl rfl ?_
     refine RunC.skip ?_
     exact ⟨⟨aR, trivial⟩, ⟨⟨rfl, .inr rfl⟩, trivial⟩, h⟩
   ·refine RunC.regionW ?_
    refine zM (r := i64 a0) rfl rfl rfl rfl rfl ?_
    refine zL (r := b false) rfl rfl rfl (LOp.eqb (LOp.leq rfl rfl rfl) hc2) ?_
    refine zM (r := b false) rfl rfl rfl rfl rfl ?_
    refine ROps.s rfl rfl rfl ?_
    refine ROps.s rfl rfl rfl ?_
    refine zL (r := b false) rfl rfl rfl (LOp.pick_false rfl rfl rfl) ?_
    refine zN ?_
    refine RunC.cond_false rfl rfl ?_
    refine RunC.skip ?_
    exact ⟨⟨aR, trivial⟩, ⟨⟨rfl, .inr rfl⟩, trivial⟩, h⟩
  ·rintro τ3 Γ3 ⟨hw3, hd3, h⟩
   refine RunC.wl hw3 hd3 ?_
   unfold x_internal_strconv_FormatInt_k1 at h
   refine zQ ?_
   refine ROps.d (r := optr 0 1 0) (fs := [(0, ((List.replicate 24 (0 : Int)).map (ik .u8)))]) (Γ' := [⟨1, some ((List.replicate 24 (0 : Int)).map (ik .u8))⟩]) rfl rfl rfl (TOp.alloc_o (l := ((List.replicate 24 (0 : Int)).map (ik .u8))) (g := ⟨0, none⟩) 0 rfl zer126 zok126 rfl) rfl ?_
   refine zN ?_
   refine RunC.seq ?_
   obtain ⟨x1, hx4, h⟩ := olet_some h
   refine RunC.regionW ?_
   refine zM (r := i64 a0) rfl rfl rfl rfl rfl ?_
   refine zL (r := ik .u64 x1) rfl rfl rfl (LOp.eqr (LOp.i2i (src := 2) (dst := 69) ⟨_, pun2⟩ pun69 rfl rfl) (congrArg (ik .u64) hx4)) ?_
   refine zA (r := ik .u64 x1) rfl rfl rfl rfl rfl ?_
   refine zN ?_
   refine RunC.seq ?_
   refine RunC.cutN (fun τ Γ => ∃ (v3 : Int), (List.replicate 24 (0 : Int)).length = 24 ∧ WeakLe τ [(0, i64 a0), (5, optr 0 1 0), (6, ik .u64 v3)] ∧ DeadLe Γ [⟨1, some ((List.replicate 24 (0 : Int)).map (ik .u8))⟩] ∧ x_internal_strconv_FormatInt_k2 v3 = some q0) ?_ ?_
   ·refine RunC.seq ?_
    rcases bsel_some h with ⟨hc5, h⟩ | ⟨hc5, h⟩
    ·refine RunC.regionW ?_
     refine zM (r := i64 a0) rfl rfl rfl rfl rfl ?_
     refine zL (r := b true) rfl rfl rfl (LOp.eqb (LOp.lss rfl rfl rfl) hc5) ?_
     refine zN ?_
     refine RunC.cond_true rfl rfl ?_
     obtain ⟨x2, hx6, h⟩ := olet_some h
     refine RunC.regionW ?_
     refine zM (r := ik .u64 x1) rfl rfl rfl rfl rfl ?_
     refine zL (r := ik .u64 x2) rfl rfl rfl (LOp.eqr (LOp.neg_int rfl rfl) (congrArg (ik .u64) hx6)) ?_
     refine zA (r := ik .u64 x2) rfl rfl rfl rfl rfl ?_
     refine zN ?_
     exact ⟨x2, List.length_replicate, ⟨aR, aR, aR, trivial⟩, ⟨⟨rfl, .inr rfl⟩, trivial⟩, h⟩
    ·refine RunC.regionW ?_
     refine zM (r := i64 a0) rfl rfl rfl rfl rfl ?_
     refine zL (r := b false) rfl rfl rfl (LOp.eqb (LOp.lss rfl rfl rfl) hc5) ?_
     refine zN ?_
     refine RunC.cond_false rfl rfl ?_
     refine RunC.skip ?_
     exact ⟨x1, List.length_replicate, ⟨aR, aR, aR, trivial⟩, ⟨⟨rfl, .inr rfl⟩, trivial⟩, h⟩
   ·rintro τ4 Γ4 ⟨v3, hl4, hw4, hd4, h⟩
    refine RunC.wl hw4 hd4 ?_
    unfold x_internal_strconv_FormatInt_k2 at h
    refine RunC.seq ?_
    cases h
 ·refine RunC.regionW ?_
  refine zM (r := i64 a1) rfl rfl rfl rfl rfl ?_
  refine zL (r := b false) rfl rfl rfl (LOp.eqb (LOp.eql rfl rfl rfl) hc1) ?_
  refine zN ?_
  refine RunC.cond_false rfl rfl ?_
  refine RunC.skip ?_
  refine RunC.seq ?_
  obtain ⟨x5, hx7, h⟩ := olet_some h
  obtain ⟨r6, r7, hf8, h⟩ := obind2_some h
  refine RunC.regionW ?_
  refine zM (r := i64 a0) rfl rfl rfl rfl rfl ?_
  refine zL (r := ik .u64 x5) rfl rfl rfl (LOp.eqr (LOp.i2i (src := 2) (dst := 69) ⟨_, pun2⟩ pun69 rfl rfl) (congrArg (ik .u64) hx7)) ?_
  refine zM (r := i64 a1) rfl rfl rfl rfl rfl ?_
  refine zM (r := i64 a0) rfl rfl rfl rfl rfl ?_
  refine zL (r := b (decide (a0 < 0))) rfl rfl rfl (LOp.lss rfl rfl rfl) ?_
  refine ROps.d (r := tup [oref 0 1 0 r7.length, str r6]) (fs := [(0, (r7.map (ik .u8)))]) (Γ' := [⟨1, some (r7.map (ik .u8))⟩]) rfl rfl rfl (TOp.callBN (ls := [(r7.map (ik .u8))]) [0] (CallAs.func ent104 rfl rfl) (Bors.cons Bor.nilsl (Bors.cons (Bor.pure rfl) (Bors.cons (Bor.pure rfl) (Bors.cons (Bor.pure rfl) (Bors.cons (Bor.pure rfl) Bors.nil))))) rfl (x_internal_strconv_formatBits_ok ([] : List Int) x5 a1 (decide (a0 < 0)) false r6 r7 hf8) (and_all (lts0_map (f := (ik .u8)) (fun _ => rfl) _) rfl) (and_all (noss_map (f := (ik .u8)) (fun _ => rfl) _) rfl) rfl (by decide) (ns_of ⟨⟨_, rfl⟩, trivial⟩)) rfl ?_
  refine zM (r := tup [oref 0 1 0 r7.length, str r6]) rfl rfl rfl rfl rfl ?_
  refine zL (r := oref 0 1 0 r7.length) rfl rfl rfl (LOp.extract rfl rfl rfl) ?_
  refine zL (r := str r6) rfl rfl rfl (LOp.extract rfl rfl rfl) ?_
  refine zA (r := oref 0 1 0 r7.length) rfl rfl rfl rfl rfl ?_
  refine zA (r := str r6) rfl rfl rfl rfl rfl ?_
  refine zN ?_
  refine RunC.wl (τ' := [(9, str r6)]) (Γ' := [⟨1, none⟩]) ⟨aR, trivial⟩ ⟨⟨rfl, .inl rfl⟩, trivial⟩ ?_
  refine zQ ?_
  refine zM (r := str r6) rfl rfl rfl rfl rfl ?_
  refine zA (r := str r6) rfl rfl rfl rfl rfl ?_
  refine zN ?_
  refine RunC.ret ?_
  have hq := Option.some.inj h
  subst q0
  exact bodyQ.pure (.inr rfl) rfl (Res.one rfl (RV.tmp rfl))
noncomputable def x_strconv_FormatInt_16 (a0 : Int) (a1 : Int) : Option (ByteArray) :=
 obind (x_internal_strconv_FormatInt a0 a1) fun (r1 : ByteArray) =>
 some r1
theorem x_strconv_FormatInt_16_ok (a0 : Int) (a1 : Int) (q0 : ByteArray) (h : x_strconv_FormatInt_16 a0 a1 = some q0) : Ev Tryz.prog 65 [i64 a0, i64 a1] [] (str q0) [] := by
 refine Ev.start Tryz.func65 rfl rfl 0 (τ := [(0, i64 a0), (1, i64 a1)]) rfl (Γ' := []) rfl (n := 17) rfl (g := 0) rfl (fun _ => rfl) ?_
 unfold x_strconv_FormatInt_16 at h
 refine zQ ?_
 refine zA (r := str lit_99ba06bc) rfl rfl rfl rfl rfl ?_
 refine zN ?_
 refine RunC.seq ?_
 obtain ⟨r1, hf1, h⟩ := obind_some h
 refine RunC.regionW ?_
 refine zM (r := i64 a0) rfl rfl rfl rfl rfl ?_
 refine zM (r := i64 a1) rfl rfl rfl rfl rfl ?_
 refine ROps.d (r := str r1) (fs := []) (Γ' := []) rfl rfl rfl (TOp.callB (CallAs.func ent85 rfl rfl) (Bors.cons (Bor.pure rfl) (Bors.cons (Bor.pure rfl) Bors.nil)) rfl rfl (x_internal_strconv_FormatInt_ok a0 a1 r1 hf1)) rfl ?_
 refine zA (r := str r1) rfl rfl rfl rfl rfl ?_
 refine zN ?_
 refine RunC.ret ?_
 have hq := Option.some.inj h
 subst q0
 exact bodyQ.pure (.inr rfl) rfl (Res.one rfl (RV.tmp rfl))
noncomputable def x_strings_Repeat (a0 : ByteArray) (a1 : Int) : Option ByteArray :=
 need (decide (0 ≤ a1)) <|
 need (decide (a1 ≤ 9223372036854775807)) <|
 need (decide (a0.size * a1.toNat ≤ 140737488355328)) <|
 some ⟨(Go.Lib.repeatL a0.data.toList a1.toNat).toArray⟩
def rep_ren : Go.Shelf.Ren :=
{
 f := fun x =>
  match x with
  | 105 => 67
  | 212 => 86
  | 99 => 87
  | 165 => 88
  | 166 => 89
  | 170 => 90
  | 169 => 91
  | 263 => 105
  | 264 => 106
  | 206 => 107
  | 240 => 108
  | 241 => 109
  | 276 => 117
  | 277 => 118
  | n => n,
 t := fun x =>
  match x with
  | 9 => 9
  | 3 => 3
  | 4 => 4
  | 20 => 20
  | 0 => 0
  | 46 => 87
  | 109 => 109
  | 5 => 5
  | 72 => 114
  | 76 => 116
  | 51 => 75
  | 146 => 98
  | 53 => 69
  | 148 => 132
  | 70 => 112
  | 37 => 105
  | 75 => 71
  | 127 => 134
  | 164 => 148
  | 80 => 119
  | n => n,
 g := fun x =>
  have n := x;
  n }
theorem rep_lays : Go.Proofs.Lays.n105 Tryz.prog rep_ren :=
 {
  f99 := (Eq.trans Tryz.func87 (congrArg some (by kernel_rfl))),
  f105 := (Eq.trans Tryz.func67 (congrArg some (by kernel_rfl))),
  f165 := (Eq.trans Tryz.func88 (congrArg some (by kernel_rfl))),
  f166 := (Eq.trans Tryz.func89 (congrArg some (by kernel_rfl))),
  f169 := (Eq.trans Tryz.func91 (congrArg some (by kernel_rfl))),
  f170 := (Eq.trans Tryz.func90 (congrArg some (by kernel_rfl))),
  f206 := (Eq.trans Tryz.func107 (congrArg some (by kernel_rfl))),
  f212 := (Eq.trans Tryz.func86 (congrArg some (by kernel_rfl))),
  f240 := (Eq.trans Tryz.func108 (congrArg some (by kernel_rfl))),
  f241 := (Eq.trans Tryz.func109 (congrArg some (by kernel_rfl))),
  f263 := (Eq.trans Tryz.func105 (congrArg some (by kernel_rfl))),
  f264 := (Eq.trans Tryz.func106 (congrArg some (by kernel_rfl))),
  f276 := (Eq.trans Tryz.func117 (congrArg some (by kernel_rfl))),
  f277 := (Eq.trans Tryz.func118 (congrArg some (by kernel_rfl))),
  t0 := Tryz.underlying0,
  a0 := Tryz.isAgg0,
  z0 := Tryz.sizeOf0,
  v0 := Tryz.zeroValue0,
  t3 := Tryz.underlying3,
  a3 := Tryz.isAgg3,
  z3 := Tryz.sizeOf3,
  v3 := Tryz.zeroValue3,
  t4 := Tryz.underlying4,
  a4 := Tryz.isAgg4,
  z4 := Tryz.sizeOf4,
  v4 := Tryz.zeroValue4,
  t5 := Tryz.underlying5,
  a5 := Tryz.isAgg5,
  z5 := Tryz.sizeOf5,
  v5 := Tryz.zeroValue5,
  t9 := Tryz.underlying9,
  a9 := Tryz.isAgg9,
  z9 := Tryz.sizeOf9,
  v9 := Tryz.zeroValue9,
  t20 := Tryz.underlying20,
  a20 := Tryz.isAgg20,
  z20 := Tryz.sizeOf20,
  v20 := Tryz.zeroValue20,
  t37 := Tryz.underlying105,
  a37 := Tryz.isAgg105,
  z37 := Tryz.sizeOf105,
  v37 := Tryz.zeroValue105,
  t46 := Tryz.underlying87,
  a46 := Tryz.isAgg87,
  z46 := Tryz.sizeOf87,
  v46 := Tryz.zeroValue87,
  t51 := Tryz.underlying75,
  a51 := Tryz.isAgg75,
  z51 := Tryz.sizeOf75,
  v51 := Tryz.zeroValue75,
  t53 := Tryz.underlying69,
  a53 := Tryz.isAgg69,
  z53 := Tryz.sizeOf69,
  v53 := Tryz.zeroValue69,
  t70 := Tryz.underlying112,
  a70 := Tryz.isAgg112,
  z70 := Tryz.sizeOf112,
  v70 := Tryz.zeroValue112,
  t72 := Tryz.underlying114,
  a72 := Tryz.isAgg114,
  z72 := Tryz.sizeOf114,
  v72 := Tryz.zeroValue114,
  t75 := Tryz.underlying71,
  a75 := Tryz.isAgg71,
  z75 := Tryz.sizeOf71,
  v75 := Tryz.zeroValue71,
  t76 := Tryz.underlying116,
  a76 := Tryz.isAgg116,
  z76 := Tryz.sizeOf116,
  v76 := Tryz.zeroValue116,
  t109 := Tryz.underlying109,
  a109 := Tryz.isAgg109,
  z109 := Tryz.sizeOf109,
  v109 := Tryz.zeroValue109,
  t127 := Tryz.underlying134,
  a127 := Tryz.isAgg134,
  z127 := Tryz.sizeOf134,
  v127 := Tryz.zeroValue134,
  t146 := Tryz.underlying98,
  a146 := Tryz.isAgg98,
  z146 := Tryz.sizeOf98,
  v146 := Tryz.zeroValue98,
  t148 := Tryz.underlying132,
  a148 := Tryz.isAgg132,
  z148 := Tryz.sizeOf132,
  v148 := Tryz.zeroValue132,
  t164 := Tryz.underlying148,
  a164 := Tryz.isAgg148,
  z164 := Tryz.sizeOf148,
  v164 := Tryz.zeroValue148,
  mixed := (by kernel_rfl) }
theorem rep_extra : Go.Proofs.Builder.Extra Tryz.prog rep_ren where
 sizeBuilder := by kernel_rfl
 liesBuilder := by kernel_rfl
 t5 := Tryz.underlying5
 a5 := Tryz.isAgg5
 z5 := Tryz.sizeOf5
 v5 := Tryz.zeroValue5
 infoByte := by kernel_rfl
 cellsByte := by kernel_rfl
 sizeByte := by kernel_rfl
 neB5 := by decide
theorem x_strings_Repeat_ok (a0 : ByteArray) (a1 : Int) (q0 : ByteArray) (h : x_strings_Repeat a0 a1 = some q0) : Ev Tryz.prog 67 [str a0, i64 a1] [] (str q0) [] := by
 unfold x_strings_Repeat at h
 obtain ⟨h1, k1⟩ := need_some h
 obtain ⟨h2, k2⟩ := need_some k1
 obtain ⟨h3, k3⟩ := need_some k2
 have h1 := of_decide_eq_true h1
 have h2 := of_decide_eq_true h2
 have h3 := of_decide_eq_true h3
 have hq := Option.some.inj k3
 subst hq
 refine Ev.ofGrow fun S w vs hs ha => ?_
 obtain ⟨vl⟩ := vs
 match vl, ha with
 | [v0, v1], ha =>
  simp only [VL, V] at ha
  obtain ⟨rfl, rfl, _⟩ := ha
  have e : (Value.int .i64 a1) = .int .i64 (a1.toNat : Int) := by rw [Int.toNat_of_nonneg h1]
  rw [e]
  refine (Go.Proofs.Any.strings_Repeat rep_lays rep_extra a0 a1.toNat w (by omega) h3).mono ?_
  rintro e w' ⟨rfl, hB⟩
  exact ⟨_, rfl, by simp only [V], hB.size, fun k hk => hB.block k hk, hB.os, hB.tape, hB.output⟩
 | [], ha => simp only [VL] at ha
 | [_], ha => simp only [VL] at ha; exact ha.2.elim
 | _ :: _ :: _ :: _, ha => simp only [VL] at ha; exact ha.2.2.elim
noncomputable def i_digitsOf (a0 : F) : Option (ByteArray) :=
 obind (i_BitsOf a0) fun (r1 : Int) =>
 obind (x_strconv_FormatInt_16 r1 16) fun (r2 : ByteArray) =>
 olet (IntKind.i64.wrap (8 - (r2.size : Int))) fun (x3 : Int) =>
 obind (x_strings_Repeat lit_53dfb3bc x3) fun (r4 : ByteArray) =>
 obind (cats? r4 r2) fun (t5 : ByteArray) =>
 some t5
theorem i_digitsOf_ok (a0 : F) (q0 : ByteArray) (h : i_digitsOf a0 = some q0) : Ev Tryz.prog 46 [f32 a0] [] (str q0) [] := by
 refine Ev.start Tryz.func46 rfl rfl 0 (τ := [(0, f32 a0)]) rfl (Γ' := []) rfl (n := 27) rfl (g := 0) rfl (fun _ => rfl) ?_
 unfold i_digitsOf at h
 refine zQ ?_
 refine zA (r := str lit_99ba06bc) rfl rfl rfl rfl rfl ?_
 refine zN ?_
 refine RunC.seq ?_
 obtain ⟨r1, hf1, h⟩ := obind_some h
 obtain ⟨r2, hf2, h⟩ := obind_some h
 refine RunC.regionW ?_
 refine zM (r := f32 a0) rfl rfl rfl rfl rfl ?_
 refine ROps.d (r := i64 r1) (fs := []) (Γ' := []) rfl rfl rfl (TOp.callB (CallAs.func ent66 rfl rfl) (Bors.cons (Bor.pure rfl) Bors.nil) rfl rfl (i_BitsOf_ok a0 r1 hf1)) rfl ?_
 refine ROps.d (r := str r2) (fs := []) (Γ' := []) rfl rfl rfl (TOp.callB (CallAs.func ent65 rfl rfl) (Bors.cons (Bor.pure rfl) (Bors.cons (Bor.pure rfl) Bors.nil)) rfl rfl (x_strconv_FormatInt_16_ok r1 16 r2 hf2)) rfl ?_
 refine zA (r := str r2) rfl rfl rfl rfl rfl ?_
 refine zN ?_
 refine RunC.seq ?_
 obtain ⟨x3, hx3, h⟩ := olet_some h
 obtain ⟨r4, hf4, h⟩ := obind_some h
 obtain ⟨t5, hs5, h⟩ := obind_some h
 refine RunC.regionW ?_
 refine zM (r := str r2) rfl rfl rfl rfl rfl ?_
 refine zL (r := i64 (r2.size : Int)) rfl rfl rfl (LOp.len_str und9 rfl rfl) ?_
 refine zL (r := i64 x3) rfl rfl rfl (LOp.eqr (LOp.sub rfl rfl rfl) (congrArg (ik .i64) hx3)) ?_
 refine ROps.d (r := str r4) (fs := []) (Γ' := []) rfl rfl rfl (TOp.callB (CallAs.func ent67 rfl rfl) (Bors.cons (Bor.pure rfl) (Bors.cons (Bor.pure rfl) Bors.nil)) rfl rfl (x_strings_Repeat_ok lit_53dfb3bc x3 r4 hf4)) rfl ?_
 refine zM (r := str r2) rfl rfl rfl rfl rfl ?_
 refine zL (r := str t5) rfl rfl rfl (LOp.cats rfl rfl rfl hs5) ?_
 refine zA (r := str t5) rfl rfl rfl rfl rfl ?_
 refine zN ?_
 refine RunC.ret ?_
 have hq := Option.some.inj h
 subst q0
 exact bodyQ.pure (.inr rfl) rfl (Res.one rfl (RV.tmp rfl))
noncomputable def i_fromDigits (a0 : ByteArray) : Option (F × Bool) :=
 obind (x_strconv_ParseUint a0) (fun z => osum z (fun (r1 : Int) =>
  olet (IntKind.u32.wrap r1) fun (x3 : Int) =>
  need ((decide (0 ≤ x3) && decide (x3.toNat < 2 ^ FloatKind.f32.format.width))) <|
  some (some 0, false)) (fun (r2 : Int) =>
  olet (IntKind.u32.wrap r2) fun (x4 : Int) =>
  need ((decide (0 ≤ x4) && decide (x4.toNat < 2 ^ FloatKind.f32.format.width))) <|
  obind (i_digitsOf (ffb .f32 x4)) fun (r5 : ByteArray) =>
  bsel (!eqs r5 a0) (
   some (some 0, false)) (
   some ((ffb .f32 x4), true))))
theorem i_fromDigits_ok (a0 : ByteArray) (q0 : F) (q1 : Bool) (h : i_fromDigits a0 = some (q0, q1)) : Ev Tryz.prog 30 [str a0] [] (tup [f32 q0, b q1]) [] := by
 refine Ev.start Tryz.func30 rfl rfl 0 (τ := [(0, str a0)]) rfl (Γ' := []) rfl (n := 49) rfl (g := 0) rfl (fun _ => rfl) ?_
 unfold i_fromDigits at h
 refine zQ ?_
 refine zL (r := f32 (some 0)) rfl rfl rfl (LOp.le (LOp.assign rfl rfl) (ALe.fl (by kernel_rfl) (by kernel_rfl))) ?_
 refine zA (r := b false) rfl rfl rfl rfl rfl ?_
 refine zN ?_
 refine RunC.seq ?_
 obtain ⟨z1, hf1, h⟩ := obind_some h
 rcases z1 with r1 | r2
 ·replace h := (osum_inl _ _ _).symm.trans h
  refine RunC.regionW ?_
  refine zM (r := str a0) rfl rfl rfl rfl rfl ?_
  refine ROps.d (r := tup [ik .u64 r1, nni]) (fs := []) (Γ' := []) rfl rfl rfl (TOp.callB (CallAs.func ent44 rfl rfl) (Bors.cons (Bor.pure rfl) (Bors.cons (Bor.pure rfl) (Bors.cons (Bor.pure rfl) Bors.nil))) rfl rfl (x_strconv_ParseUint_ok0 a0 r1 hf1)) rfl ?_
  refine zM (r := tup [ik .u64 r1, nni]) rfl rfl rfl rfl rfl ?_
  refine zL (r := ik .u64 r1) rfl rfl rfl (LOp.extract rfl rfl rfl) ?_
  refine zL (r := nni) rfl rfl rfl (LOp.extract rfl rfl rfl) ?_
  refine zA (r := ik .u64 r1) rfl rfl rfl rfl rfl ?_
  refine zA (r := nni) rfl rfl rfl rfl rfl ?_
  refine zN ?_
  refine RunC.seq ?_
  obtain ⟨x3, hx2, h⟩ := olet_some h
  obtain ⟨hz3, h⟩ := need_some h
  refine RunC.regionW ?_
  refine zM (r := ik .u64 r1) rfl rfl rfl rfl rfl ?_
  refine zL (r := ik .u32 x3) rfl rfl rfl (LOp.eqr (LOp.i2i (src := 69) (dst := 75) ⟨_, pun69⟩ pun75 rfl rfl) (congrArg (ik .u32) hx2)) ?_
  refine zL (r := f32 (ffb .f32 x3)) rfl rfl rfl (LOp.ffromx ext45 rfl rfl hz3) ?_
  refine zA (r := f32 (ffb .f32 x3)) rfl rfl rfl rfl rfl ?_
  refine zN ?_
  refine RunC.seq ?_
  refine zQ ?_
  refine zM (r := nni) rfl rfl rfl rfl rfl ?_
  refine zL (r := b true) rfl rfl rfl (LOp.neq_nni pun71 rfl rfl rfl) ?_
  refine zM (r := b true) rfl rfl rfl rfl rfl ?_
  refine ROps.s rfl rfl rfl ?_
  refine ROps.s rfl rfl rfl ?_
  refine ROps.s rfl rfl rfl ?_
  refine ROps.s rfl rfl rfl ?_
  refine zL (r := b true) rfl rfl rfl (LOp.pick_true rfl rfl rfl) ?_
  refine zN ?_
  refine RunC.wl (τ' := [(6, f32 (ffb .f32 x3)), (22, b true)]) (Γ' := []) ⟨aR, aR, trivial⟩ trivial ?_
  refine RunC.cond_true rfl rfl ?_
  refine zQ ?_
  refine zL (r := f32 (some 0)) rfl rfl rfl (LOp.le (LOp.assign rfl rfl) (ALe.fl (by kernel_rfl) (by kernel_rfl))) ?_
  refine zA (r := b false) rfl rfl rfl rfl rfl ?_
  refine zN ?_
  refine RunC.ret ?_
  have hq := Option.some.inj h
  obtain ⟨hq0, hq⟩ := Prod.mk.inj hq
  subst q0
  subst q1
  exact bodyQ.pure (.inr rfl) rfl (Res.two rfl (RV.tmp rfl) (RV.tmp rfl))
 ·replace h := (osum_inr _ _ _).symm.trans h
  refine RunC.regionW ?_
  refine zM (r := str a0) rfl rfl rfl rfl rfl ?_
  refine ROps.d (r := tup [ik .u64 r2, x .nilIface]) (fs := []) (Γ' := []) rfl rfl rfl (TOp.callB (CallAs.func ent44 rfl rfl) (Bors.cons (Bor.pure rfl) (Bors.cons (Bor.pure rfl) (Bors.cons (Bor.pure rfl) Bors.nil))) rfl rfl (x_strconv_ParseUint_ok1 a0 r2 hf1)) rfl ?_
  refine zM (r := tup [ik .u64 r2, x .nilIface]) rfl rfl rfl rfl rfl ?_
  refine zL (r := ik .u64 r2) rfl rfl rfl (LOp.extract rfl rfl rfl) ?_
  refine zL (r := x .nilIface) rfl rfl rfl (LOp.extract rfl rfl rfl) ?_
  refine zA (r := ik .u64 r2) rfl rfl rfl rfl rfl ?_
  refine zA (r := x .nilIface) rfl rfl rfl rfl rfl ?_
  refine zN ?_
  refine RunC.seq ?_
  obtain ⟨x4, hx4, h⟩ := olet_some h
  obtain ⟨hz5, h⟩ := need_some h
  refine RunC.regionW ?_
  refine zM (r := ik .u64 r2) rfl rfl rfl rfl rfl ?_
  refine zL (r := ik .u32 x4) rfl rfl rfl (LOp.eqr (LOp.i2i (src := 69) (dst := 75) ⟨_, pun69⟩ pun75 rfl rfl) (congrArg (ik .u32) hx4)) ?_
  refine zL (r := f32 (ffb .f32 x4)) rfl rfl rfl (LOp.ffromx ext45 rfl rfl hz5) ?_
  refine zA (r := f32 (ffb .f32 x4)) rfl rfl rfl rfl rfl ?_
  refine zN ?_
  refine RunC.seq ?_
  refine RunC.seq ?_
  obtain ⟨r5, hf6, h⟩ := obind_some h
  rcases bsel_some h with ⟨hc7, h⟩ | ⟨hc7, h⟩
  ·refine RunC.regionW ?_
   refine zM (r := x .nilIface) rfl rfl rfl rfl rfl ?_
   refine zL (r := b false) rfl rfl rfl (LOp.neq_nil_nil pun71 rfl rfl) ?_
   refine zM (r := b false) rfl rfl rfl rfl rfl ?_
   refine zM (r := f32 (ffb .f32 x4)) rfl rfl rfl rfl rfl ?_
   refine ROps.d (r := str r5) (fs := []) (Γ' := []) rfl rfl rfl (TOp.callB (CallAs.func ent46 rfl rfl) (Bors.cons (Bor.pure rfl) Bors.nil) rfl rfl (i_digitsOf_ok (ffb .f32 x4) r5 hf6)) rfl ?_
   refine zM (r := str a0) rfl rfl rfl rfl rfl ?_
   refine zL (r := b true) rfl rfl rfl (LOp.eqb (LOp.neqs rfl rfl rfl) hc7) ?_
   refine zL (r := b true) rfl rfl rfl (LOp.pick_false rfl rfl rfl) ?_
   refine zN ?_
   refine RunC.wl (τ' := [(6, f32 (ffb .f32 x4)), (22, b true)]) (Γ' := []) ⟨aR, aR, trivial⟩ trivial ?_
   refine RunC.cond_true rfl rfl ?_
   refine zQ ?_
   refine zL (r := f32 (some 0)) rfl rfl rfl (LOp.le (LOp.assign rfl rfl) (ALe.fl (by kernel_rfl) (by kernel_rfl))) ?_
   refine zA (r := b false) rfl rfl rfl rfl rfl ?_
   refine zN ?_
   refine RunC.ret ?_
   have hq := Option.some.inj h
   obtain ⟨hq0, hq⟩ := Prod.mk.inj hq
   subst q0
   subst q1
   exact bodyQ.pure (.inr rfl) rfl (Res.two rfl (RV.tmp rfl) (RV.tmp rfl))
  ·refine RunC.regionW ?_
   refine zM (r := x .nilIface) rfl rfl rfl rfl rfl ?_
   refine zL (r := b false) rfl rfl rfl (LOp.neq_nil_nil pun71 rfl rfl) ?_
   refine zM (r := b false) rfl rfl rfl rfl rfl ?_
   refine zM (r := f32 (ffb .f32 x4)) rfl rfl rfl rfl rfl ?_
   refine ROps.d (r := str r5) (fs := []) (Γ' := []) rfl rfl rfl (TOp.callB (CallAs.func ent46 rfl rfl) (Bors.cons (Bor.pure rfl) Bors.nil) rfl rfl (i_digitsOf_ok (ffb .f32 x4) r5 hf6)) rfl ?_
   refine zM (r := str a0) rfl rfl rfl rfl rfl ?_
   refine zL (r := b false) rfl rfl rfl (LOp.eqb (LOp.neqs rfl rfl rfl) hc7) ?_
   refine zL (r := b false) rfl rfl rfl (LOp.pick_false rfl rfl rfl) ?_
   refine zN ?_
   refine RunC.wl (τ' := [(6, f32 (ffb .f32 x4)), (22, b false)]) (Γ' := []) ⟨aR, aR, trivial⟩ trivial ?_
   refine RunC.cond_false rfl rfl ?_
   refine RunC.skip ?_
   refine zQ ?_
   refine zM (r := f32 (ffb .f32 x4)) rfl rfl rfl rfl rfl ?_
   refine zA (r := f32 (ffb .f32 x4)) rfl rfl rfl rfl rfl ?_
   refine zA (r := b true) rfl rfl rfl rfl rfl ?_
   refine zN ?_
   refine RunC.ret ?_
   have hq := Option.some.inj h
   obtain ⟨hq0, hq⟩ := Prod.mk.inj hq
   subst q0
   subst q1
   exact bodyQ.pure (.inr rfl) rfl (Res.two rfl (RV.tmp rfl) (RV.tmp rfl))
noncomputable def i_ReadNumbers_b1 (r1 : List ByteArray) (L4 : List F) (v5 : Int) : Option (LR ((List F) × Int) ((List F)) (Bool × (List F))) :=
 bsel (decide (v5 < ((r1.length : Nat) : Int))) (
  obind (at? r1 v5) fun (e6 : ByteArray) =>
  obind2 (i_fromDigits e6) fun (r7 : F) (r8 : Bool) =>
  bsel r8 (
   bsel (decide (((L4.length : Nat) : Int) = 256)) (
    some (LR.ret (false, ([] : List F)))) (
    need (apok 4 L4.length 1) <|
    olet (IntKind.i64.wrap (v5 + 1)) fun (x9 : Int) =>
    some (LR.next ((L4 ++ ([r7] : List F)), x9)))) (
   some (LR.ret (false, ([] : List F))))) (
  some (LR.out L4))
noncomputable def i_ReadNumbers_s1 (r1 : List ByteArray) : ((List F) × Int) → Option (LR ((List F) × Int) ((List F)) (Bool × (List F))) := fun s => i_ReadNumbers_b1 r1 s.1 s.2
noncomputable def i_ReadNumbers_k1 (L12 : List F) : Option (Bool × (List F)) :=
 some (true, L12)
noncomputable def i_ReadNumbers (a0 : ByteArray) : Option (Bool × (List F)) :=
 bsel (eqs a0 lit_5ac87db9) (
  some (true, ([] : List F))) (
  obind (x_strings_Split a0 lit_be717853) fun (r1 : List ByteArray) =>
  obind (loopM (i_ReadNumbers_s1 r1) (([] : List F), 0)) fun z => osum z (fun e => i_ReadNumbers_k1 e) (fun r => some r))
theorem i_ReadNumbers_ok (a0 : ByteArray) (q0 : Bool) (q1 : List F) (h : i_ReadNumbers a0 = some (q0, q1)) : Ev Tryz.prog 17 [str a0] [] (tup [oref 0 0 0 q1.length, b q0]) [⟨0, some (q1.map f32)⟩] := by
 refine Ev.start Tryz.func17 rfl rfl 3 (τ := [(0, str a0)]) rfl (Γ' := [⟨0, none⟩, ⟨0, none⟩, ⟨0, none⟩]) rfl (n := 77) rfl (g := 0) rfl (fun _ => rfl) ?_
 unfold i_ReadNumbers at h
 refine zQ ?_
 refine zA (r := nilsl) rfl rfl rfl rfl rfl ?_
 refine zA (r := b false) rfl rfl rfl rfl rfl ?_
 refine zN ?_
 refine zQ ?_
 refine ROps.d (r := oref 0 1 0 0) (fs := [(0, (([] : List F).map f32))]) (Γ' := [⟨1, some (([] : List F).map f32)⟩, ⟨0, none⟩, ⟨0, none⟩]) rfl rfl rfl (TOp.buildSlice_o (g := ⟨0, none⟩) (za := f32 (some 0)) (qs := []) 0 rfl und22 siz51 zer51 rfl zel51 rfl rfl trivial rfl) rfl ?_
 refine zA (r := oref 0 1 0 0) rfl rfl rfl rfl rfl ?_
 refine zN ?_
 refine RunC.seq ?_
 refine RunC.seq ?_
 rcases bsel_some h with ⟨hc1, h⟩ | ⟨hc1, h⟩
 ·refine RunC.regionW ?_
  refine zM (r := str a0) rfl rfl rfl rfl rfl ?_
  refine zL (r := b true) rfl rfl rfl (LOp.eqb (LOp.eqs rfl rfl rfl) hc1) ?_
  refine zN ?_
  refine RunC.cond_true rfl rfl ?_
  refine zQ ?_
  refine zM (r := oref 0 1 0 0) rfl rfl rfl rfl rfl ?_
  refine zA (r := oref 0 1 0 0) rfl rfl rfl rfl rfl ?_
  refine zA (r := b true) rfl rfl rfl rfl rfl ?_
  refine zN ?_
  refine RunC.ret ?_
  have hq := Option.some.inj h
  obtain ⟨hq0, hq⟩ := Prod.mk.inj hq
  subst q0
  subst q1
  exact bodyQ.mk (r' := tup [oref 0 1 0 (([] : List F).length), b true]) [(0, 1)] (.inr rfl) rfl (show List.Nodup [0] from by decide) rfl rfl (Res.eq (Res.two rfl (RV.tmp rfl) (RV.tmp rfl)) (by rw [(show ([] : List F).length = 0 from rfl)] <;> rfl)) (SelL.arr0 (f := f32) (fun _ => rfl) rfl trivial)
 ·refine RunC.regionW ?_
  refine zM (r := str a0) rfl rfl rfl rfl rfl ?_
  refine zL (r := b false) rfl rfl rfl (LOp.eqb (LOp.eqs rfl rfl rfl) hc1) ?_
  refine zN ?_
  refine RunC.cond_false rfl rfl ?_
  refine RunC.skip ?_
  refine RunC.seq ?_
  refine RunC.seq ?_
  obtain ⟨r1, hf2, h⟩ := obind_some h
  refine RunC.regionW ?_
  refine zM (r := str a0) rfl rfl rfl rfl rfl ?_
  refine ROps.d (r := oref 1 1 0 r1.length) (fs := [(1, (r1.map str))]) (Γ' := [⟨1, some (([] : List F).map f32)⟩, ⟨1, some (r1.map str)⟩, ⟨0, none⟩]) rfl rfl rfl (TOp.callBN (ls := [(r1.map str)]) [1] (CallAs.func ent29 rfl rfl) (Bors.cons (Bor.pure rfl) (Bors.cons (Bor.pure rfl) Bors.nil)) rfl (x_strings_Split_ok a0 lit_be717853 r1 hf2) (and_all (lts0_map (f := str) (fun _ => rfl) _) rfl) (and_all (noss_map (f := str) (fun _ => rfl) _) rfl) rfl (by decide) (ns_of ⟨⟨_, rfl⟩, trivial⟩)) rfl ?_
  refine zL (r := i64 ((r1.length : Nat) : Int)) rfl rfl rfl (LOp.len_oref und46 rfl rfl) ?_
  refine zM (r := i64 0) rfl rfl rfl rfl rfl ?_
  refine zN ?_
  obtain ⟨z2, hz_2, h⟩ := obind_some h
  refine RunC.cutN (fun τ Γ => ∃ (L12 : List F) (u10 : Nat) (u11 : Nat), WeakLe τ [(4, oref 0 u10 0 L12.length)] ∧ DeadLe Γ [⟨u10, some (L12.map f32)⟩, ⟨1, none⟩, ⟨u11, none⟩] ∧ z2 = .inl L12) ?_ ?_
  ·refine RunC.block (RunC.loop (RunL.loopM (x := z2) (i_ReadNumbers_s1 r1) (fun (s : (List F) × Int) τ Γ => ∃ (u2 : Nat) (u3 : Nat), WeakLe τ [(4, oref 0 u2 0 s.1.length), (14, oref 1 1 0 r1.length), (15, i64 ((r1.length : Nat) : Int)), (16, i64 s.2)] ∧ DeadLe Γ [⟨u2, some (s.1.map f32)⟩, ⟨1, some (r1.map str)⟩, ⟨u3, none⟩]) ?_ _ _ _ hz_2 ⟨1, 0, ⟨aR, aR, aR, aR, trivial⟩, ⟨⟨rfl, .inr rfl⟩, ⟨rfl, .inr rfl⟩, ⟨rfl, .inl rfl⟩, trivial⟩⟩))
   rintro ⟨L4, v5⟩ τ2 Γ2 y2_ ⟨u2, u3, hw2, hd2⟩ h2_ ho2 hr2
   refine RunC.wl (τ' := [(4, oref 0 u2 0 L4.length), (14, oref 1 1 0 r1.length), (15, i64 ((r1.length : Nat) : Int)), (16, i64 v5)]) (Γ' := [⟨u2, some (L4.map f32)⟩, ⟨1, some (r1.map str)⟩, ⟨u3, none⟩]) hw2 hd2 ?_
   replace h2_ : i_ReadNumbers_b1 r1 L4 v5 = some y2_ := h2_
   unfold i_ReadNumbers_b1 at h2_
   refine RunC.seq ?_
   rcases bsel_some h2_ with ⟨hc3, h2_⟩ | ⟨hc3, h2_⟩
   ·refine RunC.regionW ?_
    refine zL (r := b true) rfl rfl rfl (LOp.eqb (LOp.lss rfl rfl rfl) hc3) ?_
    refine zN ?_
    refine RunC.seq ?_
    refine RunC.cond_true rfl rfl ?_
    refine RunC.skip ?_
    refine RunC.seq ?_
    refine RunC.block ?_
    refine RunC.seq ?_
    obtain ⟨e6, he4, h2_⟩ := obind_some h2_
    refine RunC.regionW ?_
    refine ROps.d (r := optr 1 1 v5.toNat) (fs := []) (Γ' := [⟨u2, some (L4.map f32)⟩, ⟨1, some (r1.map str)⟩, ⟨u3, none⟩]) rfl rfl rfl (TOp.ixo und46 siz9 rfl rfl rfl (at_in he4 rfl) rfl) rfl ?_
    refine ROps.d (r := str e6) (fs := []) (Γ' := [⟨u2, some (L4.map f32)⟩, ⟨1, some (r1.map str)⟩, ⟨u3, none⟩]) rfl rfl rfl (TOp.load1_o rfl (at_cell he4) agg9 rfl rfl) rfl ?_
    refine zA (r := str e6) rfl rfl rfl rfl rfl ?_
    refine zN ?_
    refine RunC.seq ?_
    obtain ⟨r7, r8, hf5, h2_⟩ := obind2_some h2_
    rcases bsel_some h2_ with ⟨hc6, h2_⟩ | ⟨hc6, h2_⟩
    ·refine RunC.regionW ?_
     refine zM (r := str e6) rfl rfl rfl rfl rfl ?_
     refine ROps.d (r := tup [f32 r7, b r8]) (fs := []) (Γ' := [⟨u2, some (L4.map f32)⟩, ⟨1, some (r1.map str)⟩, ⟨u3, none⟩]) rfl rfl rfl (TOp.callB (CallAs.func ent30 rfl rfl) (Bors.cons (Bor.pure rfl) Bors.nil) rfl rfl (i_fromDigits_ok e6 r7 r8 hf5)) rfl ?_
     refine zM (r := tup [f32 r7, b r8]) rfl rfl rfl rfl rfl ?_
     refine zL (r := f32 r7) rfl rfl rfl (LOp.extract rfl rfl rfl) ?_
     refine zL (r := b true) rfl rfl rfl (LOp.eqb (LOp.extract rfl rfl rfl) hc6) ?_
     refine zA (r := f32 r7) rfl rfl rfl rfl rfl ?_
     refine zA (r := b true) rfl rfl rfl rfl rfl ?_
     refine zN ?_
     refine RunC.seq ?_
     refine RunC.seq ?_
     rcases bsel_some h2_ with ⟨hc7, h2_⟩ | ⟨hc7, h2_⟩
     ·refine RunC.regionW ?_
      refine zM (r := b true) rfl rfl rfl rfl rfl ?_
      refine zL (r := b false) rfl rfl rfl (LOp.eqb (LOp.not rfl rfl) rfl) ?_
      refine zM (r := b false) rfl rfl rfl rfl rfl ?_
      refine zM (r := oref 0 u2 0 L4.length) rfl rfl rfl rfl rfl ?_
      refine zL (r := i64 ((L4.length : Nat) : Int)) rfl rfl rfl (LOp.len_oref und22 rfl rfl) ?_
      refine zL (r := b true) rfl rfl rfl (LOp.eqb (LOp.eql rfl rfl rfl) hc7) ?_
      refine zL (r := b true) rfl rfl rfl (LOp.pick_false rfl rfl rfl) ?_
      refine zN ?_
      refine RunC.wl (τ' := [(4, oref 0 u2 0 L4.length), (7, f32 r7), (14, oref 1 1 0 r1.length), (15, i64 ((r1.length : Nat) : Int)), (16, i64 v5), (28, oref 0 u2 0 L4.length), (29, i64 ((L4.length : Nat) : Int)), (30, b true), (31, b true)]) (Γ' := [⟨u2, some (L4.map f32)⟩, ⟨1, some (r1.map str)⟩, ⟨u3, none⟩]) ⟨aR, aR, aR, aR, aR, aR, aR, aR, aR, trivial⟩ ⟨⟨rfl, .inr rfl⟩, ⟨rfl, .inr rfl⟩, ⟨rfl, .inl rfl⟩, trivial⟩ ?_
      refine RunC.cond_true rfl rfl ?_
      refine zQ ?_
      refine zA (r := nilsl) rfl rfl rfl rfl rfl ?_
      refine zA (r := b false) rfl rfl rfl rfl rfl ?_
      refine zN ?_
      refine RunC.nil_slot (Γ' := [⟨u2, some (L4.map f32)⟩, ⟨1, some (r1.map str)⟩, ⟨(u3 + 1), some (([] : List F).map f32)⟩]) 2 2 rfl rfl rfl ?_
      refine RunC.ret ?_
      cases Option.some.inj h2_
      have hx3_ := hr2 _ rfl
      subst hx3_
      have hq := Option.some.inj h
      obtain ⟨hq0, hq⟩ := Prod.mk.inj hq
      subst q0
      subst q1
      exact bodyQ.mk (r' := tup [oref 2 (u3 + 1) 0 (([] : List F).length), b false]) [(2, (u3 + 1))] (.inr rfl) rfl (show List.Nodup [2] from by decide) (by simp [ren, rens, sigma]) rfl (Res.eq (Res.two rfl (RV.tmp rfl) (RV.tmp rfl)) (by rw [(show ([] : List F).length = 0 from rfl)] <;> rfl)) (SelL.arr0 (f := f32) (fun _ => rfl) rfl trivial)
     ·refine RunC.regionW ?_
      refine zM (r := b true) rfl rfl rfl rfl rfl ?_
      refine zL (r := b false) rfl rfl rfl (LOp.eqb (LOp.not rfl rfl) rfl) ?_
      refine zM (r := b false) rfl rfl rfl rfl rfl ?_
      refine zM (r := oref 0 u2 0 L4.length) rfl rfl rfl rfl rfl ?_
      refine zL (r := i64 ((L4.length : Nat) : Int)) rfl rfl rfl (LOp.len_oref und22 rfl rfl) ?_
      refine zL (r := b false) rfl rfl rfl (LOp.eqb (LOp.eql rfl rfl rfl) hc7) ?_
      refine zL (r := b false) rfl rfl rfl (LOp.pick_false rfl rfl rfl) ?_
      refine zN ?_
      refine RunC.wl (τ' := [(4, oref 0 u2 0 L4.length), (7, f32 r7), (14, oref 1 1 0 r1.length), (15, i64 ((r1.length : Nat) : Int)), (16, i64 v5), (28, oref 0 u2 0 L4.length), (29, i64 ((L4.length : Nat) : Int)), (30, b false), (31, b false)]) (Γ' := [⟨u2, some (L4.map f32)⟩, ⟨1, some (r1.map str)⟩, ⟨u3, none⟩]) ⟨aR, aR, aR, aR, aR, aR, aR, aR, aR, trivial⟩ ⟨⟨rfl, .inr rfl⟩, ⟨rfl, .inr rfl⟩, ⟨rfl, .inl rfl⟩, trivial⟩ ?_
      refine RunC.cond_false rfl rfl ?_
      refine RunC.skip ?_
      obtain ⟨hm8, h2_⟩ := need_some h2_
      refine RunC.regionW ?_
      refine zM (r := oref 0 u2 0 L4.length) rfl rfl rfl rfl rfl ?_
      refine zM (r := f32 r7) rfl rfl rfl rfl rfl ?_
      refine ROps.d (r := oref 2 (u3 + 1) 0 1) (fs := [(2, (([r7] : List F).map f32))]) (Γ' := [⟨u2, some (L4.map f32)⟩, ⟨1, some (r1.map str)⟩, ⟨(u3 + 1), some (([r7] : List F).map f32)⟩]) rfl rfl rfl (TOp.buildSlice_o (g := ⟨u3, none⟩) (za := f32 (some 0)) (qs := [(0, [f32 r7])]) 2 rfl und22 siz51 zer51 rfl zel51 rfl rfl ⟨rfl, ⟨_, ALe.refl _, rfl⟩, trivial⟩ rfl) rfl ?_
      refine ROps.app (f := f32) (xs := L4) (ys := ([r7] : List F)) (Γ' := [⟨(u2 + 1), some ((L4 ++ ([r7] : List F)).map f32)⟩, ⟨1, some (r1.map str)⟩, ⟨(u3 + 1), some (([r7] : List F).map f32)⟩]) rfl pun22 inf51 rfl rfl rfl rfl rfl rfl rfl rfl rfl (by simp) (ReadAs.own rfl (by simp)) (ones_map (fun _ => rfl)) (ap_by hm8) (ap_mx hm8) rfl ?_
      refine zA (r := oref 0 (u2 + 1) 0 (L4.length + 1)) rfl rfl rfl rfl rfl ?_
      refine zN ?_
      refine RunC.wl (τ' := [(4, oref 0 (u2 + 1) 0 (L4.length + 1)), (14, oref 1 1 0 r1.length), (15, i64 ((r1.length : Nat) : Int)), (16, i64 v5), (28, oref 0 u2 0 L4.length), (29, i64 ((L4.length : Nat) : Int)), (30, b false)]) (Γ' := [⟨(u2 + 1), some ((L4 ++ ([r7] : List F)).map f32)⟩, ⟨1, some (r1.map str)⟩, ⟨(u3 + 1), none⟩]) ⟨aR, aR, aR, aR, aR, aR, aR, trivial⟩ ⟨⟨rfl, .inr rfl⟩, ⟨rfl, .inr rfl⟩, ⟨rfl, .inl rfl⟩, trivial⟩ ?_
      obtain ⟨x9, hx9, h2_⟩ := olet_some h2_
      refine RunC.regionW ?_
      refine zL (r := i64 x9) rfl rfl rfl (LOp.eqr (LOp.add rfl rfl rfl) (congrArg (ik .i64) hx9)) ?_
      refine zM (r := i64 x9) rfl rfl rfl rfl rfl ?_
      refine zN ?_
      cases Option.some.inj h2_
      exact ⟨_, rfl, (u2 + 1), (u3 + 1), ⟨(ALe.eq (by rw [(app_len rfl rfl)] <;> rfl)), aR, aR, aR, trivial⟩, ⟨⟨rfl, .inr rfl⟩, ⟨rfl, .inr rfl⟩, ⟨rfl, .inl rfl⟩, trivial⟩⟩
    ·refine RunC.regionW ?_
     refine zM (r := str e6) rfl rfl rfl rfl rfl ?_
     refine ROps.d (r := tup [f32 r7, b r8]) (fs := []) (Γ' := [⟨u2, some (L4.map f32)⟩, ⟨1, some (r1.map str)⟩, ⟨u3, none⟩]) rfl rfl rfl (TOp.callB (CallAs.func ent30 rfl rfl) (Bors.cons (Bor.pure rfl) Bors.nil) rfl rfl (i_fromDigits_ok e6 r7 r8 hf5)) rfl ?_
     refine zM (r := tup [f32 r7, b r8]) rfl rfl rfl rfl rfl ?_
     refine zL (r := f32 r7) rfl rfl rfl (LOp.extract rfl rfl rfl) ?_
     refine zL (r := b false) rfl rfl rfl (LOp.eqb (LOp.extract rfl rfl rfl) hc6) ?_
     refine zA (r := f32 r7) rfl rfl rfl rfl rfl ?_
     refine zA (r := b false) rfl rfl rfl rfl rfl ?_
     refine zN ?_
     refine RunC.seq ?_
     refine zQ ?_
     refine zM (r := b false) rfl rfl rfl rfl rfl ?_
     refine zL (r := b true) rfl rfl rfl (LOp.eqb (LOp.not rfl rfl) rfl) ?_
     refine zM (r := b true) rfl rfl rfl rfl rfl ?_
     refine ROps.s rfl rfl rfl ?_
     refine ROps.s rfl rfl rfl ?_
     refine ROps.s rfl rfl rfl ?_
     refine zL (r := b true) rfl rfl rfl (LOp.pick_true rfl rfl rfl) ?_
     refine zN ?_
     refine RunC.wl (τ' := [(4, oref 0 u2 0 L4.length), (7, f32 r7), (14, oref 1 1 0 r1.length), (15, i64 ((r1.length : Nat) : Int)), (16, i64 v5), (31, b true)]) (Γ' := [⟨u2, some (L4.map f32)⟩, ⟨1, some (r1.map str)⟩, ⟨u3, none⟩]) ⟨aR, aR, aR, aR, aR, aR, trivial⟩ ⟨⟨rfl, .inr rfl⟩, ⟨rfl, .inr rfl⟩, ⟨rfl, .inl rfl⟩, trivial⟩ ?_
     refine RunC.cond_true rfl rfl ?_
     refine zQ ?_
     refine zA (r := nilsl) rfl rfl rfl rfl rfl ?_
     refine zA (r := b false) rfl rfl rfl rfl rfl ?_
     refine zN ?_
     refine RunC.nil_slot (Γ' := [⟨u2, some (L4.map f32)⟩, ⟨1, some (r1.map str)⟩, ⟨(u3 + 1), some (([] : List F).map f32)⟩]) 2 2 rfl rfl rfl ?_
     refine RunC.ret ?_
     cases Option.some.inj h2_
     have hx4_ := hr2 _ rfl
     subst hx4_
     have hq := Option.some.inj h
     obtain ⟨hq0, hq⟩ := Prod.mk.inj hq
     subst q0
     subst q1
     exact bodyQ.mk (r' := tup [oref 2 (u3 + 1) 0 (([] : List F).length), b false]) [(2, (u3 + 1))] (.inr rfl) rfl (show List.Nodup [2] from by decide) (by simp [ren, rens, sigma]) rfl (Res.eq (Res.two rfl (RV.tmp rfl) (RV.tmp rfl)) (by rw [(show ([] : List F).length = 0 from rfl)] <;> rfl)) (SelL.arr0 (f := f32) (fun _ => rfl) rfl trivial)
   ·refine RunC.regionW ?_
    refine zL (r := b false) rfl rfl rfl (LOp.eqb (LOp.lss rfl rfl rfl) hc3) ?_
    refine zN ?_
    refine RunC.seq ?_
    refine RunC.cond_false rfl rfl ?_
    refine RunC.exit ?_
    cases Option.some.inj h2_
    have hx := ho2 _ rfl
    exact ⟨L4, u2, u3, ⟨aR, trivial⟩, ⟨⟨rfl, .inr rfl⟩, ⟨rfl, .inl rfl⟩, ⟨rfl, .inl rfl⟩, trivial⟩, hx⟩
  ·rintro τ5 Γ5 ⟨L12, u10, u11, hw5, hd5, rfl⟩
   refine RunC.wl hw5 hd5 ?_
   replace h : i_ReadNumbers_k1 L12 = some (q0, q1) := h
   unfold i_ReadNumbers_k1 at h
   refine zQ ?_
   refine zM (r := oref 0 u10 0 L12.length) rfl rfl rfl rfl rfl ?_
   refine zA (r := oref 0 u10 0 L12.length) rfl rfl rfl rfl rfl ?_
   refine zA (r := b true) rfl rfl rfl rfl rfl ?_
   refine zN ?_
   refine RunC.ret ?_
   have hq := Option.some.inj h
   obtain ⟨hq0, hq⟩ := Prod.mk.inj hq
   subst q0
   subst q1
   exact bodyQ.mk (r' := tup [oref 0 u10 0 L12.length, b true]) [(0, u10)] (.inr rfl) rfl (show List.Nodup [0] from by decide) (by simp [ren, rens, sigma]) rfl (Res.two rfl (RV.tmp rfl) (RV.tmp rfl)) (SelL.arr0 (f := f32) (fun _ => rfl) rfl trivial)
noncomputable def i_isSide (a0 : Int) : Option (Bool) :=
 obind (i_inRange a0 1 12) fun (r1 : Bool) =>
 some r1
theorem i_isSide_ok (a0 : Int) (q0 : Bool) (h : i_isSide a0 = some q0) : Ev Tryz.prog 31 [i64 a0] [] (b q0) [] := by
 refine Ev.start Tryz.func31 rfl rfl 0 (τ := [(0, i64 a0)]) rfl (Γ' := []) rfl (n := 11) rfl (g := 0) rfl (fun _ => rfl) ?_
 unfold i_isSide at h
 refine zQ ?_
 refine zA (r := b false) rfl rfl rfl rfl rfl ?_
 refine zN ?_
 refine RunC.seq ?_
 obtain ⟨r1, hf1, h⟩ := obind_some h
 refine RunC.regionW ?_
 refine zM (r := i64 a0) rfl rfl rfl rfl rfl ?_
 refine ROps.d (r := b r1) (fs := []) (Γ' := []) rfl rfl rfl (TOp.callB (CallAs.func ent47 rfl rfl) (Bors.cons (Bor.pure rfl) (Bors.cons (Bor.pure rfl) (Bors.cons (Bor.pure rfl) Bors.nil))) rfl rfl (i_inRange_ok a0 1 12 r1 hf1)) rfl ?_
 refine zA (r := b r1) rfl rfl rfl rfl rfl ?_
 refine zN ?_
 refine RunC.ret ?_
 have hq := Option.some.inj h
 subst q0
 exact bodyQ.pure (.inr rfl) rfl (Res.one rfl (RV.tmp rfl))
noncomputable def i_length_float32 (a0 : List F) : Option (Int) :=
 some (a0.length : Int)
theorem i_length_float32_ok (a0 : List F) (q0 : Int) (h : i_length_float32 a0 = some q0) : Ev Tryz.prog 32 [sl a0.length (a0.map f32)] [] (i64 q0) [] := by
 refine Ev.start Tryz.func32 rfl rfl 0 (τ := [(0, sl a0.length (a0.map f32))]) rfl (Γ' := []) rfl (n := 11) rfl (g := 0) rfl (fun _ => rfl) ?_
 unfold i_length_float32 at h
 refine zQ ?_
 refine zA (r := i64 0) rfl rfl rfl rfl rfl ?_
 refine zN ?_
 refine zQ ?_
 refine zM (r := sl a0.length (a0.map f32)) rfl rfl rfl rfl rfl ?_
 refine zL (r := i64 (a0.length : Int)) rfl rfl rfl (LOp.len_sl und22 rfl rfl) ?_
 refine zA (r := i64 (a0.length : Int)) rfl rfl rfl rfl rfl ?_
 refine zN ?_
 refine RunC.ret ?_
 have hq := Option.some.inj h
 subst q0
 exact bodyQ.pure (.inr rfl) rfl (Res.one rfl (RV.tmp rfl))
noncomputable def x_math_IsNaN (a0 : F) : Option (Bool) :=
 some (!feq .f64 a0 a0)
theorem x_math_IsNaN_ok (a0 : F) (q0 : Bool) (h : x_math_IsNaN a0 = some q0) : Ev Tryz.prog 92 [f64 a0] [] (b q0) [] := by
 refine Ev.start Tryz.func92 rfl rfl 0 (τ := [(0, f64 a0)]) rfl (Γ' := []) rfl (n := 13) rfl (g := 0) rfl (fun _ => rfl) ?_
 unfold x_math_IsNaN at h
 refine zQ ?_
 refine zA (r := b false) rfl rfl rfl rfl rfl ?_
 refine zN ?_
 refine zQ ?_
 refine zM (r := f64 a0) rfl rfl rfl rfl rfl ?_
 refine zM (r := f64 a0) rfl rfl rfl rfl rfl ?_
 refine zL (r := b (!feq .f64 a0 a0)) rfl rfl rfl (LOp.fne rfl (OpF.tmp rfl) (OpF.tmp rfl)) ?_
 refine zA (r := b (!feq .f64 a0 a0)) rfl rfl rfl rfl rfl ?_
 refine zN ?_
 refine RunC.ret ?_
 have hq := Option.some.inj h
 subst q0
 exact bodyQ.pure (.inr rfl) rfl (Res.one rfl (RV.tmp rfl))
end Go.Proofs.YticpoofjnfiebaaGreatDoor
