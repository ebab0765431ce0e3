/- Generated. -/
import Derived.Test.YtcjbfpoaidjpaaaGreatDoorG0
namespace Go.Proofs.YtcjbfpoaidjpaaaGreatDoor
open Go Go.AM Go.AM.AV
set_option maxRecDepth 20000
set_option maxHeartbeats 4000000
set_option linter.unusedVariables false
set_option linter.unusedSimpArgs false
noncomputable def x_internal_strconv_ParseUint_k2 (v1 : Int) (v2 : Int) (v26 : Int) : Option (LR (Int × Int) (Int) ((Int) ⊕ (Int) ⊕ (Int))) :=
 bsel (decide (16 ≤ v26)) (
  some (LR.ret (Sum.inl 0))) (
  bsel (decide (1152921504606846976 ≤ v1)) (
   some (LR.ret (Sum.inr (Sum.inl 4294967295)))) (
   olet (IntKind.u64.wrap (v1 * 16)) fun (x27 : Int) =>
   olet (IntKind.u64.wrap v26) fun (x28 : Int) =>
   olet (IntKind.u64.wrap (x27 + x28)) fun (x29 : Int) =>
   bsel (decide (x29 < x27)) (
    some (LR.ret (Sum.inr (Sum.inl 4294967295)))) (
    bsel (decide (4294967295 < x29)) (
     some (LR.ret (Sum.inr (Sum.inl 4294967295)))) (
     olet (IntKind.i64.wrap (v2 + 1)) fun (x30 : Int) =>
     some (LR.next (x29, x30))))))
noncomputable def x_internal_strconv_ParseUint_b3 (a0 : ByteArray) (v1 : Int) (v2 : Int) : Option (LR (Int × Int) (Int) ((Int) ⊕ (Int) ⊕ (Int))) :=
 bsel (decide (v2 < ((bytI a0).length : Int))) (
  obind (at? (bytI a0) v2) fun (e3 : Int) =>
  bsel (decide (e3 = 95)) (
   bsel (decide (48 ≤ e3)) (
    bsel (decide (e3 ≤ 57)) (
     olet (IntKind.u8.wrap (e3 - 48)) fun (x4 : Int) =>
     x_internal_strconv_ParseUint_k2 v1 v2 x4) (
     obind (x_internal_strconv_lower e3) fun (r5 : Int) =>
     bsel (decide (97 ≤ r5)) (
      obind (x_internal_strconv_lower e3) fun (r6 : Int) =>
      bsel (decide (r6 ≤ 122)) (
       obind (x_internal_strconv_lower e3) fun (r7 : Int) =>
       olet (IntKind.u8.wrap (r7 - 97)) fun (x8 : Int) =>
       olet (IntKind.u8.wrap (x8 + 10)) fun (x9 : Int) =>
       x_internal_strconv_ParseUint_k2 v1 v2 x9) (
       some (LR.ret (Sum.inl 0)))) (
      some (LR.ret (Sum.inl 0))))) (
    obind (x_internal_strconv_lower e3) fun (r10 : Int) =>
    bsel (decide (97 ≤ r10)) (
     obind (x_internal_strconv_lower e3) fun (r11 : Int) =>
     bsel (decide (r11 ≤ 122)) (
      obind (x_internal_strconv_lower e3) fun (r12 : Int) =>
      olet (IntKind.u8.wrap (r12 - 97)) fun (x13 : Int) =>
      olet (IntKind.u8.wrap (x13 + 10)) fun (x14 : Int) =>
      x_internal_strconv_ParseUint_k2 v1 v2 x14) (
      some (LR.ret (Sum.inl 0)))) (
     some (LR.ret (Sum.inl 0))))) (
   bsel (decide (48 ≤ e3)) (
    bsel (decide (e3 ≤ 57)) (
     olet (IntKind.u8.wrap (e3 - 48)) fun (x15 : Int) =>
     x_internal_strconv_ParseUint_k2 v1 v2 x15) (
     obind (x_internal_strconv_lower e3) fun (r16 : Int) =>
     bsel (decide (97 ≤ r16)) (
      obind (x_internal_strconv_lower e3) fun (r17 : Int) =>
      bsel (decide (r17 ≤ 122)) (
       obind (x_internal_strconv_lower e3) fun (r18 : Int) =>
       olet (IntKind.u8.wrap (r18 - 97)) fun (x19 : Int) =>
       olet (IntKind.u8.wrap (x19 + 10)) fun (x20 : Int) =>
       x_internal_strconv_ParseUint_k2 v1 v2 x20) (
       some (LR.ret (Sum.inl 0)))) (
      some (LR.ret (Sum.inl 0))))) (
    obind (x_internal_strconv_lower e3) fun (r21 : Int) =>
    bsel (decide (97 ≤ r21)) (
     obind (x_internal_strconv_lower e3) fun (r22 : Int) =>
     bsel (decide (r22 ≤ 122)) (
      obind (x_internal_strconv_lower e3) fun (r23 : Int) =>
      olet (IntKind.u8.wrap (r23 - 97)) fun (x24 : Int) =>
      olet (IntKind.u8.wrap (x24 + 10)) fun (x25 : Int) =>
      x_internal_strconv_ParseUint_k2 v1 v2 x25) (
      some (LR.ret (Sum.inl 0)))) (
     some (LR.ret (Sum.inl 0)))))) (
  some (LR.out v1))
noncomputable def x_internal_strconv_ParseUint_s3 (a0 : ByteArray) : (Int × Int) → Option (LR (Int × Int) (Int) ((Int) ⊕ (Int) ⊕ (Int))) := fun s => x_internal_strconv_ParseUint_b3 a0 s.1 s.2
noncomputable def x_internal_strconv_ParseUint_k3 (v31 : Int) : Option ((Int) ⊕ (Int) ⊕ (Int)) :=
 some (Sum.inr (Sum.inr v31))
noncomputable def x_internal_strconv_ParseUint (a0 : ByteArray) : Option ((Int) ⊕ (Int) ⊕ (Int)) :=
 bsel (eqs a0 lit_99ba06bc) (
  some (Sum.inl 0)) (
  obind (loopM (x_internal_strconv_ParseUint_s3 a0) (0, 0)) fun z => osum z (fun e => x_internal_strconv_ParseUint_k3 e) (fun r => some r))
theorem x_internal_strconv_ParseUint_ok0 (a0 : ByteArray) (q0 : Int) (h : x_internal_strconv_ParseUint a0 = some (Sum.inl q0)) : Ev Tryz.prog 104 [str a0, i64 16, i64 32] [] (tup [ik .u64 q0, x (.iface 140 (.int .i64 2))]) [] := by
 refine Ev.start Tryz.func104 rfl rfl 0 (τ := [(0, str a0), (1, i64 16), (2, i64 32)]) rfl (Γ' := []) rfl (n := 345) rfl (g := 0) rfl (fun _ => rfl) ?_
 unfold x_internal_strconv_ParseUint at h
 refine zQ ?_
 refine za (r := ik .u64 0) ?_
 refine za (r := x .nilIface) ?_
 refine zN ?_
 iterate 2 (refine RunC.seq ?_)
 rcases bsel_some h with ⟨hc1, h⟩ | ⟨hc1, h⟩
 ·refine RunC.regionW ?_
  refine zm (r := str a0) ?_
  refine zl (r := b true) (LOp.eqb (LOp.eqs rfl rfl rfl) hc1) ?_
  refine zN ?_
  refine RunC.cond_true rfl rfl ?_
  refine zQ ?_
  refine zl (r := x (.iface 140 (.int .i64 2))) (LOp.mkif (v := .int .i64 2) und140 rfl rfl) ?_
  refine za (r := ik .u64 0) ?_
  refine za (r := x (.iface 140 (.int .i64 2))) ?_
  refine zN ?_
  refine RunC.ret ?_
  have hq := Option.some.inj h
  have hq := Sum.inl.inj hq
  subst q0
  exact bodyQ.pure (.inr rfl) rfl (Res.two rfl (RV.tmp rfl) (RV.tmp rfl))
 ·refine RunC.regionW ?_
  refine zm (r := str a0) ?_
  refine zl (r := b false) (LOp.eqb (LOp.eqs rfl rfl rfl) hc1) ?_
  refine zN ?_
  refine RunC.cond_false rfl rfl ?_
  refine RunC.skip ?_
  refine zQ ?_
  refine zm (r := i64 16) ?_
  refine zl (r := b false) ((show LOp _ _ _ (b (decide ((16 : Int) = 0))) from LOp.eql rfl rfl rfl)) ?_
  refine za (r := b false) ?_
  refine zN ?_
  refine zQ ?_
  refine zm (r := str a0) ?_
  refine za (r := str a0) ?_
  refine zN ?_
  refine RunC.seq ?_
  refine RunC.block ?_
  refine zQ ?_
  refine zm (r := i64 16) ?_
  refine zl (r := b true) ((show LOp _ _ _ (b (decide ((2 : Int) ≤ 16))) from LOp.leq rfl rfl rfl)) ?_
  refine zm (r := b true) ?_
  refine zm (r := i64 16) ?_
  refine zl (r := b true) ((show LOp _ _ _ (b (decide ((16 : Int) ≤ 36))) from LOp.leq rfl rfl rfl)) ?_
  refine zl (r := b true) (LOp.pick_true rfl rfl rfl) ?_
  refine za (r := b true) ?_
  refine zN ?_
  refine RunC.cond_true rfl rfl ?_
  refine RunC.skip ?_
  refine RunC.seq ?_
  refine zQ ?_
  refine zm (r := i64 32) ?_
  refine zl (r := b false) ((show LOp _ _ _ (b (decide ((32 : Int) = 0))) from LOp.eql rfl rfl rfl)) ?_
  refine zN ?_
  refine RunC.cond_false rfl rfl ?_
  refine zQ ?_
  refine zm (r := i64 32) ?_
  refine zl (r := b false) ((show LOp _ _ _ (b (decide ((32 : Int) < 0))) from LOp.lss rfl rfl rfl)) ?_
  refine zm (r := b false) ?_
  refine zm (r := i64 32) ?_
  refine zl (r := b false) ((show LOp _ _ _ (b (decide ((64 : Int) < 32))) from LOp.gtr rfl rfl rfl)) ?_
  refine zl (r := b false) (LOp.pick_false rfl rfl rfl) ?_
  refine zN ?_
  refine RunC.cond_false rfl rfl ?_
  refine RunC.skip ?_
  refine zQ ?_
  refine za (r := ik .u64 0) ?_
  refine zN ?_
  refine RunC.seq ?_
  refine zQ ?_
  refine zm (r := i64 16) ?_
  refine zN ?_
  refine RunC.block ?_
  refine zQ ?_
  refine zl (r := b false) ((show LOp _ _ _ (b (decide ((16 : Int) = 10))) from LOp.eql rfl rfl rfl)) ?_
  refine za (r := b false) ?_
  refine zN ?_
  refine RunC.cond_false rfl rfl ?_
  refine zQ ?_
  refine zl (r := b true) ((show LOp _ _ _ (b (decide ((16 : Int) = 16))) from LOp.eql rfl rfl rfl)) ?_
  refine za (r := b true) ?_
  refine zN ?_
  refine RunC.wl (τ' := [(0, str a0), (1, i64 16), (2, i64 32), (8, b false), (9, str a0), (92, b true)]) (Γ' := []) ⟨aR, aR, aR, aR, aR, aR, trivial⟩ trivial ?_
  refine RunC.cond_true rfl rfl ?_
  refine RunC.regionW ?_
  refine za (r := ik .u64 1152921504606846976) ?_
  refine zN ?_
  refine zQ ?_
  refine zm (r := i64 32) ?_
  refine zl (r := ik .u64 32) ((show LOp _ _ _ (ik .u64 (IntKind.u64.wrap 32)) from LOp.i2i (src := 3) (dst := 106) ⟨_, pun3⟩ pun106 rfl rfl)) ?_
  refine zl (r := ik .u64 4294967296) ((show LOp _ _ _ (ik .u64 (ishl .u64 1 32)) from LOp.shl rfl rfl rfl (by decide))) ?_
  refine zl (r := ik .u64 4294967295) ((show LOp _ _ _ (ik .u64 (IntKind.u64.wrap (4294967296 - 1))) from LOp.sub rfl rfl rfl)) ?_
  refine za (r := ik .u64 4294967295) ?_
  refine zN ?_
  refine zQ ?_
  refine za (r := b false) ?_
  refine zN ?_
  refine zQ ?_
  refine za (r := ik .u64 0) ?_
  refine zN ?_
  refine RunC.seq ?_
  refine zQ ?_
  refine zm (r := str a0) ?_
  refine ROps.d (r := sl (bytI a0).length ((bytI a0).map (ik .u8))) (fs := []) (Γ' := []) rfl rfl rfl (TOp.s2b pun9 pun22 pun5 rfl rfl) rfl ?_
  refine zl (r := i64 ((bytI a0).length : Int)) (LOp.len_sl und22 rfl rfl) ?_
  refine zm (r := i64 0) ?_
  refine zN ?_
  obtain ⟨z4, hz_4, h⟩ := obind_some h
  refine RunC.cutN (fun τ Γ => ∃ (v31 : Int), WeakLe τ [(9, str a0), (12, b false), (13, ik .u64 v31)] ∧ DeadLe Γ [] ∧ z4 = .inl v31) ?_ ?_
  ·refine RunC.block (RunC.loop (RunL.loopM (x := z4) (x_internal_strconv_ParseUint_s3 a0) (fun (s : Int × Int) τ Γ => WeakLe τ [(1, i64 16), (8, b false), (9, str a0), (10, ik .u64 1152921504606846976), (11, ik .u64 4294967295), (12, b false), (13, ik .u64 s.1), (99, sl (bytI a0).length ((bytI a0).map (ik .u8))), (100, i64 ((bytI a0).length : Int)), (101, i64 s.2)] ∧ DeadLe Γ []) ?_ _ _ _ hz_4 ⟨⟨aR, aR, aR, aR, aR, aR, aR, aR, aR, aR, trivial⟩, trivial⟩))
   rintro ⟨v1, v2⟩ τ4 Γ4 y4_ ⟨hw4, hd4⟩ h4_ ho4 hr4
   refine RunC.wl (τ' := [(1, i64 16), (8, b false), (9, str a0), (10, ik .u64 1152921504606846976), (11, ik .u64 4294967295), (12, b false), (13, ik .u64 v1), (99, sl (bytI a0).length ((bytI a0).map (ik .u8))), (100, i64 ((bytI a0).length : Int)), (101, i64 v2)]) (Γ' := []) hw4 hd4 ?_
   replace h4_ : x_internal_strconv_ParseUint_b3 a0 v1 v2 = some y4_ := h4_
   unfold x_internal_strconv_ParseUint_b3 at h4_
   refine RunC.seq ?_
   rcases bsel_some h4_ with ⟨hc2, h4_⟩ | ⟨hc2, h4_⟩
   ·refine RunC.regionW ?_
    refine zl (r := b true) (LOp.eqb (LOp.lss rfl rfl rfl) hc2) ?_
    refine zN ?_
    refine RunC.seq ?_
    refine RunC.cond_true rfl rfl ?_
    refine RunC.skip ?_
    refine RunC.seq ?_
    refine RunC.block ?_
    refine RunC.seq ?_
    obtain ⟨e3, he3, h4_⟩ := obind_some h4_
    refine RunC.regionW ?_
    refine zl (r := ptr [ik .u8 e3]) (LOp.le (LOp.ix (f := (ik .u8)) und22 siz5 rfl rfl rfl rfl he3) ALe.ptr) ?_
    refine zl (r := ik .u8 e3) (LOp.load1 agg5 rfl rfl) ?_
    refine za (r := ik .u8 e3) ?_
    refine zN ?_
    refine zQ ?_
    refine za (r := ik .u8 0) ?_
    refine zN ?_
    refine RunC.seq ?_
    refine RunC.cutN (fun τ Γ => ∃ (v26 : Int), WeakLe τ [(1, i64 16), (8, b false), (9, str a0), (10, ik .u64 1152921504606846976), (11, ik .u64 4294967295), (12, b false), (13, ik .u64 v1), (16, ik .u8 v26), (99, sl (bytI a0).length ((bytI a0).map (ik .u8))), (100, i64 ((bytI a0).length : Int)), (101, i64 v2)] ∧ DeadLe Γ [] ∧ x_internal_strconv_ParseUint_k2 v1 v2 v26 = some y4_) ?_ ?_
    ·refine RunC.block ?_
     refine RunC.seq ?_
     rcases bsel_some h4_ with ⟨hc4, h4_⟩ | ⟨hc4, h4_⟩
     ·refine RunC.regionW ?_
      refine zm (r := ik .u8 e3) ?_
      refine zl (r := b true) (LOp.eqb (LOp.eql rfl rfl rfl) hc4) ?_
      refine zm (r := b true) ?_
      refine zm (r := b false) ?_
      refine zl (r := b false) (LOp.pick_true rfl rfl rfl) ?_
      refine za (r := b false) ?_
      refine zN ?_
      refine RunC.cond_false rfl rfl ?_
      refine RunC.seq ?_
      rcases bsel_some h4_ with ⟨hc5, h4_⟩ | ⟨hc5, h4_⟩
      ·rcases bsel_some h4_ with ⟨hc6, h4_⟩ | ⟨hc6, h4_⟩
       ·refine RunC.regionW ?_
        refine zm (r := ik .u8 e3) ?_
        refine zl (r := b true) (LOp.eqb (LOp.leq rfl rfl rfl) hc5) ?_
        refine zm (r := b true) ?_
        refine zm (r := ik .u8 e3) ?_
        refine zl (r := b true) (LOp.eqb (LOp.leq rfl rfl rfl) hc6) ?_
        refine zl (r := b true) (LOp.pick_true rfl rfl rfl) ?_
        refine za (r := b true) ?_
        refine zN ?_
        refine RunC.cond_true rfl rfl ?_
        obtain ⟨x4, hx7, h4_⟩ := olet_some h4_
        refine RunC.regionW ?_
        refine zm (r := ik .u8 e3) ?_
        refine zl (r := ik .u8 x4) (LOp.eqr (LOp.sub rfl rfl rfl) (congrArg (ik .u8) hx7)) ?_
        refine za (r := ik .u8 x4) ?_
        refine zN ?_
        exact ⟨x4, ⟨aR, aR, aR, aR, aR, aR, aR, aR, aR, aR, aR, trivial⟩, trivial, h4_⟩
       ·refine RunC.regionW ?_
        refine zm (r := ik .u8 e3) ?_
        refine zl (r := b true) (LOp.eqb (LOp.leq rfl rfl rfl) hc5) ?_
        refine zm (r := b true) ?_
        refine zm (r := ik .u8 e3) ?_
        refine zl (r := b false) (LOp.eqb (LOp.leq rfl rfl rfl) hc6) ?_
        refine zl (r := b false) (LOp.pick_true rfl rfl rfl) ?_
        refine za (r := b false) ?_
        refine zN ?_
        refine RunC.cond_false rfl rfl ?_
        refine RunC.seq ?_
        obtain ⟨r5, hf8, h4_⟩ := obind_some h4_
        rcases bsel_some h4_ with ⟨hc9, h4_⟩ | ⟨hc9, h4_⟩
        ·obtain ⟨r6, hf10, h4_⟩ := obind_some h4_
         rcases bsel_some h4_ with ⟨hc11, h4_⟩ | ⟨hc11, h4_⟩
         ·refine RunC.regionW ?_
          refine zm (r := ik .u8 e3) ?_
          refine ROps.d (r := ik .u8 r5) (fs := []) (Γ' := []) rfl rfl rfl (TOp.callB (CallAs.func ent124 rfl rfl) (Bors.cons (Bor.pure rfl) Bors.nil) rfl rfl (x_internal_strconv_lower_ok e3 r5 hf8)) rfl ?_
          refine zl (r := b true) (LOp.eqb (LOp.leq rfl rfl rfl) hc9) ?_
          refine zm (r := b true) ?_
          refine zm (r := ik .u8 e3) ?_
          refine ROps.d (r := ik .u8 r6) (fs := []) (Γ' := []) rfl rfl rfl (TOp.callB (CallAs.func ent124 rfl rfl) (Bors.cons (Bor.pure rfl) Bors.nil) rfl rfl (x_internal_strconv_lower_ok e3 r6 hf10)) rfl ?_
          refine zl (r := b true) (LOp.eqb (LOp.leq rfl rfl rfl) hc11) ?_
          refine zl (r := b true) (LOp.pick_true rfl rfl rfl) ?_
          refine za (r := b true) ?_
          refine zN ?_
          refine RunC.wl (τ' := [(1, i64 16), (8, b false), (9, str a0), (10, ik .u64 1152921504606846976), (11, ik .u64 4294967295), (12, b false), (13, ik .u64 v1), (15, ik .u8 e3), (99, sl (bytI a0).length ((bytI a0).map (ik .u8))), (100, i64 ((bytI a0).length : Int)), (101, i64 v2), (110, b false), (116, ik .u8 e3), (117, b false), (121, b true), (126, ik .u8 e3), (127, ik .u8 r6), (128, b true)]) (Γ' := []) ⟨aR, aR, aR, aR, aR, aR, aR, aR, aR, aR, aR, aR, aR, aR, aR, aR, aR, aR, trivial⟩ trivial ?_
          refine RunC.cond_true rfl rfl ?_
          obtain ⟨r7, hf12, h4_⟩ := obind_some h4_
          obtain ⟨x8, hx13, h4_⟩ := olet_some h4_
          obtain ⟨x9, hx14, h4_⟩ := olet_some h4_
          refine RunC.regionW ?_
          refine zm (r := ik .u8 e3) ?_
          refine ROps.d (r := ik .u8 r7) (fs := []) (Γ' := []) rfl rfl rfl (TOp.callB (CallAs.func ent124 rfl rfl) (Bors.cons (Bor.pure rfl) Bors.nil) rfl rfl (x_internal_strconv_lower_ok e3 r7 hf12)) rfl ?_
          refine zl (r := ik .u8 x8) (LOp.eqr (LOp.sub rfl rfl rfl) (congrArg (ik .u8) hx13)) ?_
          refine zl (r := ik .u8 x9) (LOp.eqr (LOp.add rfl rfl rfl) (congrArg (ik .u8) hx14)) ?_
          refine za (r := ik .u8 x9) ?_
          refine zN ?_
          exact ⟨x9, ⟨aR, aR, aR, aR, aR, aR, aR, aR, aR, aR, aR, trivial⟩, trivial, h4_⟩
         ·refine RunC.regionW ?_
          refine zm (r := ik .u8 e3) ?_
          refine ROps.d (r := ik .u8 r5) (fs := []) (Γ' := []) rfl rfl rfl (TOp.callB (CallAs.func ent124 rfl rfl) (Bors.cons (Bor.pure rfl) Bors.nil) rfl rfl (x_internal_strconv_lower_ok e3 r5 hf8)) rfl ?_
          refine zl (r := b true) (LOp.eqb (LOp.leq rfl rfl rfl) hc9) ?_
          refine zm (r := b true) ?_
          refine zm (r := ik .u8 e3) ?_
          refine ROps.d (r := ik .u8 r6) (fs := []) (Γ' := []) rfl rfl rfl (TOp.callB (CallAs.func ent124 rfl rfl) (Bors.cons (Bor.pure rfl) Bors.nil) rfl rfl (x_internal_strconv_lower_ok e3 r6 hf10)) rfl ?_
          refine zl (r := b false) (LOp.eqb (LOp.leq rfl rfl rfl) hc11) ?_
          refine zl (r := b false) (LOp.pick_true rfl rfl rfl) ?_
          refine za (r := b false) ?_
          refine zN ?_
          refine RunC.wl (τ' := [(1, i64 16), (8, b false), (9, str a0), (10, ik .u64 1152921504606846976), (11, ik .u64 4294967295), (12, b false), (13, ik .u64 v1), (15, ik .u8 e3), (99, sl (bytI a0).length ((bytI a0).map (ik .u8))), (100, i64 ((bytI a0).length : Int)), (101, i64 v2), (110, b false), (116, ik .u8 e3), (117, b false), (121, b false), (126, ik .u8 e3), (127, ik .u8 r6), (128, b false)]) (Γ' := []) ⟨aR, aR, aR, aR, aR, aR, aR, aR, aR, aR, aR, aR, aR, aR, aR, aR, aR, aR, trivial⟩ trivial ?_
          refine RunC.cond_false rfl rfl ?_
          refine zQ ?_
          refine zl (r := x (.iface 140 (.int .i64 2))) (LOp.mkif (v := .int .i64 2) und140 rfl rfl) ?_
          refine za (r := ik .u64 0) ?_
          refine za (r := x (.iface 140 (.int .i64 2))) ?_
          refine zN ?_
          refine RunC.ret ?_
          cases Option.some.inj h4_
          have hx5_ := hr4 _ rfl
          subst hx5_
          have hq := Option.some.inj h
          have hq := Sum.inl.inj hq
          subst q0
          exact bodyQ.pure (.inr rfl) rfl (Res.two rfl (RV.tmp rfl) (RV.tmp rfl))
        ·refine RunC.regionW ?_
         refine zm (r := ik .u8 e3) ?_
         refine ROps.d (r := ik .u8 r5) (fs := []) (Γ' := []) rfl rfl rfl (TOp.callB (CallAs.func ent124 rfl rfl) (Bors.cons (Bor.pure rfl) Bors.nil) rfl rfl (x_internal_strconv_lower_ok e3 r5 hf8)) rfl ?_
         refine zl (r := b false) (LOp.eqb (LOp.leq rfl rfl rfl) hc9) ?_
         refine zm (r := b false) ?_
         iterate 3 (refine ROps.s rfl rfl rfl ?_)
         refine zl (r := b false) (LOp.pick_false rfl rfl rfl) ?_
         refine za (r := b false) ?_
         refine zN ?_
         refine RunC.wl (τ' := [(1, i64 16), (8, b false), (9, str a0), (10, ik .u64 1152921504606846976), (11, ik .u64 4294967295), (12, b false), (13, ik .u64 v1), (15, ik .u8 e3), (99, sl (bytI a0).length ((bytI a0).map (ik .u8))), (100, i64 ((bytI a0).length : Int)), (101, i64 v2), (110, b false), (116, ik .u8 e3), (117, b false), (121, b false)]) (Γ' := []) ⟨aR, aR, aR, aR, aR, aR, aR, aR, aR, aR, aR, aR, aR, aR, aR, trivial⟩ trivial ?_
         refine RunC.cond_false rfl rfl ?_
         refine zQ ?_
         refine zl (r := x (.iface 140 (.int .i64 2))) (LOp.mkif (v := .int .i64 2) und140 rfl rfl) ?_
         refine za (r := ik .u64 0) ?_
         refine za (r := x (.iface 140 (.int .i64 2))) ?_
         refine zN ?_
         refine RunC.ret ?_
         cases Option.some.inj h4_
         have hx6_ := hr4 _ rfl
         subst hx6_
         have hq := Option.some.inj h
         have hq := Sum.inl.inj hq
         subst q0
         exact bodyQ.pure (.inr rfl) rfl (Res.two rfl (RV.tmp rfl) (RV.tmp rfl))
      ·refine RunC.regionW ?_
       refine zm (r := ik .u8 e3) ?_
       refine zl (r := b false) (LOp.eqb (LOp.leq rfl rfl rfl) hc5) ?_
       refine zm (r := b false) ?_
       iterate 2 (refine ROps.s rfl rfl rfl ?_)
       refine zl (r := b false) (LOp.pick_false rfl rfl rfl) ?_
       refine za (r := b false) ?_
       refine zN ?_
       refine RunC.cond_false rfl rfl ?_
       refine RunC.seq ?_
       obtain ⟨r10, hf15, h4_⟩ := obind_some h4_
       rcases bsel_some h4_ with ⟨hc16, h4_⟩ | ⟨hc16, h4_⟩
       ·obtain ⟨r11, hf17, h4_⟩ := obind_some h4_
        rcases bsel_some h4_ with ⟨hc18, h4_⟩ | ⟨hc18, h4_⟩
        ·refine RunC.regionW ?_
         refine zm (r := ik .u8 e3) ?_
         refine ROps.d (r := ik .u8 r10) (fs := []) (Γ' := []) rfl rfl rfl (TOp.callB (CallAs.func ent124 rfl rfl) (Bors.cons (Bor.pure rfl) Bors.nil) rfl rfl (x_internal_strconv_lower_ok e3 r10 hf15)) rfl ?_
         refine zl (r := b true) (LOp.eqb (LOp.leq rfl rfl rfl) hc16) ?_
         refine zm (r := b true) ?_
         refine zm (r := ik .u8 e3) ?_
         refine ROps.d (r := ik .u8 r11) (fs := []) (Γ' := []) rfl rfl rfl (TOp.callB (CallAs.func ent124 rfl rfl) (Bors.cons (Bor.pure rfl) Bors.nil) rfl rfl (x_internal_strconv_lower_ok e3 r11 hf17)) rfl ?_
         refine zl (r := b true) (LOp.eqb (LOp.leq rfl rfl rfl) hc18) ?_
         refine zl (r := b true) (LOp.pick_true rfl rfl rfl) ?_
         refine za (r := b true) ?_
         refine zN ?_
         refine RunC.wl (τ' := [(1, i64 16), (8, b false), (9, str a0), (10, ik .u64 1152921504606846976), (11, ik .u64 4294967295), (12, b false), (13, ik .u64 v1), (15, ik .u8 e3), (99, sl (bytI a0).length ((bytI a0).map (ik .u8))), (100, i64 ((bytI a0).length : Int)), (101, i64 v2), (110, b false), (121, b true), (126, ik .u8 e3), (127, ik .u8 r11), (128, b true)]) (Γ' := []) ⟨aR, aR, aR, aR, aR, aR, aR, aR, aR, aR, aR, aR, aR, aR, aR, aR, trivial⟩ trivial ?_
         refine RunC.cond_true rfl rfl ?_
         obtain ⟨r12, hf19, h4_⟩ := obind_some h4_
         obtain ⟨x13, hx20, h4_⟩ := olet_some h4_
         obtain ⟨x14, hx21, h4_⟩ := olet_some h4_
         refine RunC.regionW ?_
         refine zm (r := ik .u8 e3) ?_
         refine ROps.d (r := ik .u8 r12) (fs := []) (Γ' := []) rfl rfl rfl (TOp.callB (CallAs.func ent124 rfl rfl) (Bors.cons (Bor.pure rfl) Bors.nil) rfl rfl (x_internal_strconv_lower_ok e3 r12 hf19)) rfl ?_
         refine zl (r := ik .u8 x13) (LOp.eqr (LOp.sub rfl rfl rfl) (congrArg (ik .u8) hx20)) ?_
         refine zl (r := ik .u8 x14) (LOp.eqr (LOp.add rfl rfl rfl) (congrArg (ik .u8) hx21)) ?_
         refine za (r := ik .u8 x14) ?_
         refine zN ?_
         exact ⟨x14, ⟨aR, aR, aR, aR, aR, aR, aR, aR, aR, aR, aR, trivial⟩, trivial, h4_⟩
        ·refine RunC.regionW ?_
         refine zm (r := ik .u8 e3) ?_
         refine ROps.d (r := ik .u8 r10) (fs := []) (Γ' := []) rfl rfl rfl (TOp.callB (CallAs.func ent124 rfl rfl) (Bors.cons (Bor.pure rfl) Bors.nil) rfl rfl (x_internal_strconv_lower_ok e3 r10 hf15)) rfl ?_
         refine zl (r := b true) (LOp.eqb (LOp.leq rfl rfl rfl) hc16) ?_
         refine zm (r := b true) ?_
         refine zm (r := ik .u8 e3) ?_
         refine ROps.d (r := ik .u8 r11) (fs := []) (Γ' := []) rfl rfl rfl (TOp.callB (CallAs.func ent124 rfl rfl) (Bors.cons (Bor.pure rfl) Bors.nil) rfl rfl (x_internal_strconv_lower_ok e3 r11 hf17)) rfl ?_
         refine zl (r := b false) (LOp.eqb (LOp.leq rfl rfl rfl) hc18) ?_
         refine zl (r := b false) (LOp.pick_true rfl rfl rfl) ?_
         refine za (r := b false) ?_
         refine zN ?_
         refine RunC.wl (τ' := [(1, i64 16), (8, b false), (9, str a0), (10, ik .u64 1152921504606846976), (11, ik .u64 4294967295), (12, b false), (13, ik .u64 v1), (15, ik .u8 e3), (99, sl (bytI a0).length ((bytI a0).map (ik .u8))), (100, i64 ((bytI a0).length : Int)), (101, i64 v2), (110, b false), (121, b false), (126, ik .u8 e3), (127, ik .u8 r11), (128, b false)]) (Γ' := []) ⟨aR, aR, aR, aR, aR, aR, aR, aR, aR, aR, aR, aR, aR, aR, aR, aR, trivial⟩ trivial ?_
         refine RunC.cond_false rfl rfl ?_
         refine zQ ?_
         refine zl (r := x (.iface 140 (.int .i64 2))) (LOp.mkif (v := .int .i64 2) und140 rfl rfl) ?_
         refine za (r := ik .u64 0) ?_
         refine za (r := x (.iface 140 (.int .i64 2))) ?_
         refine zN ?_
         refine RunC.ret ?_
         cases Option.some.inj h4_
         have hx7_ := hr4 _ rfl
         subst hx7_
         have hq := Option.some.inj h
         have hq := Sum.inl.inj hq
         subst q0
         exact bodyQ.pure (.inr rfl) rfl (Res.two rfl (RV.tmp rfl) (RV.tmp rfl))
       ·refine RunC.regionW ?_
        refine zm (r := ik .u8 e3) ?_
        refine ROps.d (r := ik .u8 r10) (fs := []) (Γ' := []) rfl rfl rfl (TOp.callB (CallAs.func ent124 rfl rfl) (Bors.cons (Bor.pure rfl) Bors.nil) rfl rfl (x_internal_strconv_lower_ok e3 r10 hf15)) rfl ?_
        refine zl (r := b false) (LOp.eqb (LOp.leq rfl rfl rfl) hc16) ?_
        refine zm (r := b false) ?_
        iterate 3 (refine ROps.s rfl rfl rfl ?_)
        refine zl (r := b false) (LOp.pick_false rfl rfl rfl) ?_
        refine za (r := b false) ?_
        refine zN ?_
        refine RunC.wl (τ' := [(1, i64 16), (8, b false), (9, str a0), (10, ik .u64 1152921504606846976), (11, ik .u64 4294967295), (12, b false), (13, ik .u64 v1), (15, ik .u8 e3), (99, sl (bytI a0).length ((bytI a0).map (ik .u8))), (100, i64 ((bytI a0).length : Int)), (101, i64 v2), (110, b false), (121, b false)]) (Γ' := []) ⟨aR, aR, aR, aR, aR, aR, aR, aR, aR, aR, aR, aR, aR, trivial⟩ trivial ?_
        refine RunC.cond_false rfl rfl ?_
        refine zQ ?_
        refine zl (r := x (.iface 140 (.int .i64 2))) (LOp.mkif (v := .int .i64 2) und140 rfl rfl) ?_
        refine za (r := ik .u64 0) ?_
        refine za (r := x (.iface 140 (.int .i64 2))) ?_
        refine zN ?_
        refine RunC.ret ?_
        cases Option.some.inj h4_
        have hx8_ := hr4 _ rfl
        subst hx8_
        have hq := Option.some.inj h
        have hq := Sum.inl.inj hq
        subst q0
        exact bodyQ.pure (.inr rfl) rfl (Res.two rfl (RV.tmp rfl) (RV.tmp rfl))
     ·refine RunC.regionW ?_
      refine zm (r := ik .u8 e3) ?_
      refine zl (r := b false) (LOp.eqb (LOp.eql rfl rfl rfl) hc4) ?_
      refine zm (r := b false) ?_
      refine ROps.s rfl rfl rfl ?_
      refine zl (r := b false) (LOp.pick_false rfl rfl rfl) ?_
      refine za (r := b false) ?_
      refine zN ?_
      refine RunC.cond_false rfl rfl ?_
      refine RunC.seq ?_
      rcases bsel_some h4_ with ⟨hc22, h4_⟩ | ⟨hc22, h4_⟩
      ·rcases bsel_some h4_ with ⟨hc23, h4_⟩ | ⟨hc23, h4_⟩
       ·refine RunC.regionW ?_
        refine zm (r := ik .u8 e3) ?_
        refine zl (r := b true) (LOp.eqb (LOp.leq rfl rfl rfl) hc22) ?_
        refine zm (r := b true) ?_
        refine zm (r := ik .u8 e3) ?_
        refine zl (r := b true) (LOp.eqb (LOp.leq rfl rfl rfl) hc23) ?_
        refine zl (r := b true) (LOp.pick_true rfl rfl rfl) ?_
        refine za (r := b true) ?_
        refine zN ?_
        refine RunC.cond_true rfl rfl ?_
        obtain ⟨x15, hx24, h4_⟩ := olet_some h4_
        refine RunC.regionW ?_
        refine zm (r := ik .u8 e3) ?_
        refine zl (r := ik .u8 x15) (LOp.eqr (LOp.sub rfl rfl rfl) (congrArg (ik .u8) hx24)) ?_
        refine za (r := ik .u8 x15) ?_
        refine zN ?_
        exact ⟨x15, ⟨aR, aR, aR, aR, aR, aR, aR, aR, aR, aR, aR, trivial⟩, trivial, h4_⟩
       ·refine RunC.regionW ?_
        refine zm (r := ik .u8 e3) ?_
        refine zl (r := b true) (LOp.eqb (LOp.leq rfl rfl rfl) hc22) ?_
        refine zm (r := b true) ?_
        refine zm (r := ik .u8 e3) ?_
        refine zl (r := b false) (LOp.eqb (LOp.leq rfl rfl rfl) hc23) ?_
        refine zl (r := b false) (LOp.pick_true rfl rfl rfl) ?_
        refine za (r := b false) ?_
        refine zN ?_
        refine RunC.cond_false rfl rfl ?_
        refine RunC.seq ?_
        obtain ⟨r16, hf25, h4_⟩ := obind_some h4_
        rcases bsel_some h4_ with ⟨hc26, h4_⟩ | ⟨hc26, h4_⟩
        ·obtain ⟨r17, hf27, h4_⟩ := obind_some h4_
         rcases bsel_some h4_ with ⟨hc28, h4_⟩ | ⟨hc28, h4_⟩
         ·refine RunC.regionW ?_
          refine zm (r := ik .u8 e3) ?_
          refine ROps.d (r := ik .u8 r16) (fs := []) (Γ' := []) rfl rfl rfl (TOp.callB (CallAs.func ent124 rfl rfl) (Bors.cons (Bor.pure rfl) Bors.nil) rfl rfl (x_internal_strconv_lower_ok e3 r16 hf25)) rfl ?_
          refine zl (r := b true) (LOp.eqb (LOp.leq rfl rfl rfl) hc26) ?_
          refine zm (r := b true) ?_
          refine zm (r := ik .u8 e3) ?_
          refine ROps.d (r := ik .u8 r17) (fs := []) (Γ' := []) rfl rfl rfl (TOp.callB (CallAs.func ent124 rfl rfl) (Bors.cons (Bor.pure rfl) Bors.nil) rfl rfl (x_internal_strconv_lower_ok e3 r17 hf27)) rfl ?_
          refine zl (r := b true) (LOp.eqb (LOp.leq rfl rfl rfl) hc28) ?_
          refine zl (r := b true) (LOp.pick_true rfl rfl rfl) ?_
          refine za (r := b true) ?_
          refine zN ?_
          refine RunC.wl (τ' := [(1, i64 16), (8, b false), (9, str a0), (10, ik .u64 1152921504606846976), (11, ik .u64 4294967295), (12, b false), (13, ik .u64 v1), (15, ik .u8 e3), (99, sl (bytI a0).length ((bytI a0).map (ik .u8))), (100, i64 ((bytI a0).length : Int)), (101, i64 v2), (116, ik .u8 e3), (117, b false), (121, b true), (126, ik .u8 e3), (127, ik .u8 r17), (128, b true)]) (Γ' := []) ⟨aR, aR, aR, aR, aR, aR, aR, aR, aR, aR, aR, aR, aR, aR, aR, aR, aR, trivial⟩ trivial ?_
          refine RunC.cond_true rfl rfl ?_
          obtain ⟨r18, hf29, h4_⟩ := obind_some h4_
          obtain ⟨x19, hx30, h4_⟩ := olet_some h4_
          obtain ⟨x20, hx31, h4_⟩ := olet_some h4_
          refine RunC.regionW ?_
          refine zm (r := ik .u8 e3) ?_
          refine ROps.d (r := ik .u8 r18) (fs := []) (Γ' := []) rfl rfl rfl (TOp.callB (CallAs.func ent124 rfl rfl) (Bors.cons (Bor.pure rfl) Bors.nil) rfl rfl (x_internal_strconv_lower_ok e3 r18 hf29)) rfl ?_
          refine zl (r := ik .u8 x19) (LOp.eqr (LOp.sub rfl rfl rfl) (congrArg (ik .u8) hx30)) ?_
          refine zl (r := ik .u8 x20) (LOp.eqr (LOp.add rfl rfl rfl) (congrArg (ik .u8) hx31)) ?_
          refine za (r := ik .u8 x20) ?_
          refine zN ?_
          exact ⟨x20, ⟨aR, aR, aR, aR, aR, aR, aR, aR, aR, aR, aR, trivial⟩, trivial, h4_⟩
         ·refine RunC.regionW ?_
          refine zm (r := ik .u8 e3) ?_
          refine ROps.d (r := ik .u8 r16) (fs := []) (Γ' := []) rfl rfl rfl (TOp.callB (CallAs.func ent124 rfl rfl) (Bors.cons (Bor.pure rfl) Bors.nil) rfl rfl (x_internal_strconv_lower_ok e3 r16 hf25)) rfl ?_
          refine zl (r := b true) (LOp.eqb (LOp.leq rfl rfl rfl) hc26) ?_
          refine zm (r := b true) ?_
          refine zm (r := ik .u8 e3) ?_
          refine ROps.d (r := ik .u8 r17) (fs := []) (Γ' := []) rfl rfl rfl (TOp.callB (CallAs.func ent124 rfl rfl) (Bors.cons (Bor.pure rfl) Bors.nil) rfl rfl (x_internal_strconv_lower_ok e3 r17 hf27)) rfl ?_
          refine zl (r := b false) (LOp.eqb (LOp.leq rfl rfl rfl) hc28) ?_
          refine zl (r := b false) (LOp.pick_true rfl rfl rfl) ?_
          refine za (r := b false) ?_
          refine zN ?_
          refine RunC.wl (τ' := [(1, i64 16), (8, b false), (9, str a0), (10, ik .u64 1152921504606846976), (11, ik .u64 4294967295), (12, b false), (13, ik .u64 v1), (15, ik .u8 e3), (99, sl (bytI a0).length ((bytI a0).map (ik .u8))), (100, i64 ((bytI a0).length : Int)), (101, i64 v2), (116, ik .u8 e3), (117, b false), (121, b false), (126, ik .u8 e3), (127, ik .u8 r17), (128, b false)]) (Γ' := []) ⟨aR, aR, aR, aR, aR, aR, aR, aR, aR, aR, aR, aR, aR, aR, aR, aR, aR, trivial⟩ trivial ?_
          refine RunC.cond_false rfl rfl ?_
          refine zQ ?_
          refine zl (r := x (.iface 140 (.int .i64 2))) (LOp.mkif (v := .int .i64 2) und140 rfl rfl) ?_
          refine za (r := ik .u64 0) ?_
          refine za (r := x (.iface 140 (.int .i64 2))) ?_
          refine zN ?_
          refine RunC.ret ?_
          cases Option.some.inj h4_
          have hx9_ := hr4 _ rfl
          subst hx9_
          have hq := Option.some.inj h
          have hq := Sum.inl.inj hq
          subst q0
          exact bodyQ.pure (.inr rfl) rfl (Res.two rfl (RV.tmp rfl) (RV.tmp rfl))
        ·refine RunC.regionW ?_
         refine zm (r := ik .u8 e3) ?_
         refine ROps.d (r := ik .u8 r16) (fs := []) (Γ' := []) rfl rfl rfl (TOp.callB (CallAs.func ent124 rfl rfl) (Bors.cons (Bor.pure rfl) Bors.nil) rfl rfl (x_internal_strconv_lower_ok e3 r16 hf25)) rfl ?_
         refine zl (r := b false) (LOp.eqb (LOp.leq rfl rfl rfl) hc26) ?_
         refine zm (r := b false) ?_
         iterate 3 (refine ROps.s rfl rfl rfl ?_)
         refine zl (r := b false) (LOp.pick_false rfl rfl rfl) ?_
         refine za (r := b false) ?_
         refine zN ?_
         refine RunC.wl (τ' := [(1, i64 16), (8, b false), (9, str a0), (10, ik .u64 1152921504606846976), (11, ik .u64 4294967295), (12, b false), (13, ik .u64 v1), (15, ik .u8 e3), (99, sl (bytI a0).length ((bytI a0).map (ik .u8))), (100, i64 ((bytI a0).length : Int)), (101, i64 v2), (116, ik .u8 e3), (117, b false), (121, b false)]) (Γ' := []) ⟨aR, aR, aR, aR, aR, aR, aR, aR, aR, aR, aR, aR, aR, aR, trivial⟩ trivial ?_
         refine RunC.cond_false rfl rfl ?_
         refine zQ ?_
         refine zl (r := x (.iface 140 (.int .i64 2))) (LOp.mkif (v := .int .i64 2) und140 rfl rfl) ?_
         refine za (r := ik .u64 0) ?_
         refine za (r := x (.iface 140 (.int .i64 2))) ?_
         refine zN ?_
         refine RunC.ret ?_
         cases Option.some.inj h4_
         have hx10_ := hr4 _ rfl
         subst hx10_
         have hq := Option.some.inj h
         have hq := Sum.inl.inj hq
         subst q0
         exact bodyQ.pure (.inr rfl) rfl (Res.two rfl (RV.tmp rfl) (RV.tmp rfl))
      ·refine RunC.regionW ?_
       refine zm (r := ik .u8 e3) ?_
       refine zl (r := b false) (LOp.eqb (LOp.leq rfl rfl rfl) hc22) ?_
       refine zm (r := b false) ?_
       iterate 2 (refine ROps.s rfl rfl rfl ?_)
       refine zl (r := b false) (LOp.pick_false rfl rfl rfl) ?_
       refine za (r := b false) ?_
       refine zN ?_
       refine RunC.cond_false rfl rfl ?_
       refine RunC.seq ?_
       obtain ⟨r21, hf32, h4_⟩ := obind_some h4_
       rcases bsel_some h4_ with ⟨hc33, h4_⟩ | ⟨hc33, h4_⟩
       ·obtain ⟨r22, hf34, h4_⟩ := obind_some h4_
        rcases bsel_some h4_ with ⟨hc35, h4_⟩ | ⟨hc35, h4_⟩
        ·refine RunC.regionW ?_
         refine zm (r := ik .u8 e3) ?_
         refine ROps.d (r := ik .u8 r21) (fs := []) (Γ' := []) rfl rfl rfl (TOp.callB (CallAs.func ent124 rfl rfl) (Bors.cons (Bor.pure rfl) Bors.nil) rfl rfl (x_internal_strconv_lower_ok e3 r21 hf32)) rfl ?_
         refine zl (r := b true) (LOp.eqb (LOp.leq rfl rfl rfl) hc33) ?_
         refine zm (r := b true) ?_
         refine zm (r := ik .u8 e3) ?_
         refine ROps.d (r := ik .u8 r22) (fs := []) (Γ' := []) rfl rfl rfl (TOp.callB (CallAs.func ent124 rfl rfl) (Bors.cons (Bor.pure rfl) Bors.nil) rfl rfl (x_internal_strconv_lower_ok e3 r22 hf34)) rfl ?_
         refine zl (r := b true) (LOp.eqb (LOp.leq rfl rfl rfl) hc35) ?_
         refine zl (r := b true) (LOp.pick_true rfl rfl rfl) ?_
         refine za (r := b true) ?_
         refine zN ?_
         refine RunC.wl (τ' := [(1, i64 16), (8, b false), (9, str a0), (10, ik .u64 1152921504606846976), (11, ik .u64 4294967295), (12, b false), (13, ik .u64 v1), (15, ik .u8 e3), (99, sl (bytI a0).length ((bytI a0).map (ik .u8))), (100, i64 ((bytI a0).length : Int)), (101, i64 v2), (121, b true), (126, ik .u8 e3), (127, ik .u8 r22), (128, b true)]) (Γ' := []) ⟨aR, aR, aR, aR, aR, aR, aR, aR, aR, aR, aR, aR, aR, aR, aR, trivial⟩ trivial ?_
         refine RunC.cond_true rfl rfl ?_
         obtain ⟨r23, hf36, h4_⟩ := obind_some h4_
         obtain ⟨x24, hx37, h4_⟩ := olet_some h4_
         obtain ⟨x25, hx38, h4_⟩ := olet_some h4_
         refine RunC.regionW ?_
         refine zm (r := ik .u8 e3) ?_
         refine ROps.d (r := ik .u8 r23) (fs := []) (Γ' := []) rfl rfl rfl (TOp.callB (CallAs.func ent124 rfl rfl) (Bors.cons (Bor.pure rfl) Bors.nil) rfl rfl (x_internal_strconv_lower_ok e3 r23 hf36)) rfl ?_
         refine zl (r := ik .u8 x24) (LOp.eqr (LOp.sub rfl rfl rfl) (congrArg (ik .u8) hx37)) ?_
         refine zl (r := ik .u8 x25) (LOp.eqr (LOp.add rfl rfl rfl) (congrArg (ik .u8) hx38)) ?_
         refine za (r := ik .u8 x25) ?_
         refine zN ?_
         exact ⟨x25, ⟨aR, aR, aR, aR, aR, aR, aR, aR, aR, aR, aR, trivial⟩, trivial, h4_⟩
        ·refine RunC.regionW ?_
         refine zm (r := ik .u8 e3) ?_
         refine ROps.d (r := ik .u8 r21) (fs := []) (Γ' := []) rfl rfl rfl (TOp.callB (CallAs.func ent124 rfl rfl) (Bors.cons (Bor.pure rfl) Bors.nil) rfl rfl (x_internal_strconv_lower_ok e3 r21 hf32)) rfl ?_
         refine zl (r := b true) (LOp.eqb (LOp.leq rfl rfl rfl) hc33) ?_
         refine zm (r := b true) ?_
         refine zm (r := ik .u8 e3) ?_
         refine ROps.d (r := ik .u8 r22) (fs := []) (Γ' := []) rfl rfl rfl (TOp.callB (CallAs.func ent124 rfl rfl) (Bors.cons (Bor.pure rfl) Bors.nil) rfl rfl (x_internal_strconv_lower_ok e3 r22 hf34)) rfl ?_
         refine zl (r := b false) (LOp.eqb (LOp.leq rfl rfl rfl) hc35) ?_
         refine zl (r := b false) (LOp.pick_true rfl rfl rfl) ?_
         refine za (r := b false) ?_
         refine zN ?_
         refine RunC.wl (τ' := [(1, i64 16), (8, b false), (9, str a0), (10, ik .u64 1152921504606846976), (11, ik .u64 4294967295), (12, b false), (13, ik .u64 v1), (15, ik .u8 e3), (99, sl (bytI a0).length ((bytI a0).map (ik .u8))), (100, i64 ((bytI a0).length : Int)), (101, i64 v2), (121, b false), (126, ik .u8 e3), (127, ik .u8 r22), (128, b false)]) (Γ' := []) ⟨aR, aR, aR, aR, aR, aR, aR, aR, aR, aR, aR, aR, aR, aR, aR, trivial⟩ trivial ?_
         refine RunC.cond_false rfl rfl ?_
         refine zQ ?_
         refine zl (r := x (.iface 140 (.int .i64 2))) (LOp.mkif (v := .int .i64 2) und140 rfl rfl) ?_
         refine za (r := ik .u64 0) ?_
         refine za (r := x (.iface 140 (.int .i64 2))) ?_
         refine zN ?_
         refine RunC.ret ?_
         cases Option.some.inj h4_
         have hx11_ := hr4 _ rfl
         subst hx11_
         have hq := Option.some.inj h
         have hq := Sum.inl.inj hq
         subst q0
         exact bodyQ.pure (.inr rfl) rfl (Res.two rfl (RV.tmp rfl) (RV.tmp rfl))
       ·refine RunC.regionW ?_
        refine zm (r := ik .u8 e3) ?_
        refine ROps.d (r := ik .u8 r21) (fs := []) (Γ' := []) rfl rfl rfl (TOp.callB (CallAs.func ent124 rfl rfl) (Bors.cons (Bor.pure rfl) Bors.nil) rfl rfl (x_internal_strconv_lower_ok e3 r21 hf32)) rfl ?_
        refine zl (r := b false) (LOp.eqb (LOp.leq rfl rfl rfl) hc33) ?_
        refine zm (r := b false) ?_
        iterate 3 (refine ROps.s rfl rfl rfl ?_)
        refine zl (r := b false) (LOp.pick_false rfl rfl rfl) ?_
        refine za (r := b false) ?_
        refine zN ?_
        refine RunC.wl (τ' := [(1, i64 16), (8, b false), (9, str a0), (10, ik .u64 1152921504606846976), (11, ik .u64 4294967295), (12, b false), (13, ik .u64 v1), (15, ik .u8 e3), (99, sl (bytI a0).length ((bytI a0).map (ik .u8))), (100, i64 ((bytI a0).length : Int)), (101, i64 v2), (121, b false)]) (Γ' := []) ⟨aR, aR, aR, aR, aR, aR, aR, aR, aR, aR, aR, aR, trivial⟩ trivial ?_
        refine RunC.cond_false rfl rfl ?_
        refine zQ ?_
        refine zl (r := x (.iface 140 (.int .i64 2))) (LOp.mkif (v := .int .i64 2) und140 rfl rfl) ?_
        refine za (r := ik .u64 0) ?_
        refine za (r := x (.iface 140 (.int .i64 2))) ?_
        refine zN ?_
        refine RunC.ret ?_
        cases Option.some.inj h4_
        have hx12_ := hr4 _ rfl
        subst hx12_
        have hq := Option.some.inj h
        have hq := Sum.inl.inj hq
        subst q0
        exact bodyQ.pure (.inr rfl) rfl (Res.two rfl (RV.tmp rfl) (RV.tmp rfl))
    ·rintro τ13 Γ13 ⟨v26, hw13, hd13, h4_⟩
     refine RunC.wl hw13 hd13 ?_
     unfold x_internal_strconv_ParseUint_k2 at h4_
     iterate 2 (refine RunC.seq ?_)
     rcases bsel_some h4_ with ⟨hc39, h4_⟩ | ⟨hc39, h4_⟩
     ·refine RunC.regionW ?_
      refine zm (r := ik .u8 v26) ?_
      refine zm (r := i64 16) ?_
      refine zl (r := ik .u8 16) ((show LOp _ _ _ (ik .u8 (IntKind.u8.wrap 16)) from LOp.i2i (src := 3) (dst := 5) ⟨_, pun3⟩ pun5 rfl rfl)) ?_
      refine zl (r := b true) (LOp.eqb (LOp.geq rfl rfl rfl) hc39) ?_
      refine zN ?_
      refine RunC.cond_true rfl rfl ?_
      refine zQ ?_
      refine zl (r := x (.iface 140 (.int .i64 2))) (LOp.mkif (v := .int .i64 2) und140 rfl rfl) ?_
      refine za (r := ik .u64 0) ?_
      refine za (r := x (.iface 140 (.int .i64 2))) ?_
      refine zN ?_
      refine RunC.ret ?_
      cases Option.some.inj h4_
      have hx14_ := hr4 _ rfl
      subst hx14_
      have hq := Option.some.inj h
      have hq := Sum.inl.inj hq
      subst q0
      exact bodyQ.pure (.inr rfl) rfl (Res.two rfl (RV.tmp rfl) (RV.tmp rfl))
     ·refine RunC.regionW ?_
      refine zm (r := ik .u8 v26) ?_
      refine zm (r := i64 16) ?_
      refine zl (r := ik .u8 16) ((show LOp _ _ _ (ik .u8 (IntKind.u8.wrap 16)) from LOp.i2i (src := 3) (dst := 5) ⟨_, pun3⟩ pun5 rfl rfl)) ?_
      refine zl (r := b false) (LOp.eqb (LOp.geq rfl rfl rfl) hc39) ?_
      refine zN ?_
      refine RunC.cond_false rfl rfl ?_
      refine RunC.skip ?_
      iterate 2 (refine RunC.seq ?_)
      rcases bsel_some h4_ with ⟨hc40, h4_⟩ | ⟨hc40, h4_⟩
      ·refine RunC.regionW ?_
       refine zm (r := ik .u64 v1) ?_
       refine zm (r := ik .u64 1152921504606846976) ?_
       refine zl (r := b true) (LOp.eqb (LOp.geq rfl rfl rfl) hc40) ?_
       refine zN ?_
       refine RunC.cond_true rfl rfl ?_
       refine zQ ?_
       refine zm (r := ik .u64 4294967295) ?_
       refine zl (r := x (.iface 140 (.int .i64 1))) (LOp.mkif (v := .int .i64 1) und140 rfl rfl) ?_
       refine za (r := ik .u64 4294967295) ?_
       refine za (r := x (.iface 140 (.int .i64 1))) ?_
       refine zN ?_
       cases Option.some.inj h4_
       have hx15_ := hr4 _ rfl
       subst hx15_
       cases Option.some.inj h
      ·refine RunC.regionW ?_
       refine zm (r := ik .u64 v1) ?_
       refine zm (r := ik .u64 1152921504606846976) ?_
       refine zl (r := b false) (LOp.eqb (LOp.geq rfl rfl rfl) hc40) ?_
       refine zN ?_
       refine RunC.cond_false rfl rfl ?_
       refine RunC.skip ?_
       refine RunC.seq ?_
       obtain ⟨x27, hx41, h4_⟩ := olet_some h4_
       refine RunC.regionW ?_
       refine zm (r := ik .u64 v1) ?_
       refine zm (r := i64 16) ?_
       refine zl (r := ik .u64 16) ((show LOp _ _ _ (ik .u64 (IntKind.u64.wrap 16)) from LOp.i2i (src := 3) (dst := 90) ⟨_, pun3⟩ pun90 rfl rfl)) ?_
       refine zl (r := ik .u64 x27) (LOp.eqr (LOp.mul rfl rfl rfl) (congrArg (ik .u64) hx41)) ?_
       refine za (r := ik .u64 x27) ?_
       refine zN ?_
       refine RunC.seq ?_
       obtain ⟨x28, hx42, h4_⟩ := olet_some h4_
       obtain ⟨x29, hx43, h4_⟩ := olet_some h4_
       refine RunC.regionW ?_
       refine zm (r := ik .u64 x27) ?_
       refine zm (r := ik .u8 v26) ?_
       refine zl (r := ik .u64 x28) (LOp.eqr (LOp.i2i (src := 5) (dst := 90) ⟨_, pun5⟩ pun90 rfl rfl) (congrArg (ik .u64) hx42)) ?_
       refine zl (r := ik .u64 x29) (LOp.eqr (LOp.add rfl rfl rfl) (congrArg (ik .u64) hx43)) ?_
       refine za (r := ik .u64 x29) ?_
       refine zN ?_
       iterate 2 (refine RunC.seq ?_)
       rcases bsel_some h4_ with ⟨hc44, h4_⟩ | ⟨hc44, h4_⟩
       ·refine RunC.regionW ?_
        refine zm (r := ik .u64 x29) ?_
        refine zm (r := ik .u64 x27) ?_
        refine zl (r := b true) (LOp.eqb (LOp.lss rfl rfl rfl) hc44) ?_
        refine zm (r := b true) ?_
        iterate 3 (refine ROps.s rfl rfl rfl ?_)
        refine zl (r := b true) (LOp.pick_true rfl rfl rfl) ?_
        refine zN ?_
        refine RunC.cond_true rfl rfl ?_
        refine zQ ?_
        refine zm (r := ik .u64 4294967295) ?_
        refine zl (r := x (.iface 140 (.int .i64 1))) (LOp.mkif (v := .int .i64 1) und140 rfl rfl) ?_
        refine za (r := ik .u64 4294967295) ?_
        refine za (r := x (.iface 140 (.int .i64 1))) ?_
        refine zN ?_
        cases Option.some.inj h4_
        have hx16_ := hr4 _ rfl
        subst hx16_
        cases Option.some.inj h
       ·rcases bsel_some h4_ with ⟨hc45, h4_⟩ | ⟨hc45, h4_⟩
        ·refine RunC.regionW ?_
         refine zm (r := ik .u64 x29) ?_
         refine zm (r := ik .u64 x27) ?_
         refine zl (r := b false) (LOp.eqb (LOp.lss rfl rfl rfl) hc44) ?_
         refine zm (r := b false) ?_
         refine zm (r := ik .u64 x29) ?_
         refine zm (r := ik .u64 4294967295) ?_
         refine zl (r := b true) (LOp.eqb (LOp.gtr rfl rfl rfl) hc45) ?_
         refine zl (r := b true) (LOp.pick_false rfl rfl rfl) ?_
         refine zN ?_
         refine RunC.cond_true rfl rfl ?_
         refine zQ ?_
         refine zm (r := ik .u64 4294967295) ?_
         refine zl (r := x (.iface 140 (.int .i64 1))) (LOp.mkif (v := .int .i64 1) und140 rfl rfl) ?_
         refine za (r := ik .u64 4294967295) ?_
         refine za (r := x (.iface 140 (.int .i64 1))) ?_
         refine zN ?_
         cases Option.some.inj h4_
         have hx17_ := hr4 _ rfl
         subst hx17_
         cases Option.some.inj h
        ·refine RunC.regionW ?_
         refine zm (r := ik .u64 x29) ?_
         refine zm (r := ik .u64 x27) ?_
         refine zl (r := b false) (LOp.eqb (LOp.lss rfl rfl rfl) hc44) ?_
         refine zm (r := b false) ?_
         refine zm (r := ik .u64 x29) ?_
         refine zm (r := ik .u64 4294967295) ?_
         refine zl (r := b false) (LOp.eqb (LOp.gtr rfl rfl rfl) hc45) ?_
         refine zl (r := b false) (LOp.pick_false rfl rfl rfl) ?_
         refine zN ?_
         refine RunC.cond_false rfl rfl ?_
         refine RunC.skip ?_
         refine RunC.wl (τ' := [(1, i64 16), (8, b false), (9, str a0), (10, ik .u64 1152921504606846976), (11, ik .u64 4294967295), (12, b false), (17, ik .u64 x29), (99, sl (bytI a0).length ((bytI a0).map (ik .u8))), (100, i64 ((bytI a0).length : Int)), (101, i64 v2), (156, ik .u64 x29), (157, ik .u64 4294967295), (158, b false)]) (Γ' := []) ⟨aR, aR, aR, aR, aR, aR, aR, aR, aR, aR, aR, aR, aR, trivial⟩ trivial ?_
         refine RunC.regionW ?_
         refine zm (r := ik .u64 x29) ?_
         refine za (r := ik .u64 x29) ?_
         refine zN ?_
         obtain ⟨x30, hx46, h4_⟩ := olet_some h4_
         refine RunC.regionW ?_
         refine zl (r := i64 x30) (LOp.eqr (LOp.add rfl rfl rfl) (congrArg (ik .i64) hx46)) ?_
         refine zm (r := i64 x30) ?_
         refine zN ?_
         cases Option.some.inj h4_
         exact ⟨_, rfl, ⟨aR, aR, aR, aR, aR, aR, aR, aR, aR, aR, trivial⟩, trivial⟩
   ·refine RunC.regionW ?_
    refine zl (r := b false) (LOp.eqb (LOp.lss rfl rfl rfl) hc2) ?_
    refine zN ?_
    refine RunC.seq ?_
    refine RunC.cond_false rfl rfl ?_
    refine RunC.exit ?_
    cases Option.some.inj h4_
    have hx := ho4 _ rfl
    exact ⟨v1, ⟨aR, aR, aR, trivial⟩, trivial, hx⟩
  ·rintro τ18 Γ18 ⟨v31, hw18, hd18, rfl⟩
   refine RunC.wl hw18 hd18 ?_
   replace h : x_internal_strconv_ParseUint_k3 v31 = some (Sum.inl q0) := h
   unfold x_internal_strconv_ParseUint_k3 at h
   refine RunC.seq ?_
   refine zQ ?_
   iterate 2 (refine zm (r := b false) ?_)
   iterate 3 (refine ROps.s rfl rfl rfl ?_)
   refine zl (r := b false) (LOp.pick_false rfl rfl rfl) ?_
   refine zN ?_
   refine RunC.cond_false rfl rfl ?_
   refine RunC.skip ?_
   refine zQ ?_
   refine zm (r := ik .u64 v31) ?_
   refine za (r := ik .u64 v31) ?_
   refine za (r := x .nilIface) ?_
   refine zN ?_
   cases Option.some.inj h
theorem x_internal_strconv_ParseUint_ok1 (a0 : ByteArray) (q0 : Int) (h : x_internal_strconv_ParseUint a0 = some (Sum.inr (Sum.inl q0))) : Ev Tryz.prog 104 [str a0, i64 16, i64 32] [] (tup [ik .u64 q0, x (.iface 140 (.int .i64 1))]) [] := by
 refine Ev.start Tryz.func104 rfl rfl 0 (τ := [(0, str a0), (1, i64 16), (2, i64 32)]) rfl (Γ' := []) rfl (n := 345) rfl (g := 0) rfl (fun _ => rfl) ?_
 unfold x_internal_strconv_ParseUint at h
 refine zQ ?_
 refine za (r := ik .u64 0) ?_
 refine za (r := x .nilIface) ?_
 refine zN ?_
 iterate 2 (refine RunC.seq ?_)
 rcases bsel_some h with ⟨hc1, h⟩ | ⟨hc1, h⟩
 ·refine RunC.regionW ?_
  refine zm (r := str a0) ?_
  refine zl (r := b true) (LOp.eqb (LOp.eqs rfl rfl rfl) hc1) ?_
  refine zN ?_
  refine RunC.cond_true rfl rfl ?_
  refine zQ ?_
  refine zl (r := x (.iface 140 (.int .i64 2))) (LOp.mkif (v := .int .i64 2) und140 rfl rfl) ?_
  refine za (r := ik .u64 0) ?_
  refine za (r := x (.iface 140 (.int .i64 2))) ?_
  refine zN ?_
  cases Option.some.inj h
 ·refine RunC.regionW ?_
  refine zm (r := str a0) ?_
  refine zl (r := b false) (LOp.eqb (LOp.eqs rfl rfl rfl) hc1) ?_
  refine zN ?_
  refine RunC.cond_false rfl rfl ?_
  refine RunC.skip ?_
  refine zQ ?_
  refine zm (r := i64 16) ?_
  refine zl (r := b false) ((show LOp _ _ _ (b (decide ((16 : Int) = 0))) from LOp.eql rfl rfl rfl)) ?_
  refine za (r := b false) ?_
  refine zN ?_
  refine zQ ?_
  refine zm (r := str a0) ?_
  refine za (r := str a0) ?_
  refine zN ?_
  refine RunC.seq ?_
  refine RunC.block ?_
  refine zQ ?_
  refine zm (r := i64 16) ?_
  refine zl (r := b true) ((show LOp _ _ _ (b (decide ((2 : Int) ≤ 16))) from LOp.leq rfl rfl rfl)) ?_
  refine zm (r := b true) ?_
  refine zm (r := i64 16) ?_
  refine zl (r := b true) ((show LOp _ _ _ (b (decide ((16 : Int) ≤ 36))) from LOp.leq rfl rfl rfl)) ?_
  refine zl (r := b true) (LOp.pick_true rfl rfl rfl) ?_
  refine za (r := b true) ?_
  refine zN ?_
  refine RunC.cond_true rfl rfl ?_
  refine RunC.skip ?_
  refine RunC.seq ?_
  refine zQ ?_
  refine zm (r := i64 32) ?_
  refine zl (r := b false) ((show LOp _ _ _ (b (decide ((32 : Int) = 0))) from LOp.eql rfl rfl rfl)) ?_
  refine zN ?_
  refine RunC.cond_false rfl rfl ?_
  refine zQ ?_
  refine zm (r := i64 32) ?_
  refine zl (r := b false) ((show LOp _ _ _ (b (decide ((32 : Int) < 0))) from LOp.lss rfl rfl rfl)) ?_
  refine zm (r := b false) ?_
  refine zm (r := i64 32) ?_
  refine zl (r := b false) ((show LOp _ _ _ (b (decide ((64 : Int) < 32))) from LOp.gtr rfl rfl rfl)) ?_
  refine zl (r := b false) (LOp.pick_false rfl rfl rfl) ?_
  refine zN ?_
  refine RunC.cond_false rfl rfl ?_
  refine RunC.skip ?_
  refine zQ ?_
  refine za (r := ik .u64 0) ?_
  refine zN ?_
  refine RunC.seq ?_
  refine zQ ?_
  refine zm (r := i64 16) ?_
  refine zN ?_
  refine RunC.block ?_
  refine zQ ?_
  refine zl (r := b false) ((show LOp _ _ _ (b (decide ((16 : Int) = 10))) from LOp.eql rfl rfl rfl)) ?_
  refine za (r := b false) ?_
  refine zN ?_
  refine RunC.cond_false rfl rfl ?_
  refine zQ ?_
  refine zl (r := b true) ((show LOp _ _ _ (b (decide ((16 : Int) = 16))) from LOp.eql rfl rfl rfl)) ?_
  refine za (r := b true) ?_
  refine zN ?_
  refine RunC.wl (τ' := [(0, str a0), (1, i64 16), (2, i64 32), (8, b false), (9, str a0), (92, b true)]) (Γ' := []) ⟨aR, aR, aR, aR, aR, aR, trivial⟩ trivial ?_
  refine RunC.cond_true rfl rfl ?_
  refine RunC.regionW ?_
  refine za (r := ik .u64 1152921504606846976) ?_
  refine zN ?_
  refine zQ ?_
  refine zm (r := i64 32) ?_
  refine zl (r := ik .u64 32) ((show LOp _ _ _ (ik .u64 (IntKind.u64.wrap 32)) from LOp.i2i (src := 3) (dst := 106) ⟨_, pun3⟩ pun106 rfl rfl)) ?_
  refine zl (r := ik .u64 4294967296) ((show LOp _ _ _ (ik .u64 (ishl .u64 1 32)) from LOp.shl rfl rfl rfl (by decide))) ?_
  refine zl (r := ik .u64 4294967295) ((show LOp _ _ _ (ik .u64 (IntKind.u64.wrap (4294967296 - 1))) from LOp.sub rfl rfl rfl)) ?_
  refine za (r := ik .u64 4294967295) ?_
  refine zN ?_
  refine zQ ?_
  refine za (r := b false) ?_
  refine zN ?_
  refine zQ ?_
  refine za (r := ik .u64 0) ?_
  refine zN ?_
  refine RunC.seq ?_
  refine zQ ?_
  refine zm (r := str a0) ?_
  refine ROps.d (r := sl (bytI a0).length ((bytI a0).map (ik .u8))) (fs := []) (Γ' := []) rfl rfl rfl (TOp.s2b pun9 pun22 pun5 rfl rfl) rfl ?_
  refine zl (r := i64 ((bytI a0).length : Int)) (LOp.len_sl und22 rfl rfl) ?_
  refine zm (r := i64 0) ?_
  refine zN ?_
  obtain ⟨z19, hz_19, h⟩ := obind_some h
  refine RunC.cutN (fun τ Γ => ∃ (v31 : Int), WeakLe τ [(9, str a0), (12, b false), (13, ik .u64 v31)] ∧ DeadLe Γ [] ∧ z19 = .inl v31) ?_ ?_
  ·refine RunC.block (RunC.loop (RunL.loopM (x := z19) (x_internal_strconv_ParseUint_s3 a0) (fun (s : Int × Int) τ Γ => WeakLe τ [(1, i64 16), (8, b false), (9, str a0), (10, ik .u64 1152921504606846976), (11, ik .u64 4294967295), (12, b false), (13, ik .u64 s.1), (99, sl (bytI a0).length ((bytI a0).map (ik .u8))), (100, i64 ((bytI a0).length : Int)), (101, i64 s.2)] ∧ DeadLe Γ []) ?_ _ _ _ hz_19 ⟨⟨aR, aR, aR, aR, aR, aR, aR, aR, aR, aR, trivial⟩, trivial⟩))
   rintro ⟨v1, v2⟩ τ19 Γ19 y19_ ⟨hw19, hd19⟩ h19_ ho19 hr19
   refine RunC.wl (τ' := [(1, i64 16), (8, b false), (9, str a0), (10, ik .u64 1152921504606846976), (11, ik .u64 4294967295), (12, b false), (13, ik .u64 v1), (99, sl (bytI a0).length ((bytI a0).map (ik .u8))), (100, i64 ((bytI a0).length : Int)), (101, i64 v2)]) (Γ' := []) hw19 hd19 ?_
   replace h19_ : x_internal_strconv_ParseUint_b3 a0 v1 v2 = some y19_ := h19_
   unfold x_internal_strconv_ParseUint_b3 at h19_
   refine RunC.seq ?_
   rcases bsel_some h19_ with ⟨hc2, h19_⟩ | ⟨hc2, h19_⟩
   ·refine RunC.regionW ?_
    refine zl (r := b true) (LOp.eqb (LOp.lss rfl rfl rfl) hc2) ?_
    refine zN ?_
    refine RunC.seq ?_
    refine RunC.cond_true rfl rfl ?_
    refine RunC.skip ?_
    refine RunC.seq ?_
    refine RunC.block ?_
    refine RunC.seq ?_
    obtain ⟨e3, he3, h19_⟩ := obind_some h19_
    refine RunC.regionW ?_
    refine zl (r := ptr [ik .u8 e3]) (LOp.le (LOp.ix (f := (ik .u8)) und22 siz5 rfl rfl rfl rfl he3) ALe.ptr) ?_
    refine zl (r := ik .u8 e3) (LOp.load1 agg5 rfl rfl) ?_
    refine za (r := ik .u8 e3) ?_
    refine zN ?_
    refine zQ ?_
    refine za (r := ik .u8 0) ?_
    refine zN ?_
    refine RunC.seq ?_
    refine RunC.cutN (fun τ Γ => ∃ (v26 : Int), WeakLe τ [(1, i64 16), (8, b false), (9, str a0), (10, ik .u64 1152921504606846976), (11, ik .u64 4294967295), (12, b false), (13, ik .u64 v1), (16, ik .u8 v26), (99, sl (bytI a0).length ((bytI a0).map (ik .u8))), (100, i64 ((bytI a0).length : Int)), (101, i64 v2)] ∧ DeadLe Γ [] ∧ x_internal_strconv_ParseUint_k2 v1 v2 v26 = some y19_) ?_ ?_
    ·refine RunC.block ?_
     refine RunC.seq ?_
     rcases bsel_some h19_ with ⟨hc4, h19_⟩ | ⟨hc4, h19_⟩
     ·refine RunC.regionW ?_
      refine zm (r := ik .u8 e3) ?_
      refine zl (r := b true) (LOp.eqb (LOp.eql rfl rfl rfl) hc4) ?_
      refine zm (r := b true) ?_
      refine zm (r := b false) ?_
      refine zl (r := b false) (LOp.pick_true rfl rfl rfl) ?_
      refine za (r := b false) ?_
      refine zN ?_
      refine RunC.cond_false rfl rfl ?_
      refine RunC.seq ?_
      rcases bsel_some h19_ with ⟨hc5, h19_⟩ | ⟨hc5, h19_⟩
      ·rcases bsel_some h19_ with ⟨hc6, h19_⟩ | ⟨hc6, h19_⟩
       ·refine RunC.regionW ?_
        refine zm (r := ik .u8 e3) ?_
        refine zl (r := b true) (LOp.eqb (LOp.leq rfl rfl rfl) hc5) ?_
        refine zm (r := b true) ?_
        refine zm (r := ik .u8 e3) ?_
        refine zl (r := b true) (LOp.eqb (LOp.leq rfl rfl rfl) hc6) ?_
        refine zl (r := b true) (LOp.pick_true rfl rfl rfl) ?_
        refine za (r := b true) ?_
        refine zN ?_
        refine RunC.cond_true rfl rfl ?_
        obtain ⟨x4, hx7, h19_⟩ := olet_some h19_
        refine RunC.regionW ?_
        refine zm (r := ik .u8 e3) ?_
        refine zl (r := ik .u8 x4) (LOp.eqr (LOp.sub rfl rfl rfl) (congrArg (ik .u8) hx7)) ?_
        refine za (r := ik .u8 x4) ?_
        refine zN ?_
        exact ⟨x4, ⟨aR, aR, aR, aR, aR, aR, aR, aR, aR, aR, aR, trivial⟩, trivial, h19_⟩
       ·refine RunC.regionW ?_
        refine zm (r := ik .u8 e3) ?_
        refine zl (r := b true) (LOp.eqb (LOp.leq rfl rfl rfl) hc5) ?_
        refine zm (r := b true) ?_
        refine zm (r := ik .u8 e3) ?_
        refine zl (r := b false) (LOp.eqb (LOp.leq rfl rfl rfl) hc6) ?_
        refine zl (r := b false) (LOp.pick_true rfl rfl rfl) ?_
        refine za (r := b false) ?_
        refine zN ?_
        refine RunC.cond_false rfl rfl ?_
        refine RunC.seq ?_
        obtain ⟨r5, hf8, h19_⟩ := obind_some h19_
        rcases bsel_some h19_ with ⟨hc9, h19_⟩ | ⟨hc9, h19_⟩
        ·obtain ⟨r6, hf10, h19_⟩ := obind_some h19_
         rcases bsel_some h19_ with ⟨hc11, h19_⟩ | ⟨hc11, h19_⟩
         ·refine RunC.regionW ?_
          refine zm (r := ik .u8 e3) ?_
          refine ROps.d (r := ik .u8 r5) (fs := []) (Γ' := []) rfl rfl rfl (TOp.callB (CallAs.func ent124 rfl rfl) (Bors.cons (Bor.pure rfl) Bors.nil) rfl rfl (x_internal_strconv_lower_ok e3 r5 hf8)) rfl ?_
          refine zl (r := b true) (LOp.eqb (LOp.leq rfl rfl rfl) hc9) ?_
          refine zm (r := b true) ?_
          refine zm (r := ik .u8 e3) ?_
          refine ROps.d (r := ik .u8 r6) (fs := []) (Γ' := []) rfl rfl rfl (TOp.callB (CallAs.func ent124 rfl rfl) (Bors.cons (Bor.pure rfl) Bors.nil) rfl rfl (x_internal_strconv_lower_ok e3 r6 hf10)) rfl ?_
          refine zl (r := b true) (LOp.eqb (LOp.leq rfl rfl rfl) hc11) ?_
          refine zl (r := b true) (LOp.pick_true rfl rfl rfl) ?_
          refine za (r := b true) ?_
          refine zN ?_
          refine RunC.wl (τ' := [(1, i64 16), (8, b false), (9, str a0), (10, ik .u64 1152921504606846976), (11, ik .u64 4294967295), (12, b false), (13, ik .u64 v1), (15, ik .u8 e3), (99, sl (bytI a0).length ((bytI a0).map (ik .u8))), (100, i64 ((bytI a0).length : Int)), (101, i64 v2), (110, b false), (116, ik .u8 e3), (117, b false), (121, b true), (126, ik .u8 e3), (127, ik .u8 r6), (128, b true)]) (Γ' := []) ⟨aR, aR, aR, aR, aR, aR, aR, aR, aR, aR, aR, aR, aR, aR, aR, aR, aR, aR, trivial⟩ trivial ?_
          refine RunC.cond_true rfl rfl ?_
          obtain ⟨r7, hf12, h19_⟩ := obind_some h19_
          obtain ⟨x8, hx13, h19_⟩ := olet_some h19_
          obtain ⟨x9, hx14, h19_⟩ := olet_some h19_
          refine RunC.regionW ?_
          refine zm (r := ik .u8 e3) ?_
          refine ROps.d (r := ik .u8 r7) (fs := []) (Γ' := []) rfl rfl rfl (TOp.callB (CallAs.func ent124 rfl rfl) (Bors.cons (Bor.pure rfl) Bors.nil) rfl rfl (x_internal_strconv_lower_ok e3 r7 hf12)) rfl ?_
          refine zl (r := ik .u8 x8) (LOp.eqr (LOp.sub rfl rfl rfl) (congrArg (ik .u8) hx13)) ?_
          refine zl (r := ik .u8 x9) (LOp.eqr (LOp.add rfl rfl rfl) (congrArg (ik .u8) hx14)) ?_
          refine za (r := ik .u8 x9) ?_
          refine zN ?_
          exact ⟨x9, ⟨aR, aR, aR, aR, aR, aR, aR, aR, aR, aR, aR, trivial⟩, trivial, h19_⟩
         ·refine RunC.regionW ?_
          refine zm (r := ik .u8 e3) ?_
          refine ROps.d (r := ik .u8 r5) (fs := []) (Γ' := []) rfl rfl rfl (TOp.callB (CallAs.func ent124 rfl rfl) (Bors.cons (Bor.pure rfl) Bors.nil) rfl rfl (x_internal_strconv_lower_ok e3 r5 hf8)) rfl ?_
          refine zl (r := b true) (LOp.eqb (LOp.leq rfl rfl rfl) hc9) ?_
          refine zm (r := b true) ?_
          refine zm (r := ik .u8 e3) ?_
          refine ROps.d (r := ik .u8 r6) (fs := []) (Γ' := []) rfl rfl rfl (TOp.callB (CallAs.func ent124 rfl rfl) (Bors.cons (Bor.pure rfl) Bors.nil) rfl rfl (x_internal_strconv_lower_ok e3 r6 hf10)) rfl ?_
          refine zl (r := b false) (LOp.eqb (LOp.leq rfl rfl rfl) hc11) ?_
          refine zl (r := b false) (LOp.pick_true rfl rfl rfl) ?_
          refine za (r := b false) ?_
          refine zN ?_
          refine RunC.wl (τ' := [(1, i64 16), (8, b false), (9, str a0), (10, ik .u64 1152921504606846976), (11, ik .u64 4294967295), (12, b false), (13, ik .u64 v1), (15, ik .u8 e3), (99, sl (bytI a0).length ((bytI a0).map (ik .u8))), (100, i64 ((bytI a0).length : Int)), (101, i64 v2), (110, b false), (116, ik .u8 e3), (117, b false), (121, b false), (126, ik .u8 e3), (127, ik .u8 r6), (128, b false)]) (Γ' := []) ⟨aR, aR, aR, aR, aR, aR, aR, aR, aR, aR, aR, aR, aR, aR, aR, aR, aR, aR, trivial⟩ trivial ?_
          refine RunC.cond_false rfl rfl ?_
          refine zQ ?_
          refine zl (r := x (.iface 140 (.int .i64 2))) (LOp.mkif (v := .int .i64 2) und140 rfl rfl) ?_
          refine za (r := ik .u64 0) ?_
          refine za (r := x (.iface 140 (.int .i64 2))) ?_
          refine zN ?_
          cases Option.some.inj h19_
          have hx20_ := hr19 _ rfl
          subst hx20_
          cases Option.some.inj h
        ·refine RunC.regionW ?_
         refine zm (r := ik .u8 e3) ?_
         refine ROps.d (r := ik .u8 r5) (fs := []) (Γ' := []) rfl rfl rfl (TOp.callB (CallAs.func ent124 rfl rfl) (Bors.cons (Bor.pure rfl) Bors.nil) rfl rfl (x_internal_strconv_lower_ok e3 r5 hf8)) rfl ?_
         refine zl (r := b false) (LOp.eqb (LOp.leq rfl rfl rfl) hc9) ?_
         refine zm (r := b false) ?_
         iterate 3 (refine ROps.s rfl rfl rfl ?_)
         refine zl (r := b false) (LOp.pick_false rfl rfl rfl) ?_
         refine za (r := b false) ?_
         refine zN ?_
         refine RunC.wl (τ' := [(1, i64 16), (8, b false), (9, str a0), (10, ik .u64 1152921504606846976), (11, ik .u64 4294967295), (12, b false), (13, ik .u64 v1), (15, ik .u8 e3), (99, sl (bytI a0).length ((bytI a0).map (ik .u8))), (100, i64 ((bytI a0).length : Int)), (101, i64 v2), (110, b false), (116, ik .u8 e3), (117, b false), (121, b false)]) (Γ' := []) ⟨aR, aR, aR, aR, aR, aR, aR, aR, aR, aR, aR, aR, aR, aR, aR, trivial⟩ trivial ?_
         refine RunC.cond_false rfl rfl ?_
         refine zQ ?_
         refine zl (r := x (.iface 140 (.int .i64 2))) (LOp.mkif (v := .int .i64 2) und140 rfl rfl) ?_
         refine za (r := ik .u64 0) ?_
         refine za (r := x (.iface 140 (.int .i64 2))) ?_
         refine zN ?_
         cases Option.some.inj h19_
         have hx21_ := hr19 _ rfl
         subst hx21_
         cases Option.some.inj h
      ·refine RunC.regionW ?_
       refine zm (r := ik .u8 e3) ?_
       refine zl (r := b false) (LOp.eqb (LOp.leq rfl rfl rfl) hc5) ?_
       refine zm (r := b false) ?_
       iterate 2 (refine ROps.s rfl rfl rfl ?_)
       refine zl (r := b false) (LOp.pick_false rfl rfl rfl) ?_
       refine za (r := b false) ?_
       refine zN ?_
       refine RunC.cond_false rfl rfl ?_
       refine RunC.seq ?_
       obtain ⟨r10, hf15, h19_⟩ := obind_some h19_
       rcases bsel_some h19_ with ⟨hc16, h19_⟩ | ⟨hc16, h19_⟩
       ·obtain ⟨r11, hf17, h19_⟩ := obind_some h19_
        rcases bsel_some h19_ with ⟨hc18, h19_⟩ | ⟨hc18, h19_⟩
        ·refine RunC.regionW ?_
         refine zm (r := ik .u8 e3) ?_
         refine ROps.d (r := ik .u8 r10) (fs := []) (Γ' := []) rfl rfl rfl (TOp.callB (CallAs.func ent124 rfl rfl) (Bors.cons (Bor.pure rfl) Bors.nil) rfl rfl (x_internal_strconv_lower_ok e3 r10 hf15)) rfl ?_
         refine zl (r := b true) (LOp.eqb (LOp.leq rfl rfl rfl) hc16) ?_
         refine zm (r := b true) ?_
         refine zm (r := ik .u8 e3) ?_
         refine ROps.d (r := ik .u8 r11) (fs := []) (Γ' := []) rfl rfl rfl (TOp.callB (CallAs.func ent124 rfl rfl) (Bors.cons (Bor.pure rfl) Bors.nil) rfl rfl (x_internal_strconv_lower_ok e3 r11 hf17)) rfl ?_
         refine zl (r := b true) (LOp.eqb (LOp.leq rfl rfl rfl) hc18) ?_
         refine zl (r := b true) (LOp.pick_true rfl rfl rfl) ?_
         refine za (r := b true) ?_
         refine zN ?_
         refine RunC.wl (τ' := [(1, i64 16), (8, b false), (9, str a0), (10, ik .u64 1152921504606846976), (11, ik .u64 4294967295), (12, b false), (13, ik .u64 v1), (15, ik .u8 e3), (99, sl (bytI a0).length ((bytI a0).map (ik .u8))), (100, i64 ((bytI a0).length : Int)), (101, i64 v2), (110, b false), (121, b true), (126, ik .u8 e3), (127, ik .u8 r11), (128, b true)]) (Γ' := []) ⟨aR, aR, aR, aR, aR, aR, aR, aR, aR, aR, aR, aR, aR, aR, aR, aR, trivial⟩ trivial ?_
         refine RunC.cond_true rfl rfl ?_
         obtain ⟨r12, hf19, h19_⟩ := obind_some h19_
         obtain ⟨x13, hx20, h19_⟩ := olet_some h19_
         obtain ⟨x14, hx21, h19_⟩ := olet_some h19_
         refine RunC.regionW ?_
         refine zm (r := ik .u8 e3) ?_
         refine ROps.d (r := ik .u8 r12) (fs := []) (Γ' := []) rfl rfl rfl (TOp.callB (CallAs.func ent124 rfl rfl) (Bors.cons (Bor.pure rfl) Bors.nil) rfl rfl (x_internal_strconv_lower_ok e3 r12 hf19)) rfl ?_
         refine zl (r := ik .u8 x13) (LOp.eqr (LOp.sub rfl rfl rfl) (congrArg (ik .u8) hx20)) ?_
         refine zl (r := ik .u8 x14) (LOp.eqr (LOp.add rfl rfl rfl) (congrArg (ik .u8) hx21)) ?_
         refine za (r := ik .u8 x14) ?_
         refine zN ?_
         exact ⟨x14, ⟨aR, aR, aR, aR, aR, aR, aR, aR, aR, aR, aR, trivial⟩, trivial, h19_⟩
        ·refine RunC.regionW ?_
         refine zm (r := ik .u8 e3) ?_
         refine ROps.d (r := ik .u8 r10) (fs := []) (Γ' := []) rfl rfl rfl (TOp.callB (CallAs.func ent124 rfl rfl) (Bors.cons (Bor.pure rfl) Bors.nil) rfl rfl (x_internal_strconv_lower_ok e3 r10 hf15)) rfl ?_
         refine zl (r := b true) (LOp.eqb (LOp.leq rfl rfl rfl) hc16) ?_
         refine zm (r := b true) ?_
         refine zm (r := ik .u8 e3) ?_
         refine ROps.d (r := ik .u8 r11) (fs := []) (Γ' := []) rfl rfl rfl (TOp.callB (CallAs.func ent124 rfl rfl) (Bors.cons (Bor.pure rfl) Bors.nil) rfl rfl (x_internal_strconv_lower_ok e3 r11 hf17)) rfl ?_
         refine zl (r := b false) (LOp.eqb (LOp.leq rfl rfl rfl) hc18) ?_
         refine zl (r := b false) (LOp.pick_true rfl rfl rfl) ?_
         refine za (r := b false) ?_
         refine zN ?_
         refine RunC.wl (τ' := [(1, i64 16), (8, b false), (9, str a0), (10, ik .u64 1152921504606846976), (11, ik .u64 4294967295), (12, b false), (13, ik .u64 v1), (15, ik .u8 e3), (99, sl (bytI a0).length ((bytI a0).map (ik .u8))), (100, i64 ((bytI a0).length : Int)), (101, i64 v2), (110, b false), (121, b false), (126, ik .u8 e3), (127, ik .u8 r11), (128, b false)]) (Γ' := []) ⟨aR, aR, aR, aR, aR, aR, aR, aR, aR, aR, aR, aR, aR, aR, aR, aR, trivial⟩ trivial ?_
         refine RunC.cond_false rfl rfl ?_
         refine zQ ?_
         refine zl (r := x (.iface 140 (.int .i64 2))) (LOp.mkif (v := .int .i64 2) und140 rfl rfl) ?_
         refine za (r := ik .u64 0) ?_
         refine za (r := x (.iface 140 (.int .i64 2))) ?_
         refine zN ?_
         cases Option.some.inj h19_
         have hx22_ := hr19 _ rfl
         subst hx22_
         cases Option.some.inj h
       ·refine RunC.regionW ?_
        refine zm (r := ik .u8 e3) ?_
        refine ROps.d (r := ik .u8 r10) (fs := []) (Γ' := []) rfl rfl rfl (TOp.callB (CallAs.func ent124 rfl rfl) (Bors.cons (Bor.pure rfl) Bors.nil) rfl rfl (x_internal_strconv_lower_ok e3 r10 hf15)) rfl ?_
        refine zl (r := b false) (LOp.eqb (LOp.leq rfl rfl rfl) hc16) ?_
        refine zm (r := b false) ?_
        iterate 3 (refine ROps.s rfl rfl rfl ?_)
        refine zl (r := b false) (LOp.pick_false rfl rfl rfl) ?_
        refine za (r := b false) ?_
        refine zN ?_
        refine RunC.wl (τ' := [(1, i64 16), (8, b false), (9, str a0), (10, ik .u64 1152921504606846976), (11, ik .u64 4294967295), (12, b false), (13, ik .u64 v1), (15, ik .u8 e3), (99, sl (bytI a0).length ((bytI a0).map (ik .u8))), (100, i64 ((bytI a0).length : Int)), (101, i64 v2), (110, b false), (121, b false)]) (Γ' := []) ⟨aR, aR, aR, aR, aR, aR, aR, aR, aR, aR, aR, aR, aR, trivial⟩ trivial ?_
        refine RunC.cond_false rfl rfl ?_
        refine zQ ?_
        refine zl (r := x (.iface 140 (.int .i64 2))) (LOp.mkif (v := .int .i64 2) und140 rfl rfl) ?_
        refine za (r := ik .u64 0) ?_
        refine za (r := x (.iface 140 (.int .i64 2))) ?_
        refine zN ?_
        cases Option.some.inj h19_
        have hx23_ := hr19 _ rfl
        subst hx23_
        cases Option.some.inj h
     ·refine RunC.regionW ?_
      refine zm (r := ik .u8 e3) ?_
      refine zl (r := b false) (LOp.eqb (LOp.eql rfl rfl rfl) hc4) ?_
      refine zm (r := b false) ?_
      refine ROps.s rfl rfl rfl ?_
      refine zl (r := b false) (LOp.pick_false rfl rfl rfl) ?_
      refine za (r := b false) ?_
      refine zN ?_
      refine RunC.cond_false rfl rfl ?_
      refine RunC.seq ?_
      rcases bsel_some h19_ with ⟨hc22, h19_⟩ | ⟨hc22, h19_⟩
      ·rcases bsel_some h19_ with ⟨hc23, h19_⟩ | ⟨hc23, h19_⟩
       ·refine RunC.regionW ?_
        refine zm (r := ik .u8 e3) ?_
        refine zl (r := b true) (LOp.eqb (LOp.leq rfl rfl rfl) hc22) ?_
        refine zm (r := b true) ?_
        refine zm (r := ik .u8 e3) ?_
        refine zl (r := b true) (LOp.eqb (LOp.leq rfl rfl rfl) hc23) ?_
        refine zl (r := b true) (LOp.pick_true rfl rfl rfl) ?_
        refine za (r := b true) ?_
        refine zN ?_
        refine RunC.cond_true rfl rfl ?_
        obtain ⟨x15, hx24, h19_⟩ := olet_some h19_
        refine RunC.regionW ?_
        refine zm (r := ik .u8 e3) ?_
        refine zl (r := ik .u8 x15) (LOp.eqr (LOp.sub rfl rfl rfl) (congrArg (ik .u8) hx24)) ?_
        refine za (r := ik .u8 x15) ?_
        refine zN ?_
        exact ⟨x15, ⟨aR, aR, aR, aR, aR, aR, aR, aR, aR, aR, aR, trivial⟩, trivial, h19_⟩
       ·refine RunC.regionW ?_
        refine zm (r := ik .u8 e3) ?_
        refine zl (r := b true) (LOp.eqb (LOp.leq rfl rfl rfl) hc22) ?_
        refine zm (r := b true) ?_
        refine zm (r := ik .u8 e3) ?_
        refine zl (r := b false) (LOp.eqb (LOp.leq rfl rfl rfl) hc23) ?_
        refine zl (r := b false) (LOp.pick_true rfl rfl rfl) ?_
        refine za (r := b false) ?_
        refine zN ?_
        refine RunC.cond_false rfl rfl ?_
        refine RunC.seq ?_
        obtain ⟨r16, hf25, h19_⟩ := obind_some h19_
        rcases bsel_some h19_ with ⟨hc26, h19_⟩ | ⟨hc26, h19_⟩
        ·obtain ⟨r17, hf27, h19_⟩ := obind_some h19_
         rcases bsel_some h19_ with ⟨hc28, h19_⟩ | ⟨hc28, h19_⟩
         ·refine RunC.regionW ?_
          refine zm (r := ik .u8 e3) ?_
          refine ROps.d (r := ik .u8 r16) (fs := []) (Γ' := []) rfl rfl rfl (TOp.callB (CallAs.func ent124 rfl rfl) (Bors.cons (Bor.pure rfl) Bors.nil) rfl rfl (x_internal_strconv_lower_ok e3 r16 hf25)) rfl ?_
          refine zl (r := b true) (LOp.eqb (LOp.leq rfl rfl rfl) hc26) ?_
          refine zm (r := b true) ?_
          refine zm (r := ik .u8 e3) ?_
          refine ROps.d (r := ik .u8 r17) (fs := []) (Γ' := []) rfl rfl rfl (TOp.callB (CallAs.func ent124 rfl rfl) (Bors.cons (Bor.pure rfl) Bors.nil) rfl rfl (x_internal_strconv_lower_ok e3 r17 hf27)) rfl ?_
          refine zl (r := b true) (LOp.eqb (LOp.leq rfl rfl rfl) hc28) ?_
          refine zl (r := b true) (LOp.pick_true rfl rfl rfl) ?_
          refine za (r := b true) ?_
          refine zN ?_
          refine RunC.wl (τ' := [(1, i64 16), (8, b false), (9, str a0), (10, ik .u64 1152921504606846976), (11, ik .u64 4294967295), (12, b false), (13, ik .u64 v1), (15, ik .u8 e3), (99, sl (bytI a0).length ((bytI a0).map (ik .u8))), (100, i64 ((bytI a0).length : Int)), (101, i64 v2), (116, ik .u8 e3), (117, b false), (121, b true), (126, ik .u8 e3), (127, ik .u8 r17), (128, b true)]) (Γ' := []) ⟨aR, aR, aR, aR, aR, aR, aR, aR, aR, aR, aR, aR, aR, aR, aR, aR, aR, trivial⟩ trivial ?_
          refine RunC.cond_true rfl rfl ?_
          obtain ⟨r18, hf29, h19_⟩ := obind_some h19_
          obtain ⟨x19, hx30, h19_⟩ := olet_some h19_
          obtain ⟨x20, hx31, h19_⟩ := olet_some h19_
          refine RunC.regionW ?_
          refine zm (r := ik .u8 e3) ?_
          refine ROps.d (r := ik .u8 r18) (fs := []) (Γ' := []) rfl rfl rfl (TOp.callB (CallAs.func ent124 rfl rfl) (Bors.cons (Bor.pure rfl) Bors.nil) rfl rfl (x_internal_strconv_lower_ok e3 r18 hf29)) rfl ?_
          refine zl (r := ik .u8 x19) (LOp.eqr (LOp.sub rfl rfl rfl) (congrArg (ik .u8) hx30)) ?_
          refine zl (r := ik .u8 x20) (LOp.eqr (LOp.add rfl rfl rfl) (congrArg (ik .u8) hx31)) ?_
          refine za (r := ik .u8 x20) ?_
          refine zN ?_
          exact ⟨x20, ⟨aR, aR, aR, aR, aR, aR, aR, aR, aR, aR, aR, trivial⟩, trivial, h19_⟩
         ·refine RunC.regionW ?_
          refine zm (r := ik .u8 e3) ?_
          refine ROps.d (r := ik .u8 r16) (fs := []) (Γ' := []) rfl rfl rfl (TOp.callB (CallAs.func ent124 rfl rfl) (Bors.cons (Bor.pure rfl) Bors.nil) rfl rfl (x_internal_strconv_lower_ok e3 r16 hf25)) rfl ?_
          refine zl (r := b true) (LOp.eqb (LOp.leq rfl rfl rfl) hc26) ?_
          refine zm (r := b true) ?_
          refine zm (r := ik .u8 e3) ?_
          refine ROps.d (r := ik .u8 r17) (fs := []) (Γ' := []) rfl rfl rfl (TOp.callB (CallAs.func ent124 rfl rfl) (Bors.cons (Bor.pure rfl) Bors.nil) rfl rfl (x_internal_strconv_lower_ok e3 r17 hf27)) rfl ?_
          refine zl (r := b false) (LOp.eqb (LOp.leq rfl rfl rfl) hc28) ?_
          refine zl (r := b false) (LOp.pick_true rfl rfl rfl) ?_
          refine za (r := b false) ?_
          refine zN ?_
          refine RunC.wl (τ' := [(1, i64 16), (8, b false), (9, str a0), (10, ik .u64 1152921504606846976), (11, ik .u64 4294967295), (12, b false), (13, ik .u64 v1), (15, ik .u8 e3), (99, sl (bytI a0).length ((bytI a0).map (ik .u8))), (100, i64 ((bytI a0).length : Int)), (101, i64 v2), (116, ik .u8 e3), (117, b false), (121, b false), (126, ik .u8 e3), (127, ik .u8 r17), (128, b false)]) (Γ' := []) ⟨aR, aR, aR, aR, aR, aR, aR, aR, aR, aR, aR, aR, aR, aR, aR, aR, aR, trivial⟩ trivial ?_
          refine RunC.cond_false rfl rfl ?_
          refine zQ ?_
          refine zl (r := x (.iface 140 (.int .i64 2))) (LOp.mkif (v := .int .i64 2) und140 rfl rfl) ?_
          refine za (r := ik .u64 0) ?_
          refine za (r := x (.iface 140 (.int .i64 2))) ?_
          refine zN ?_
          cases Option.some.inj h19_
          have hx24_ := hr19 _ rfl
          subst hx24_
          cases Option.some.inj h
        ·refine RunC.regionW ?_
         refine zm (r := ik .u8 e3) ?_
         refine ROps.d (r := ik .u8 r16) (fs := []) (Γ' := []) rfl rfl rfl (TOp.callB (CallAs.func ent124 rfl rfl) (Bors.cons (Bor.pure rfl) Bors.nil) rfl rfl (x_internal_strconv_lower_ok e3 r16 hf25)) rfl ?_
         refine zl (r := b false) (LOp.eqb (LOp.leq rfl rfl rfl) hc26) ?_
         refine zm (r := b false) ?_
         iterate 3 (refine ROps.s rfl rfl rfl ?_)
         refine zl (r := b false) (LOp.pick_false rfl rfl rfl) ?_
         refine za (r := b false) ?_
         refine zN ?_
         refine RunC.wl (τ' := [(1, i64 16), (8, b false), (9, str a0), (10, ik .u64 1152921504606846976), (11, ik .u64 4294967295), (12, b false), (13, ik .u64 v1), (15, ik .u8 e3), (99, sl (bytI a0).length ((bytI a0).map (ik .u8))), (100, i64 ((bytI a0).length : Int)), (101, i64 v2), (116, ik .u8 e3), (117, b false), (121, b false)]) (Γ' := []) ⟨aR, aR, aR, aR, aR, aR, aR, aR, aR, aR, aR, aR, aR, aR, trivial⟩ trivial ?_
         refine RunC.cond_false rfl rfl ?_
         refine zQ ?_
         refine zl (r := x (.iface 140 (.int .i64 2))) (LOp.mkif (v := .int .i64 2) und140 rfl rfl) ?_
         refine za (r := ik .u64 0) ?_
         refine za (r := x (.iface 140 (.int .i64 2))) ?_
         refine zN ?_
         cases Option.some.inj h19_
         have hx25_ := hr19 _ rfl
         subst hx25_
         cases Option.some.inj h
      ·refine RunC.regionW ?_
       refine zm (r := ik .u8 e3) ?_
       refine zl (r := b false) (LOp.eqb (LOp.leq rfl rfl rfl) hc22) ?_
       refine zm (r := b false) ?_
       iterate 2 (refine ROps.s rfl rfl rfl ?_)
       refine zl (r := b false) (LOp.pick_false rfl rfl rfl) ?_
       refine za (r := b false) ?_
       refine zN ?_
       refine RunC.cond_false rfl rfl ?_
       refine RunC.seq ?_
       obtain ⟨r21, hf32, h19_⟩ := obind_some h19_
       rcases bsel_some h19_ with ⟨hc33, h19_⟩ | ⟨hc33, h19_⟩
       ·obtain ⟨r22, hf34, h19_⟩ := obind_some h19_
        rcases bsel_some h19_ with ⟨hc35, h19_⟩ | ⟨hc35, h19_⟩
        ·refine RunC.regionW ?_
         refine zm (r := ik .u8 e3) ?_
         refine ROps.d (r := ik .u8 r21) (fs := []) (Γ' := []) rfl rfl rfl (TOp.callB (CallAs.func ent124 rfl rfl) (Bors.cons (Bor.pure rfl) Bors.nil) rfl rfl (x_internal_strconv_lower_ok e3 r21 hf32)) rfl ?_
         refine zl (r := b true) (LOp.eqb (LOp.leq rfl rfl rfl) hc33) ?_
         refine zm (r := b true) ?_
         refine zm (r := ik .u8 e3) ?_
         refine ROps.d (r := ik .u8 r22) (fs := []) (Γ' := []) rfl rfl rfl (TOp.callB (CallAs.func ent124 rfl rfl) (Bors.cons (Bor.pure rfl) Bors.nil) rfl rfl (x_internal_strconv_lower_ok e3 r22 hf34)) rfl ?_
         refine zl (r := b true) (LOp.eqb (LOp.leq rfl rfl rfl) hc35) ?_
         refine zl (r := b true) (LOp.pick_true rfl rfl rfl) ?_
         refine za (r := b true) ?_
         refine zN ?_
         refine RunC.wl (τ' := [(1, i64 16), (8, b false), (9, str a0), (10, ik .u64 1152921504606846976), (11, ik .u64 4294967295), (12, b false), (13, ik .u64 v1), (15, ik .u8 e3), (99, sl (bytI a0).length ((bytI a0).map (ik .u8))), (100, i64 ((bytI a0).length : Int)), (101, i64 v2), (121, b true), (126, ik .u8 e3), (127, ik .u8 r22), (128, b true)]) (Γ' := []) ⟨aR, aR, aR, aR, aR, aR, aR, aR, aR, aR, aR, aR, aR, aR, aR, trivial⟩ trivial ?_
         refine RunC.cond_true rfl rfl ?_
         obtain ⟨r23, hf36, h19_⟩ := obind_some h19_
         obtain ⟨x24, hx37, h19_⟩ := olet_some h19_
         obtain ⟨x25, hx38, h19_⟩ := olet_some h19_
         refine RunC.regionW ?_
         refine zm (r := ik .u8 e3) ?_
         refine ROps.d (r := ik .u8 r23) (fs := []) (Γ' := []) rfl rfl rfl (TOp.callB (CallAs.func ent124 rfl rfl) (Bors.cons (Bor.pure rfl) Bors.nil) rfl rfl (x_internal_strconv_lower_ok e3 r23 hf36)) rfl ?_
         refine zl (r := ik .u8 x24) (LOp.eqr (LOp.sub rfl rfl rfl) (congrArg (ik .u8) hx37)) ?_
         refine zl (r := ik .u8 x25) (LOp.eqr (LOp.add rfl rfl rfl) (congrArg (ik .u8) hx38)) ?_
         refine za (r := ik .u8 x25) ?_
         refine zN ?_
         exact ⟨x25, ⟨aR, aR, aR, aR, aR, aR, aR, aR, aR, aR, aR, trivial⟩, trivial, h19_⟩
        ·refine RunC.regionW ?_
         refine zm (r := ik .u8 e3) ?_
         refine ROps.d (r := ik .u8 r21) (fs := []) (Γ' := []) rfl rfl rfl (TOp.callB (CallAs.func ent124 rfl rfl) (Bors.cons (Bor.pure rfl) Bors.nil) rfl rfl (x_internal_strconv_lower_ok e3 r21 hf32)) rfl ?_
         refine zl (r := b true) (LOp.eqb (LOp.leq rfl rfl rfl) hc33) ?_
         refine zm (r := b true) ?_
         refine zm (r := ik .u8 e3) ?_
         refine ROps.d (r := ik .u8 r22) (fs := []) (Γ' := []) rfl rfl rfl (TOp.callB (CallAs.func ent124 rfl rfl) (Bors.cons (Bor.pure rfl) Bors.nil) rfl rfl (x_internal_strconv_lower_ok e3 r22 hf34)) rfl ?_
         refine zl (r := b false) (LOp.eqb (LOp.leq rfl rfl rfl) hc35) ?_
         refine zl (r := b false) (LOp.pick_true rfl rfl rfl) ?_
         refine za (r := b false) ?_
         refine zN ?_
         refine RunC.wl (τ' := [(1, i64 16), (8, b false), (9, str a0), (10, ik .u64 1152921504606846976), (11, ik .u64 4294967295), (12, b false), (13, ik .u64 v1), (15, ik .u8 e3), (99, sl (bytI a0).length ((bytI a0).map (ik .u8))), (100, i64 ((bytI a0).length : Int)), (101, i64 v2), (121, b false), (126, ik .u8 e3), (127, ik .u8 r22), (128, b false)]) (Γ' := []) ⟨aR, aR, aR, aR, aR, aR, aR, aR, aR, aR, aR, aR, aR, aR, aR, trivial⟩ trivial ?_
         refine RunC.cond_false rfl rfl ?_
         refine zQ ?_
         refine zl (r := x (.iface 140 (.int .i64 2))) (LOp.mkif (v := .int .i64 2) und140 rfl rfl) ?_
         refine za (r := ik .u64 0) ?_
         refine za (r := x (.iface 140 (.int .i64 2))) ?_
         refine zN ?_
         cases Option.some.inj h19_
         have hx26_ := hr19 _ rfl
         subst hx26_
         cases Option.some.inj h
       ·refine RunC.regionW ?_
        refine zm (r := ik .u8 e3) ?_
        refine ROps.d (r := ik .u8 r21) (fs := []) (Γ' := []) rfl rfl rfl (TOp.callB (CallAs.func ent124 rfl rfl) (Bors.cons (Bor.pure rfl) Bors.nil) rfl rfl (x_internal_strconv_lower_ok e3 r21 hf32)) rfl ?_
        refine zl (r := b false) (LOp.eqb (LOp.leq rfl rfl rfl) hc33) ?_
        refine zm (r := b false) ?_
        iterate 3 (refine ROps.s rfl rfl rfl ?_)
        refine zl (r := b false) (LOp.pick_false rfl rfl rfl) ?_
        refine za (r := b false) ?_
        refine zN ?_
        refine RunC.wl (τ' := [(1, i64 16), (8, b false), (9, str a0), (10, ik .u64 1152921504606846976), (11, ik .u64 4294967295), (12, b false), (13, ik .u64 v1), (15, ik .u8 e3), (99, sl (bytI a0).length ((bytI a0).map (ik .u8))), (100, i64 ((bytI a0).length : Int)), (101, i64 v2), (121, b false)]) (Γ' := []) ⟨aR, aR, aR, aR, aR, aR, aR, aR, aR, aR, aR, aR, trivial⟩ trivial ?_
        refine RunC.cond_false rfl rfl ?_
        refine zQ ?_
        refine zl (r := x (.iface 140 (.int .i64 2))) (LOp.mkif (v := .int .i64 2) und140 rfl rfl) ?_
        refine za (r := ik .u64 0) ?_
        refine za (r := x (.iface 140 (.int .i64 2))) ?_
        refine zN ?_
        cases Option.some.inj h19_
        have hx27_ := hr19 _ rfl
        subst hx27_
        cases Option.some.inj h
    ·rintro τ28 Γ28 ⟨v26, hw28, hd28, h19_⟩
     refine RunC.wl hw28 hd28 ?_
     unfold x_internal_strconv_ParseUint_k2 at h19_
     iterate 2 (refine RunC.seq ?_)
     rcases bsel_some h19_ with ⟨hc39, h19_⟩ | ⟨hc39, h19_⟩
     ·refine RunC.regionW ?_
      refine zm (r := ik .u8 v26) ?_
      refine zm (r := i64 16) ?_
      refine zl (r := ik .u8 16) ((show LOp _ _ _ (ik .u8 (IntKind.u8.wrap 16)) from LOp.i2i (src := 3) (dst := 5) ⟨_, pun3⟩ pun5 rfl rfl)) ?_
      refine zl (r := b true) (LOp.eqb (LOp.geq rfl rfl rfl) hc39) ?_
      refine zN ?_
      refine RunC.cond_true rfl rfl ?_
      refine zQ ?_
      refine zl (r := x (.iface 140 (.int .i64 2))) (LOp.mkif (v := .int .i64 2) und140 rfl rfl) ?_
      refine za (r := ik .u64 0) ?_
      refine za (r := x (.iface 140 (.int .i64 2))) ?_
      refine zN ?_
      cases Option.some.inj h19_
      have hx29_ := hr19 _ rfl
      subst hx29_
      cases Option.some.inj h
     ·refine RunC.regionW ?_
      refine zm (r := ik .u8 v26) ?_
      refine zm (r := i64 16) ?_
      refine zl (r := ik .u8 16) ((show LOp _ _ _ (ik .u8 (IntKind.u8.wrap 16)) from LOp.i2i (src := 3) (dst := 5) ⟨_, pun3⟩ pun5 rfl rfl)) ?_
      refine zl (r := b false) (LOp.eqb (LOp.geq rfl rfl rfl) hc39) ?_
      refine zN ?_
      refine RunC.cond_false rfl rfl ?_
      refine RunC.skip ?_
      iterate 2 (refine RunC.seq ?_)
      rcases bsel_some h19_ with ⟨hc40, h19_⟩ | ⟨hc40, h19_⟩
      ·refine RunC.regionW ?_
       refine zm (r := ik .u64 v1) ?_
       refine zm (r := ik .u64 1152921504606846976) ?_
       refine zl (r := b true) (LOp.eqb (LOp.geq rfl rfl rfl) hc40) ?_
       refine zN ?_
       refine RunC.cond_true rfl rfl ?_
       refine zQ ?_
       refine zm (r := ik .u64 4294967295) ?_
       refine zl (r := x (.iface 140 (.int .i64 1))) (LOp.mkif (v := .int .i64 1) und140 rfl rfl) ?_
       refine za (r := ik .u64 4294967295) ?_
       refine za (r := x (.iface 140 (.int .i64 1))) ?_
       refine zN ?_
       refine RunC.ret ?_
       cases Option.some.inj h19_
       have hx30_ := hr19 _ rfl
       subst hx30_
       have hq := Option.some.inj h
       have hq := Sum.inr.inj hq
       have hq := Sum.inl.inj hq
       subst q0
       exact bodyQ.pure (.inr rfl) rfl (Res.two rfl (RV.tmp rfl) (RV.tmp rfl))
      ·refine RunC.regionW ?_
       refine zm (r := ik .u64 v1) ?_
       refine zm (r := ik .u64 1152921504606846976) ?_
       refine zl (r := b false) (LOp.eqb (LOp.geq rfl rfl rfl) hc40) ?_
       refine zN ?_
       refine RunC.cond_false rfl rfl ?_
       refine RunC.skip ?_
       refine RunC.seq ?_
       obtain ⟨x27, hx41, h19_⟩ := olet_some h19_
       refine RunC.regionW ?_
       refine zm (r := ik .u64 v1) ?_
       refine zm (r := i64 16) ?_
       refine zl (r := ik .u64 16) ((show LOp _ _ _ (ik .u64 (IntKind.u64.wrap 16)) from LOp.i2i (src := 3) (dst := 90) ⟨_, pun3⟩ pun90 rfl rfl)) ?_
       refine zl (r := ik .u64 x27) (LOp.eqr (LOp.mul rfl rfl rfl) (congrArg (ik .u64) hx41)) ?_
       refine za (r := ik .u64 x27) ?_
       refine zN ?_
       refine RunC.seq ?_
       obtain ⟨x28, hx42, h19_⟩ := olet_some h19_
       obtain ⟨x29, hx43, h19_⟩ := olet_some h19_
       refine RunC.regionW ?_
       refine zm (r := ik .u64 x27) ?_
       refine zm (r := ik .u8 v26) ?_
       refine zl (r := ik .u64 x28) (LOp.eqr (LOp.i2i (src := 5) (dst := 90) ⟨_, pun5⟩ pun90 rfl rfl) (congrArg (ik .u64) hx42)) ?_
       refine zl (r := ik .u64 x29) (LOp.eqr (LOp.add rfl rfl rfl) (congrArg (ik .u64) hx43)) ?_
       refine za (r := ik .u64 x29) ?_
       refine zN ?_
       iterate 2 (refine RunC.seq ?_)
       rcases bsel_some h19_ with ⟨hc44, h19_⟩ | ⟨hc44, h19_⟩
       ·refine RunC.regionW ?_
        refine zm (r := ik .u64 x29) ?_
        refine zm (r := ik .u64 x27) ?_
        refine zl (r := b true) (LOp.eqb (LOp.lss rfl rfl rfl) hc44) ?_
        refine zm (r := b true) ?_
        iterate 3 (refine ROps.s rfl rfl rfl ?_)
        refine zl (r := b true) (LOp.pick_true rfl rfl rfl) ?_
        refine zN ?_
        refine RunC.cond_true rfl rfl ?_
        refine zQ ?_
        refine zm (r := ik .u64 4294967295) ?_
        refine zl (r := x (.iface 140 (.int .i64 1))) (LOp.mkif (v := .int .i64 1) und140 rfl rfl) ?_
        refine za (r := ik .u64 4294967295) ?_
        refine za (r := x (.iface 140 (.int .i64 1))) ?_
        refine zN ?_
        refine RunC.ret ?_
        cases Option.some.inj h19_
        have hx31_ := hr19 _ rfl
        subst hx31_
        have hq := Option.some.inj h
        have hq := Sum.inr.inj hq
        have hq := Sum.inl.inj hq
        subst q0
        exact bodyQ.pure (.inr rfl) rfl (Res.two rfl (RV.tmp rfl) (RV.tmp rfl))
       ·rcases bsel_some h19_ with ⟨hc45, h19_⟩ | ⟨hc45, h19_⟩
        ·refine RunC.regionW ?_
         refine zm (r := ik .u64 x29) ?_
         refine zm (r := ik .u64 x27) ?_
         refine zl (r := b false) (LOp.eqb (LOp.lss rfl rfl rfl) hc44) ?_
         refine zm (r := b false) ?_
         refine zm (r := ik .u64 x29) ?_
         refine zm (r := ik .u64 4294967295) ?_
         refine zl (r := b true) (LOp.eqb (LOp.gtr rfl rfl rfl) hc45) ?_
         refine zl (r := b true) (LOp.pick_false rfl rfl rfl) ?_
         refine zN ?_
         refine RunC.cond_true rfl rfl ?_
         refine zQ ?_
         refine zm (r := ik .u64 4294967295) ?_
         refine zl (r := x (.iface 140 (.int .i64 1))) (LOp.mkif (v := .int .i64 1) und140 rfl rfl) ?_
         refine za (r := ik .u64 4294967295) ?_
         refine za (r := x (.iface 140 (.int .i64 1))) ?_
         refine zN ?_
         refine RunC.ret ?_
         cases Option.some.inj h19_
         have hx32_ := hr19 _ rfl
         subst hx32_
         have hq := Option.some.inj h
         have hq := Sum.inr.inj hq
         have hq := Sum.inl.inj hq
         subst q0
         exact bodyQ.pure (.inr rfl) rfl (Res.two rfl (RV.tmp rfl) (RV.tmp rfl))
        ·refine RunC.regionW ?_
         refine zm (r := ik .u64 x29) ?_
         refine zm (r := ik .u64 x27) ?_
         refine zl (r := b false) (LOp.eqb (LOp.lss rfl rfl rfl) hc44) ?_
         refine zm (r := b false) ?_
         refine zm (r := ik .u64 x29) ?_
         refine zm (r := ik .u64 4294967295) ?_
         refine zl (r := b false) (LOp.eqb (LOp.gtr rfl rfl rfl) hc45) ?_
         refine zl (r := b false) (LOp.pick_false rfl rfl rfl) ?_
         refine zN ?_
         refine RunC.cond_false rfl rfl ?_
         refine RunC.skip ?_
         refine RunC.wl (τ' := [(1, i64 16), (8, b false), (9, str a0), (10, ik .u64 1152921504606846976), (11, ik .u64 4294967295), (12, b false), (17, ik .u64 x29), (99, sl (bytI a0).length ((bytI a0).map (ik .u8))), (100, i64 ((bytI a0).length : Int)), (101, i64 v2), (156, ik .u64 x29), (157, ik .u64 4294967295), (158, b false)]) (Γ' := []) ⟨aR, aR, aR, aR, aR, aR, aR, aR, aR, aR, aR, aR, aR, trivial⟩ trivial ?_
         refine RunC.regionW ?_
         refine zm (r := ik .u64 x29) ?_
         refine za (r := ik .u64 x29) ?_
         refine zN ?_
         obtain ⟨x30, hx46, h19_⟩ := olet_some h19_
         refine RunC.regionW ?_
         refine zl (r := i64 x30) (LOp.eqr (LOp.add rfl rfl rfl) (congrArg (ik .i64) hx46)) ?_
         refine zm (r := i64 x30) ?_
         refine zN ?_
         cases Option.some.inj h19_
         exact ⟨_, rfl, ⟨aR, aR, aR, aR, aR, aR, aR, aR, aR, aR, trivial⟩, trivial⟩
   ·refine RunC.regionW ?_
    refine zl (r := b false) (LOp.eqb (LOp.lss rfl rfl rfl) hc2) ?_
    refine zN ?_
    refine RunC.seq ?_
    refine RunC.cond_false rfl rfl ?_
    refine RunC.exit ?_
    cases Option.some.inj h19_
    have hx := ho19 _ rfl
    exact ⟨v1, ⟨aR, aR, aR, trivial⟩, trivial, hx⟩
  ·rintro τ33 Γ33 ⟨v31, hw33, hd33, rfl⟩
   refine RunC.wl hw33 hd33 ?_
   replace h : x_internal_strconv_ParseUint_k3 v31 = some (Sum.inr (Sum.inl q0)) := h
   unfold x_internal_strconv_ParseUint_k3 at h
   refine RunC.seq ?_
   refine zQ ?_
   iterate 2 (refine zm (r := b false) ?_)
   iterate 3 (refine ROps.s rfl rfl rfl ?_)
   refine zl (r := b false) (LOp.pick_false rfl rfl rfl) ?_
   refine zN ?_
   refine RunC.cond_false rfl rfl ?_
   refine RunC.skip ?_
   refine zQ ?_
   refine zm (r := ik .u64 v31) ?_
   refine za (r := ik .u64 v31) ?_
   refine za (r := x .nilIface) ?_
   refine zN ?_
   cases Option.some.inj h
theorem x_internal_strconv_ParseUint_ok2 (a0 : ByteArray) (q0 : Int) (h : x_internal_strconv_ParseUint a0 = some (Sum.inr (Sum.inr q0))) : Ev Tryz.prog 104 [str a0, i64 16, i64 32] [] (tup [ik .u64 q0, x .nilIface]) [] := by
 refine Ev.start Tryz.func104 rfl rfl 0 (τ := [(0, str a0), (1, i64 16), (2, i64 32)]) rfl (Γ' := []) rfl (n := 345) rfl (g := 0) rfl (fun _ => rfl) ?_
 unfold x_internal_strconv_ParseUint at h
 refine zQ ?_
 refine za (r := ik .u64 0) ?_
 refine za (r := x .nilIface) ?_
 refine zN ?_
 iterate 2 (refine RunC.seq ?_)
 rcases bsel_some h with ⟨hc1, h⟩ | ⟨hc1, h⟩
 ·refine RunC.regionW ?_
  refine zm (r := str a0) ?_
  refine zl (r := b true) (LOp.eqb (LOp.eqs rfl rfl rfl) hc1) ?_
  refine zN ?_
  refine RunC.cond_true rfl rfl ?_
  refine zQ ?_
  refine zl (r := x (.iface 140 (.int .i64 2))) (LOp.mkif (v := .int .i64 2) und140 rfl rfl) ?_
  refine za (r := ik .u64 0) ?_
  refine za (r := x (.iface 140 (.int .i64 2))) ?_
  refine zN ?_
  cases Option.some.inj h
 ·refine RunC.regionW ?_
  refine zm (r := str a0) ?_
  refine zl (r := b false) (LOp.eqb (LOp.eqs rfl rfl rfl) hc1) ?_
  refine zN ?_
  refine RunC.cond_false rfl rfl ?_
  refine RunC.skip ?_
  refine zQ ?_
  refine zm (r := i64 16) ?_
  refine zl (r := b false) ((show LOp _ _ _ (b (decide ((16 : Int) = 0))) from LOp.eql rfl rfl rfl)) ?_
  refine za (r := b false) ?_
  refine zN ?_
  refine zQ ?_
  refine zm (r := str a0) ?_
  refine za (r := str a0) ?_
  refine zN ?_
  refine RunC.seq ?_
  refine RunC.block ?_
  refine zQ ?_
  refine zm (r := i64 16) ?_
  refine zl (r := b true) ((show LOp _ _ _ (b (decide ((2 : Int) ≤ 16))) from LOp.leq rfl rfl rfl)) ?_
  refine zm (r := b true) ?_
  refine zm (r := i64 16) ?_
  refine zl (r := b true) ((show LOp _ _ _ (b (decide ((16 : Int) ≤ 36))) from LOp.leq rfl rfl rfl)) ?_
  refine zl (r := b true) (LOp.pick_true rfl rfl rfl) ?_
  refine za (r := b true) ?_
  refine zN ?_
  refine RunC.cond_true rfl rfl ?_
  refine RunC.skip ?_
  refine RunC.seq ?_
  refine zQ ?_
  refine zm (r := i64 32) ?_
  refine zl (r := b false) ((show LOp _ _ _ (b (decide ((32 : Int) = 0))) from LOp.eql rfl rfl rfl)) ?_
  refine zN ?_
  refine RunC.cond_false rfl rfl ?_
  refine zQ ?_
  refine zm (r := i64 32) ?_
  refine zl (r := b false) ((show LOp _ _ _ (b (decide ((32 : Int) < 0))) from LOp.lss rfl rfl rfl)) ?_
  refine zm (r := b false) ?_
  refine zm (r := i64 32) ?_
  refine zl (r := b false) ((show LOp _ _ _ (b (decide ((64 : Int) < 32))) from LOp.gtr rfl rfl rfl)) ?_
  refine zl (r := b false) (LOp.pick_false rfl rfl rfl) ?_
  refine zN ?_
  refine RunC.cond_false rfl rfl ?_
  refine RunC.skip ?_
  refine zQ ?_
  refine za (r := ik .u64 0) ?_
  refine zN ?_
  refine RunC.seq ?_
  refine zQ ?_
  refine zm (r := i64 16) ?_
  refine zN ?_
  refine RunC.block ?_
  refine zQ ?_
  refine zl (r := b false) ((show LOp _ _ _ (b (decide ((16 : Int) = 10))) from LOp.eql rfl rfl rfl)) ?_
  refine za (r := b false) ?_
  refine zN ?_
  refine RunC.cond_false rfl rfl ?_
  refine zQ ?_
  refine zl (r := b true) ((show LOp _ _ _ (b (decide ((16 : Int) = 16))) from LOp.eql rfl rfl rfl)) ?_
  refine za (r := b true) ?_
  refine zN ?_
  refine RunC.wl (τ' := [(0, str a0), (1, i64 16), (2, i64 32), (8, b false), (9, str a0), (92, b true)]) (Γ' := []) ⟨aR, aR, aR, aR, aR, aR, trivial⟩ trivial ?_
  refine RunC.cond_true rfl rfl ?_
  refine RunC.regionW ?_
  refine za (r := ik .u64 1152921504606846976) ?_
  refine zN ?_
  refine zQ ?_
  refine zm (r := i64 32) ?_
  refine zl (r := ik .u64 32) ((show LOp _ _ _ (ik .u64 (IntKind.u64.wrap 32)) from LOp.i2i (src := 3) (dst := 106) ⟨_, pun3⟩ pun106 rfl rfl)) ?_
  refine zl (r := ik .u64 4294967296) ((show LOp _ _ _ (ik .u64 (ishl .u64 1 32)) from LOp.shl rfl rfl rfl (by decide))) ?_
  refine zl (r := ik .u64 4294967295) ((show LOp _ _ _ (ik .u64 (IntKind.u64.wrap (4294967296 - 1))) from LOp.sub rfl rfl rfl)) ?_
  refine za (r := ik .u64 4294967295) ?_
  refine zN ?_
  refine zQ ?_
  refine za (r := b false) ?_
  refine zN ?_
  refine zQ ?_
  refine za (r := ik .u64 0) ?_
  refine zN ?_
  refine RunC.seq ?_
  refine zQ ?_
  refine zm (r := str a0) ?_
  refine ROps.d (r := sl (bytI a0).length ((bytI a0).map (ik .u8))) (fs := []) (Γ' := []) rfl rfl rfl (TOp.s2b pun9 pun22 pun5 rfl rfl) rfl ?_
  refine zl (r := i64 ((bytI a0).length : Int)) (LOp.len_sl und22 rfl rfl) ?_
  refine zm (r := i64 0) ?_
  refine zN ?_
  obtain ⟨z34, hz_34, h⟩ := obind_some h
  refine RunC.cutN (fun τ Γ => ∃ (v31 : Int), WeakLe τ [(9, str a0), (12, b false), (13, ik .u64 v31)] ∧ DeadLe Γ [] ∧ z34 = .inl v31) ?_ ?_
  ·refine RunC.block (RunC.loop (RunL.loopM (x := z34) (x_internal_strconv_ParseUint_s3 a0) (fun (s : Int × Int) τ Γ => WeakLe τ [(1, i64 16), (8, b false), (9, str a0), (10, ik .u64 1152921504606846976), (11, ik .u64 4294967295), (12, b false), (13, ik .u64 s.1), (99, sl (bytI a0).length ((bytI a0).map (ik .u8))), (100, i64 ((bytI a0).length : Int)), (101, i64 s.2)] ∧ DeadLe Γ []) ?_ _ _ _ hz_34 ⟨⟨aR, aR, aR, aR, aR, aR, aR, aR, aR, aR, trivial⟩, trivial⟩))
   rintro ⟨v1, v2⟩ τ34 Γ34 y34_ ⟨hw34, hd34⟩ h34_ ho34 hr34
   refine RunC.wl (τ' := [(1, i64 16), (8, b false), (9, str a0), (10, ik .u64 1152921504606846976), (11, ik .u64 4294967295), (12, b false), (13, ik .u64 v1), (99, sl (bytI a0).length ((bytI a0).map (ik .u8))), (100, i64 ((bytI a0).length : Int)), (101, i64 v2)]) (Γ' := []) hw34 hd34 ?_
   replace h34_ : x_internal_strconv_ParseUint_b3 a0 v1 v2 = some y34_ := h34_
   unfold x_internal_strconv_ParseUint_b3 at h34_
   refine RunC.seq ?_
   rcases bsel_some h34_ with ⟨hc2, h34_⟩ | ⟨hc2, h34_⟩
   ·refine RunC.regionW ?_
    refine zl (r := b true) (LOp.eqb (LOp.lss rfl rfl rfl) hc2) ?_
    refine zN ?_
    refine RunC.seq ?_
    refine RunC.cond_true rfl rfl ?_
    refine RunC.skip ?_
    refine RunC.seq ?_
    refine RunC.block ?_
    refine RunC.seq ?_
    obtain ⟨e3, he3, h34_⟩ := obind_some h34_
    refine RunC.regionW ?_
    refine zl (r := ptr [ik .u8 e3]) (LOp.le (LOp.ix (f := (ik .u8)) und22 siz5 rfl rfl rfl rfl he3) ALe.ptr) ?_
    refine zl (r := ik .u8 e3) (LOp.load1 agg5 rfl rfl) ?_
    refine za (r := ik .u8 e3) ?_
    refine zN ?_
    refine zQ ?_
    refine za (r := ik .u8 0) ?_
    refine zN ?_
    refine RunC.seq ?_
    refine RunC.cutN (fun τ Γ => ∃ (v26 : Int), WeakLe τ [(1, i64 16), (8, b false), (9, str a0), (10, ik .u64 1152921504606846976), (11, ik .u64 4294967295), (12, b false), (13, ik .u64 v1), (16, ik .u8 v26), (99, sl (bytI a0).length ((bytI a0).map (ik .u8))), (100, i64 ((bytI a0).length : Int)), (101, i64 v2)] ∧ DeadLe Γ [] ∧ x_internal_strconv_ParseUint_k2 v1 v2 v26 = some y34_) ?_ ?_
    ·refine RunC.block ?_
     refine RunC.seq ?_
     rcases bsel_some h34_ with ⟨hc4, h34_⟩ | ⟨hc4, h34_⟩
     ·refine RunC.regionW ?_
      refine zm (r := ik .u8 e3) ?_
      refine zl (r := b true) (LOp.eqb (LOp.eql rfl rfl rfl) hc4) ?_
      refine zm (r := b true) ?_
      refine zm (r := b false) ?_
      refine zl (r := b false) (LOp.pick_true rfl rfl rfl) ?_
      refine za (r := b false) ?_
      refine zN ?_
      refine RunC.cond_false rfl rfl ?_
      refine RunC.seq ?_
      rcases bsel_some h34_ with ⟨hc5, h34_⟩ | ⟨hc5, h34_⟩
      ·rcases bsel_some h34_ with ⟨hc6, h34_⟩ | ⟨hc6, h34_⟩
       ·refine RunC.regionW ?_
        refine zm (r := ik .u8 e3) ?_
        refine zl (r := b true) (LOp.eqb (LOp.leq rfl rfl rfl) hc5) ?_
        refine zm (r := b true) ?_
        refine zm (r := ik .u8 e3) ?_
        refine zl (r := b true) (LOp.eqb (LOp.leq rfl rfl rfl) hc6) ?_
        refine zl (r := b true) (LOp.pick_true rfl rfl rfl) ?_
        refine za (r := b true) ?_
        refine zN ?_
        refine RunC.cond_true rfl rfl ?_
        obtain ⟨x4, hx7, h34_⟩ := olet_some h34_
        refine RunC.regionW ?_
        refine zm (r := ik .u8 e3) ?_
        refine zl (r := ik .u8 x4) (LOp.eqr (LOp.sub rfl rfl rfl) (congrArg (ik .u8) hx7)) ?_
        refine za (r := ik .u8 x4) ?_
        refine zN ?_
        exact ⟨x4, ⟨aR, aR, aR, aR, aR, aR, aR, aR, aR, aR, aR, trivial⟩, trivial, h34_⟩
       ·refine RunC.regionW ?_
        refine zm (r := ik .u8 e3) ?_
        refine zl (r := b true) (LOp.eqb (LOp.leq rfl rfl rfl) hc5) ?_
        refine zm (r := b true) ?_
        refine zm (r := ik .u8 e3) ?_
        refine zl (r := b false) (LOp.eqb (LOp.leq rfl rfl rfl) hc6) ?_
        refine zl (r := b false) (LOp.pick_true rfl rfl rfl) ?_
        refine za (r := b false) ?_
        refine zN ?_
        refine RunC.cond_false rfl rfl ?_
        refine RunC.seq ?_
        obtain ⟨r5, hf8, h34_⟩ := obind_some h34_
        rcases bsel_some h34_ with ⟨hc9, h34_⟩ | ⟨hc9, h34_⟩
        ·obtain ⟨r6, hf10, h34_⟩ := obind_some h34_
         rcases bsel_some h34_ with ⟨hc11, h34_⟩ | ⟨hc11, h34_⟩
         ·refine RunC.regionW ?_
          refine zm (r := ik .u8 e3) ?_
          refine ROps.d (r := ik .u8 r5) (fs := []) (Γ' := []) rfl rfl rfl (TOp.callB (CallAs.func ent124 rfl rfl) (Bors.cons (Bor.pure rfl) Bors.nil) rfl rfl (x_internal_strconv_lower_ok e3 r5 hf8)) rfl ?_
          refine zl (r := b true) (LOp.eqb (LOp.leq rfl rfl rfl) hc9) ?_
          refine zm (r := b true) ?_
          refine zm (r := ik .u8 e3) ?_
          refine ROps.d (r := ik .u8 r6) (fs := []) (Γ' := []) rfl rfl rfl (TOp.callB (CallAs.func ent124 rfl rfl) (Bors.cons (Bor.pure rfl) Bors.nil) rfl rfl (x_internal_strconv_lower_ok e3 r6 hf10)) rfl ?_
          refine zl (r := b true) (LOp.eqb (LOp.leq rfl rfl rfl) hc11) ?_
          refine zl (r := b true) (LOp.pick_true rfl rfl rfl) ?_
          refine za (r := b true) ?_
          refine zN ?_
          refine RunC.wl (τ' := [(1, i64 16), (8, b false), (9, str a0), (10, ik .u64 1152921504606846976), (11, ik .u64 4294967295), (12, b false), (13, ik .u64 v1), (15, ik .u8 e3), (99, sl (bytI a0).length ((bytI a0).map (ik .u8))), (100, i64 ((bytI a0).length : Int)), (101, i64 v2), (110, b false), (116, ik .u8 e3), (117, b false), (121, b true), (126, ik .u8 e3), (127, ik .u8 r6), (128, b true)]) (Γ' := []) ⟨aR, aR, aR, aR, aR, aR, aR, aR, aR, aR, aR, aR, aR, aR, aR, aR, aR, aR, trivial⟩ trivial ?_
          refine RunC.cond_true rfl rfl ?_
          obtain ⟨r7, hf12, h34_⟩ := obind_some h34_
          obtain ⟨x8, hx13, h34_⟩ := olet_some h34_
          obtain ⟨x9, hx14, h34_⟩ := olet_some h34_
          refine RunC.regionW ?_
          refine zm (r := ik .u8 e3) ?_
          refine ROps.d (r := ik .u8 r7) (fs := []) (Γ' := []) rfl rfl rfl (TOp.callB (CallAs.func ent124 rfl rfl) (Bors.cons (Bor.pure rfl) Bors.nil) rfl rfl (x_internal_strconv_lower_ok e3 r7 hf12)) rfl ?_
          refine zl (r := ik .u8 x8) (LOp.eqr (LOp.sub rfl rfl rfl) (congrArg (ik .u8) hx13)) ?_
          refine zl (r := ik .u8 x9) (LOp.eqr (LOp.add rfl rfl rfl) (congrArg (ik .u8) hx14)) ?_
          refine za (r := ik .u8 x9) ?_
          refine zN ?_
          exact ⟨x9, ⟨aR, aR, aR, aR, aR, aR, aR, aR, aR, aR, aR, trivial⟩, trivial, h34_⟩
         ·refine RunC.regionW ?_
          refine zm (r := ik .u8 e3) ?_
          refine ROps.d (r := ik .u8 r5) (fs := []) (Γ' := []) rfl rfl rfl (TOp.callB (CallAs.func ent124 rfl rfl) (Bors.cons (Bor.pure rfl) Bors.nil) rfl rfl (x_internal_strconv_lower_ok e3 r5 hf8)) rfl ?_
          refine zl (r := b true) (LOp.eqb (LOp.leq rfl rfl rfl) hc9) ?_
          refine zm (r := b true) ?_
          refine zm (r := ik .u8 e3) ?_
          refine ROps.d (r := ik .u8 r6) (fs := []) (Γ' := []) rfl rfl rfl (TOp.callB (CallAs.func ent124 rfl rfl) (Bors.cons (Bor.pure rfl) Bors.nil) rfl rfl (x_internal_strconv_lower_ok e3 r6 hf10)) rfl ?_
          refine zl (r := b false) (LOp.eqb (LOp.leq rfl rfl rfl) hc11) ?_
          refine zl (r := b false) (LOp.pick_true rfl rfl rfl) ?_
          refine za (r := b false) ?_
          refine zN ?_
          refine RunC.wl (τ' := [(1, i64 16), (8, b false), (9, str a0), (10, ik .u64 1152921504606846976), (11, ik .u64 4294967295), (12, b false), (13, ik .u64 v1), (15, ik .u8 e3), (99, sl (bytI a0).length ((bytI a0).map (ik .u8))), (100, i64 ((bytI a0).length : Int)), (101, i64 v2), (110, b false), (116, ik .u8 e3), (117, b false), (121, b false), (126, ik .u8 e3), (127, ik .u8 r6), (128, b false)]) (Γ' := []) ⟨aR, aR, aR, aR, aR, aR, aR, aR, aR, aR, aR, aR, aR, aR, aR, aR, aR, aR, trivial⟩ trivial ?_
          refine RunC.cond_false rfl rfl ?_
          refine zQ ?_
          refine zl (r := x (.iface 140 (.int .i64 2))) (LOp.mkif (v := .int .i64 2) und140 rfl rfl) ?_
          refine za (r := ik .u64 0) ?_
          refine za (r := x (.iface 140 (.int .i64 2))) ?_
          refine zN ?_
          cases Option.some.inj h34_
          have hx35_ := hr34 _ rfl
          subst hx35_
          cases Option.some.inj h
        ·refine RunC.regionW ?_
         refine zm (r := ik .u8 e3) ?_
         refine ROps.d (r := ik .u8 r5) (fs := []) (Γ' := []) rfl rfl rfl (TOp.callB (CallAs.func ent124 rfl rfl) (Bors.cons (Bor.pure rfl) Bors.nil) rfl rfl (x_internal_strconv_lower_ok e3 r5 hf8)) rfl ?_
         refine zl (r := b false) (LOp.eqb (LOp.leq rfl rfl rfl) hc9) ?_
         refine zm (r := b false) ?_
         iterate 3 (refine ROps.s rfl rfl rfl ?_)
         refine zl (r := b false) (LOp.pick_false rfl rfl rfl) ?_
         refine za (r := b false) ?_
         refine zN ?_
         refine RunC.wl (τ' := [(1, i64 16), (8, b false), (9, str a0), (10, ik .u64 1152921504606846976), (11, ik .u64 4294967295), (12, b false), (13, ik .u64 v1), (15, ik .u8 e3), (99, sl (bytI a0).length ((bytI a0).map (ik .u8))), (100, i64 ((bytI a0).length : Int)), (101, i64 v2), (110, b false), (116, ik .u8 e3), (117, b false), (121, b false)]) (Γ' := []) ⟨aR, aR, aR, aR, aR, aR, aR, aR, aR, aR, aR, aR, aR, aR, aR, trivial⟩ trivial ?_
         refine RunC.cond_false rfl rfl ?_
         refine zQ ?_
         refine zl (r := x (.iface 140 (.int .i64 2))) (LOp.mkif (v := .int .i64 2) und140 rfl rfl) ?_
         refine za (r := ik .u64 0) ?_
         refine za (r := x (.iface 140 (.int .i64 2))) ?_
         refine zN ?_
         cases Option.some.inj h34_
         have hx36_ := hr34 _ rfl
         subst hx36_
         cases Option.some.inj h
      ·refine RunC.regionW ?_
       refine zm (r := ik .u8 e3) ?_
       refine zl (r := b false) (LOp.eqb (LOp.leq rfl rfl rfl) hc5) ?_
       refine zm (r := b false) ?_
       iterate 2 (refine ROps.s rfl rfl rfl ?_)
       refine zl (r := b false) (LOp.pick_false rfl rfl rfl) ?_
       refine za (r := b false) ?_
       refine zN ?_
       refine RunC.cond_false rfl rfl ?_
       refine RunC.seq ?_
       obtain ⟨r10, hf15, h34_⟩ := obind_some h34_
       rcases bsel_some h34_ with ⟨hc16, h34_⟩ | ⟨hc16, h34_⟩
       ·obtain ⟨r11, hf17, h34_⟩ := obind_some h34_
        rcases bsel_some h34_ with ⟨hc18, h34_⟩ | ⟨hc18, h34_⟩
        ·refine RunC.regionW ?_
         refine zm (r := ik .u8 e3) ?_
         refine ROps.d (r := ik .u8 r10) (fs := []) (Γ' := []) rfl rfl rfl (TOp.callB (CallAs.func ent124 rfl rfl) (Bors.cons (Bor.pure rfl) Bors.nil) rfl rfl (x_internal_strconv_lower_ok e3 r10 hf15)) rfl ?_
         refine zl (r := b true) (LOp.eqb (LOp.leq rfl rfl rfl) hc16) ?_
         refine zm (r := b true) ?_
         refine zm (r := ik .u8 e3) ?_
         refine ROps.d (r := ik .u8 r11) (fs := []) (Γ' := []) rfl rfl rfl (TOp.callB (CallAs.func ent124 rfl rfl) (Bors.cons (Bor.pure rfl) Bors.nil) rfl rfl (x_internal_strconv_lower_ok e3 r11 hf17)) rfl ?_
         refine zl (r := b true) (LOp.eqb (LOp.leq rfl rfl rfl) hc18) ?_
         refine zl (r := b true) (LOp.pick_true rfl rfl rfl) ?_
         refine za (r := b true) ?_
         refine zN ?_
         refine RunC.wl (τ' := [(1, i64 16), (8, b false), (9, str a0), (10, ik .u64 1152921504606846976), (11, ik .u64 4294967295), (12, b false), (13, ik .u64 v1), (15, ik .u8 e3), (99, sl (bytI a0).length ((bytI a0).map (ik .u8))), (100, i64 ((bytI a0).length : Int)), (101, i64 v2), (110, b false), (121, b true), (126, ik .u8 e3), (127, ik .u8 r11), (128, b true)]) (Γ' := []) ⟨aR, aR, aR, aR, aR, aR, aR, aR, aR, aR, aR, aR, aR, aR, aR, aR, trivial⟩ trivial ?_
         refine RunC.cond_true rfl rfl ?_
         obtain ⟨r12, hf19, h34_⟩ := obind_some h34_
         obtain ⟨x13, hx20, h34_⟩ := olet_some h34_
         obtain ⟨x14, hx21, h34_⟩ := olet_some h34_
         refine RunC.regionW ?_
         refine zm (r := ik .u8 e3) ?_
         refine ROps.d (r := ik .u8 r12) (fs := []) (Γ' := []) rfl rfl rfl (TOp.callB (CallAs.func ent124 rfl rfl) (Bors.cons (Bor.pure rfl) Bors.nil) rfl rfl (x_internal_strconv_lower_ok e3 r12 hf19)) rfl ?_
         refine zl (r := ik .u8 x13) (LOp.eqr (LOp.sub rfl rfl rfl) (congrArg (ik .u8) hx20)) ?_
         refine zl (r := ik .u8 x14) (LOp.eqr (LOp.add rfl rfl rfl) (congrArg (ik .u8) hx21)) ?_
         refine za (r := ik .u8 x14) ?_
         refine zN ?_
         exact ⟨x14, ⟨aR, aR, aR, aR, aR, aR, aR, aR, aR, aR, aR, trivial⟩, trivial, h34_⟩
        ·refine RunC.regionW ?_
         refine zm (r := ik .u8 e3) ?_
         refine ROps.d (r := ik .u8 r10) (fs := []) (Γ' := []) rfl rfl rfl (TOp.callB (CallAs.func ent124 rfl rfl) (Bors.cons (Bor.pure rfl) Bors.nil) rfl rfl (x_internal_strconv_lower_ok e3 r10 hf15)) rfl ?_
         refine zl (r := b true) (LOp.eqb (LOp.leq rfl rfl rfl) hc16) ?_
         refine zm (r := b true) ?_
         refine zm (r := ik .u8 e3) ?_
         refine ROps.d (r := ik .u8 r11) (fs := []) (Γ' := []) rfl rfl rfl (TOp.callB (CallAs.func ent124 rfl rfl) (Bors.cons (Bor.pure rfl) Bors.nil) rfl rfl (x_internal_strconv_lower_ok e3 r11 hf17)) rfl ?_
         refine zl (r := b false) (LOp.eqb (LOp.leq rfl rfl rfl) hc18) ?_
         refine zl (r := b false) (LOp.pick_true rfl rfl rfl) ?_
         refine za (r := b false) ?_
         refine zN ?_
         refine RunC.wl (τ' := [(1, i64 16), (8, b false), (9, str a0), (10, ik .u64 1152921504606846976), (11, ik .u64 4294967295), (12, b false), (13, ik .u64 v1), (15, ik .u8 e3), (99, sl (bytI a0).length ((bytI a0).map (ik .u8))), (100, i64 ((bytI a0).length : Int)), (101, i64 v2), (110, b false), (121, b false), (126, ik .u8 e3), (127, ik .u8 r11), (128, b false)]) (Γ' := []) ⟨aR, aR, aR, aR, aR, aR, aR, aR, aR, aR, aR, aR, aR, aR, aR, aR, trivial⟩ trivial ?_
         refine RunC.cond_false rfl rfl ?_
         refine zQ ?_
         refine zl (r := x (.iface 140 (.int .i64 2))) (LOp.mkif (v := .int .i64 2) und140 rfl rfl) ?_
         refine za (r := ik .u64 0) ?_
         refine za (r := x (.iface 140 (.int .i64 2))) ?_
         refine zN ?_
         cases Option.some.inj h34_
         have hx37_ := hr34 _ rfl
         subst hx37_
         cases Option.some.inj h
       ·refine RunC.regionW ?_
        refine zm (r := ik .u8 e3) ?_
        refine ROps.d (r := ik .u8 r10) (fs := []) (Γ' := []) rfl rfl rfl (TOp.callB (CallAs.func ent124 rfl rfl) (Bors.cons (Bor.pure rfl) Bors.nil) rfl rfl (x_internal_strconv_lower_ok e3 r10 hf15)) rfl ?_
        refine zl (r := b false) (LOp.eqb (LOp.leq rfl rfl rfl) hc16) ?_
        refine zm (r := b false) ?_
        iterate 3 (refine ROps.s rfl rfl rfl ?_)
        refine zl (r := b false) (LOp.pick_false rfl rfl rfl) ?_
        refine za (r := b false) ?_
        refine zN ?_
        refine RunC.wl (τ' := [(1, i64 16), (8, b false), (9, str a0), (10, ik .u64 1152921504606846976), (11, ik .u64 4294967295), (12, b false), (13, ik .u64 v1), (15, ik .u8 e3), (99, sl (bytI a0).length ((bytI a0).map (ik .u8))), (100, i64 ((bytI a0).length : Int)), (101, i64 v2), (110, b false), (121, b false)]) (Γ' := []) ⟨aR, aR, aR, aR, aR, aR, aR, aR, aR, aR, aR, aR, aR, trivial⟩ trivial ?_
        refine RunC.cond_false rfl rfl ?_
        refine zQ ?_
        refine zl (r := x (.iface 140 (.int .i64 2))) (LOp.mkif (v := .int .i64 2) und140 rfl rfl) ?_
        refine za (r := ik .u64 0) ?_
        refine za (r := x (.iface 140 (.int .i64 2))) ?_
        refine zN ?_
        cases Option.some.inj h34_
        have hx38_ := hr34 _ rfl
        subst hx38_
        cases Option.some.inj h
     ·refine RunC.regionW ?_
      refine zm (r := ik .u8 e3) ?_
      refine zl (r := b false) (LOp.eqb (LOp.eql rfl rfl rfl) hc4) ?_
      refine zm (r := b false) ?_
      refine ROps.s rfl rfl rfl ?_
      refine zl (r := b false) (LOp.pick_false rfl rfl rfl) ?_
      refine za (r := b false) ?_
      refine zN ?_
      refine RunC.cond_false rfl rfl ?_
      refine RunC.seq ?_
      rcases bsel_some h34_ with ⟨hc22, h34_⟩ | ⟨hc22, h34_⟩
      ·rcases bsel_some h34_ with ⟨hc23, h34_⟩ | ⟨hc23, h34_⟩
       ·refine RunC.regionW ?_
        refine zm (r := ik .u8 e3) ?_
        refine zl (r := b true) (LOp.eqb (LOp.leq rfl rfl rfl) hc22) ?_
        refine zm (r := b true) ?_
        refine zm (r := ik .u8 e3) ?_
        refine zl (r := b true) (LOp.eqb (LOp.leq rfl rfl rfl) hc23) ?_
        refine zl (r := b true) (LOp.pick_true rfl rfl rfl) ?_
        refine za (r := b true) ?_
        refine zN ?_
        refine RunC.cond_true rfl rfl ?_
        obtain ⟨x15, hx24, h34_⟩ := olet_some h34_
        refine RunC.regionW ?_
        refine zm (r := ik .u8 e3) ?_
        refine zl (r := ik .u8 x15) (LOp.eqr (LOp.sub rfl rfl rfl) (congrArg (ik .u8) hx24)) ?_
        refine za (r := ik .u8 x15) ?_
        refine zN ?_
        exact ⟨x15, ⟨aR, aR, aR, aR, aR, aR, aR, aR, aR, aR, aR, trivial⟩, trivial, h34_⟩
       ·refine RunC.regionW ?_
        refine zm (r := ik .u8 e3) ?_
        refine zl (r := b true) (LOp.eqb (LOp.leq rfl rfl rfl) hc22) ?_
        refine zm (r := b true) ?_
        refine zm (r := ik .u8 e3) ?_
        refine zl (r := b false) (LOp.eqb (LOp.leq rfl rfl rfl) hc23) ?_
        refine zl (r := b false) (LOp.pick_true rfl rfl rfl) ?_
        refine za (r := b false) ?_
        refine zN ?_
        refine RunC.cond_false rfl rfl ?_
        refine RunC.seq ?_
        obtain ⟨r16, hf25, h34_⟩ := obind_some h34_
        rcases bsel_some h34_ with ⟨hc26, h34_⟩ | ⟨hc26, h34_⟩
        ·obtain ⟨r17, hf27, h34_⟩ := obind_some h34_
         rcases bsel_some h34_ with ⟨hc28, h34_⟩ | ⟨hc28, h34_⟩
         ·refine RunC.regionW ?_
          refine zm (r := ik .u8 e3) ?_
          refine ROps.d (r := ik .u8 r16) (fs := []) (Γ' := []) rfl rfl rfl (TOp.callB (CallAs.func ent124 rfl rfl) (Bors.cons (Bor.pure rfl) Bors.nil) rfl rfl (x_internal_strconv_lower_ok e3 r16 hf25)) rfl ?_
          refine zl (r := b true) (LOp.eqb (LOp.leq rfl rfl rfl) hc26) ?_
          refine zm (r := b true) ?_
          refine zm (r := ik .u8 e3) ?_
          refine ROps.d (r := ik .u8 r17) (fs := []) (Γ' := []) rfl rfl rfl (TOp.callB (CallAs.func ent124 rfl rfl) (Bors.cons (Bor.pure rfl) Bors.nil) rfl rfl (x_internal_strconv_lower_ok e3 r17 hf27)) rfl ?_
          refine zl (r := b true) (LOp.eqb (LOp.leq rfl rfl rfl) hc28) ?_
          refine zl (r := b true) (LOp.pick_true rfl rfl rfl) ?_
          refine za (r := b true) ?_
          refine zN ?_
          refine RunC.wl (τ' := [(1, i64 16), (8, b false), (9, str a0), (10, ik .u64 1152921504606846976), (11, ik .u64 4294967295), (12, b false), (13, ik .u64 v1), (15, ik .u8 e3), (99, sl (bytI a0).length ((bytI a0).map (ik .u8))), (100, i64 ((bytI a0).length : Int)), (101, i64 v2), (116, ik .u8 e3), (117, b false), (121, b true), (126, ik .u8 e3), (127, ik .u8 r17), (128, b true)]) (Γ' := []) ⟨aR, aR, aR, aR, aR, aR, aR, aR, aR, aR, aR, aR, aR, aR, aR, aR, aR, trivial⟩ trivial ?_
          refine RunC.cond_true rfl rfl ?_
          obtain ⟨r18, hf29, h34_⟩ := obind_some h34_
          obtain ⟨x19, hx30, h34_⟩ := olet_some h34_
          obtain ⟨x20, hx31, h34_⟩ := olet_some h34_
          refine RunC.regionW ?_
          refine zm (r := ik .u8 e3) ?_
          refine ROps.d (r := ik .u8 r18) (fs := []) (Γ' := []) rfl rfl rfl (TOp.callB (CallAs.func ent124 rfl rfl) (Bors.cons (Bor.pure rfl) Bors.nil) rfl rfl (x_internal_strconv_lower_ok e3 r18 hf29)) rfl ?_
          refine zl (r := ik .u8 x19) (LOp.eqr (LOp.sub rfl rfl rfl) (congrArg (ik .u8) hx30)) ?_
          refine zl (r := ik .u8 x20) (LOp.eqr (LOp.add rfl rfl rfl) (congrArg (ik .u8) hx31)) ?_
          refine za (r := ik .u8 x20) ?_
          refine zN ?_
          exact ⟨x20, ⟨aR, aR, aR, aR, aR, aR, aR, aR, aR, aR, aR, trivial⟩, trivial, h34_⟩
         ·refine RunC.regionW ?_
          refine zm (r := ik .u8 e3) ?_
          refine ROps.d (r := ik .u8 r16) (fs := []) (Γ' := []) rfl rfl rfl (TOp.callB (CallAs.func ent124 rfl rfl) (Bors.cons (Bor.pure rfl) Bors.nil) rfl rfl (x_internal_strconv_lower_ok e3 r16 hf25)) rfl ?_
          refine zl (r := b true) (LOp.eqb (LOp.leq rfl rfl rfl) hc26) ?_
          refine zm (r := b true) ?_
          refine zm (r := ik .u8 e3) ?_
          refine ROps.d (r := ik .u8 r17) (fs := []) (Γ' := []) rfl rfl rfl (TOp.callB (CallAs.func ent124 rfl rfl) (Bors.cons (Bor.pure rfl) Bors.nil) rfl rfl (x_internal_strconv_lower_ok e3 r17 hf27)) rfl ?_
          refine zl (r := b false) (LOp.eqb (LOp.leq rfl rfl rfl) hc28) ?_
          refine zl (r := b false) (LOp.pick_true rfl rfl rfl) ?_
          refine za (r := b false) ?_
          refine zN ?_
          refine RunC.wl (τ' := [(1, i64 16), (8, b false), (9, str a0), (10, ik .u64 1152921504606846976), (11, ik .u64 4294967295), (12, b false), (13, ik .u64 v1), (15, ik .u8 e3), (99, sl (bytI a0).length ((bytI a0).map (ik .u8))), (100, i64 ((bytI a0).length : Int)), (101, i64 v2), (116, ik .u8 e3), (117, b false), (121, b false), (126, ik .u8 e3), (127, ik .u8 r17), (128, b false)]) (Γ' := []) ⟨aR, aR, aR, aR, aR, aR, aR, aR, aR, aR, aR, aR, aR, aR, aR, aR, aR, trivial⟩ trivial ?_
          refine RunC.cond_false rfl rfl ?_
          refine zQ ?_
          refine zl (r := x (.iface 140 (.int .i64 2))) (LOp.mkif (v := .int .i64 2) und140 rfl rfl) ?_
          refine za (r := ik .u64 0) ?_
          refine za (r := x (.iface 140 (.int .i64 2))) ?_
          refine zN ?_
          cases Option.some.inj h34_
          have hx39_ := hr34 _ rfl
          subst hx39_
          cases Option.some.inj h
        ·refine RunC.regionW ?_
         refine zm (r := ik .u8 e3) ?_
         refine ROps.d (r := ik .u8 r16) (fs := []) (Γ' := []) rfl rfl rfl (TOp.callB (CallAs.func ent124 rfl rfl) (Bors.cons (Bor.pure rfl) Bors.nil) rfl rfl (x_internal_strconv_lower_ok e3 r16 hf25)) rfl ?_
         refine zl (r := b false) (LOp.eqb (LOp.leq rfl rfl rfl) hc26) ?_
         refine zm (r := b false) ?_
         iterate 3 (refine ROps.s rfl rfl rfl ?_)
         refine zl (r := b false) (LOp.pick_false rfl rfl rfl) ?_
         refine za (r := b false) ?_
         refine zN ?_
         refine RunC.wl (τ' := [(1, i64 16), (8, b false), (9, str a0), (10, ik .u64 1152921504606846976), (11, ik .u64 4294967295), (12, b false), (13, ik .u64 v1), (15, ik .u8 e3), (99, sl (bytI a0).length ((bytI a0).map (ik .u8))), (100, i64 ((bytI a0).length : Int)), (101, i64 v2), (116, ik .u8 e3), (117, b false), (121, b false)]) (Γ' := []) ⟨aR, aR, aR, aR, aR, aR, aR, aR, aR, aR, aR, aR, aR, aR, trivial⟩ trivial ?_
         refine RunC.cond_false rfl rfl ?_
         refine zQ ?_
         refine zl (r := x (.iface 140 (.int .i64 2))) (LOp.mkif (v := .int .i64 2) und140 rfl rfl) ?_
         refine za (r := ik .u64 0) ?_
         refine za (r := x (.iface 140 (.int .i64 2))) ?_
         refine zN ?_
         cases Option.some.inj h34_
         have hx40_ := hr34 _ rfl
         subst hx40_
         cases Option.some.inj h
      ·refine RunC.regionW ?_
       refine zm (r := ik .u8 e3) ?_
       refine zl (r := b false) (LOp.eqb (LOp.leq rfl rfl rfl) hc22) ?_
       refine zm (r := b false) ?_
       iterate 2 (refine ROps.s rfl rfl rfl ?_)
       refine zl (r := b false) (LOp.pick_false rfl rfl rfl) ?_
       refine za (r := b false) ?_
       refine zN ?_
       refine RunC.cond_false rfl rfl ?_
       refine RunC.seq ?_
       obtain ⟨r21, hf32, h34_⟩ := obind_some h34_
       rcases bsel_some h34_ with ⟨hc33, h34_⟩ | ⟨hc33, h34_⟩
       ·obtain ⟨r22, hf34, h34_⟩ := obind_some h34_
        rcases bsel_some h34_ with ⟨hc35, h34_⟩ | ⟨hc35, h34_⟩
        ·refine RunC.regionW ?_
         refine zm (r := ik .u8 e3) ?_
         refine ROps.d (r := ik .u8 r21) (fs := []) (Γ' := []) rfl rfl rfl (TOp.callB (CallAs.func ent124 rfl rfl) (Bors.cons (Bor.pure rfl) Bors.nil) rfl rfl (x_internal_strconv_lower_ok e3 r21 hf32)) rfl ?_
         refine zl (r := b true) (LOp.eqb (LOp.leq rfl rfl rfl) hc33) ?_
         refine zm (r := b true) ?_
         refine zm (r := ik .u8 e3) ?_
         refine ROps.d (r := ik .u8 r22) (fs := []) (Γ' := []) rfl rfl rfl (TOp.callB (CallAs.func ent124 rfl rfl) (Bors.cons (Bor.pure rfl) Bors.nil) rfl rfl (x_internal_strconv_lower_ok e3 r22 hf34)) rfl ?_
         refine zl (r := b true) (LOp.eqb (LOp.leq rfl rfl rfl) hc35) ?_
         refine zl (r := b true) (LOp.pick_true rfl rfl rfl) ?_
         refine za (r := b true) ?_
         refine zN ?_
         refine RunC.wl (τ' := [(1, i64 16), (8, b false), (9, str a0), (10, ik .u64 1152921504606846976), (11, ik .u64 4294967295), (12, b false), (13, ik .u64 v1), (15, ik .u8 e3), (99, sl (bytI a0).length ((bytI a0).map (ik .u8))), (100, i64 ((bytI a0).length : Int)), (101, i64 v2), (121, b true), (126, ik .u8 e3), (127, ik .u8 r22), (128, b true)]) (Γ' := []) ⟨aR, aR, aR, aR, aR, aR, aR, aR, aR, aR, aR, aR, aR, aR, aR, trivial⟩ trivial ?_
         refine RunC.cond_true rfl rfl ?_
         obtain ⟨r23, hf36, h34_⟩ := obind_some h34_
         obtain ⟨x24, hx37, h34_⟩ := olet_some h34_
         obtain ⟨x25, hx38, h34_⟩ := olet_some h34_
         refine RunC.regionW ?_
         refine zm (r := ik .u8 e3) ?_
         refine ROps.d (r := ik .u8 r23) (fs := []) (Γ' := []) rfl rfl rfl (TOp.callB (CallAs.func ent124 rfl rfl) (Bors.cons (Bor.pure rfl) Bors.nil) rfl rfl (x_internal_strconv_lower_ok e3 r23 hf36)) rfl ?_
         refine zl (r := ik .u8 x24) (LOp.eqr (LOp.sub rfl rfl rfl) (congrArg (ik .u8) hx37)) ?_
         refine zl (r := ik .u8 x25) (LOp.eqr (LOp.add rfl rfl rfl) (congrArg (ik .u8) hx38)) ?_
         refine za (r := ik .u8 x25) ?_
         refine zN ?_
         exact ⟨x25, ⟨aR, aR, aR, aR, aR, aR, aR, aR, aR, aR, aR, trivial⟩, trivial, h34_⟩
        ·refine RunC.regionW ?_
         refine zm (r := ik .u8 e3) ?_
         refine ROps.d (r := ik .u8 r21) (fs := []) (Γ' := []) rfl rfl rfl (TOp.callB (CallAs.func ent124 rfl rfl) (Bors.cons (Bor.pure rfl) Bors.nil) rfl rfl (x_internal_strconv_lower_ok e3 r21 hf32)) rfl ?_
         refine zl (r := b true) (LOp.eqb (LOp.leq rfl rfl rfl) hc33) ?_
         refine zm (r := b true) ?_
         refine zm (r := ik .u8 e3) ?_
         refine ROps.d (r := ik .u8 r22) (fs := []) (Γ' := []) rfl rfl rfl (TOp.callB (CallAs.func ent124 rfl rfl) (Bors.cons (Bor.pure rfl) Bors.nil) rfl rfl (x_internal_strconv_lower_ok e3 r22 hf34)) rfl ?_
         refine zl (r := b false) (LOp.eqb (LOp.leq rfl rfl rfl) hc35) ?_
         refine zl (r := b false) (LOp.pick_true rfl rfl rfl) ?_
         refine za (r := b false) ?_
         refine zN ?_
         refine RunC.wl (τ' := [(1, i64 16), (8, b false), (9, str a0), (10, ik .u64 1152921504606846976), (11, ik .u64 4294967295), (12, b false), (13, ik .u64 v1), (15, ik .u8 e3), (99, sl (bytI a0).length ((bytI a0).map (ik .u8))), (100, i64 ((bytI a0).length : Int)), (101, i64 v2), (121, b false), (126, ik .u8 e3), (127, ik .u8 r22), (128, b false)]) (Γ' := []) ⟨aR, aR, aR, aR, aR, aR, aR, aR, aR, aR, aR, aR, aR, aR, aR, trivial⟩ trivial ?_
         refine RunC.cond_false rfl rfl ?_
         refine zQ ?_
         refine zl (r := x (.iface 140 (.int .i64 2))) (LOp.mkif (v := .int .i64 2) und140 rfl rfl) ?_
         refine za (r := ik .u64 0) ?_
         refine za (r := x (.iface 140 (.int .i64 2))) ?_
         refine zN ?_
         cases Option.some.inj h34_
         have hx41_ := hr34 _ rfl
         subst hx41_
         cases Option.some.inj h
       ·refine RunC.regionW ?_
        refine zm (r := ik .u8 e3) ?_
        refine ROps.d (r := ik .u8 r21) (fs := []) (Γ' := []) rfl rfl rfl (TOp.callB (CallAs.func ent124 rfl rfl) (Bors.cons (Bor.pure rfl) Bors.nil) rfl rfl (x_internal_strconv_lower_ok e3 r21 hf32)) rfl ?_
        refine zl (r := b false) (LOp.eqb (LOp.leq rfl rfl rfl) hc33) ?_
        refine zm (r := b false) ?_
        iterate 3 (refine ROps.s rfl rfl rfl ?_)
        refine zl (r := b false) (LOp.pick_false rfl rfl rfl) ?_
        refine za (r := b false) ?_
        refine zN ?_
        refine RunC.wl (τ' := [(1, i64 16), (8, b false), (9, str a0), (10, ik .u64 1152921504606846976), (11, ik .u64 4294967295), (12, b false), (13, ik .u64 v1), (15, ik .u8 e3), (99, sl (bytI a0).length ((bytI a0).map (ik .u8))), (100, i64 ((bytI a0).length : Int)), (101, i64 v2), (121, b false)]) (Γ' := []) ⟨aR, aR, aR, aR, aR, aR, aR, aR, aR, aR, aR, aR, trivial⟩ trivial ?_
        refine RunC.cond_false rfl rfl ?_
        refine zQ ?_
        refine zl (r := x (.iface 140 (.int .i64 2))) (LOp.mkif (v := .int .i64 2) und140 rfl rfl) ?_
        refine za (r := ik .u64 0) ?_
        refine za (r := x (.iface 140 (.int .i64 2))) ?_
        refine zN ?_
        cases Option.some.inj h34_
        have hx42_ := hr34 _ rfl
        subst hx42_
        cases Option.some.inj h
    ·rintro τ43 Γ43 ⟨v26, hw43, hd43, h34_⟩
     refine RunC.wl hw43 hd43 ?_
     unfold x_internal_strconv_ParseUint_k2 at h34_
     iterate 2 (refine RunC.seq ?_)
     rcases bsel_some h34_ with ⟨hc39, h34_⟩ | ⟨hc39, h34_⟩
     ·refine RunC.regionW ?_
      refine zm (r := ik .u8 v26) ?_
      refine zm (r := i64 16) ?_
      refine zl (r := ik .u8 16) ((show LOp _ _ _ (ik .u8 (IntKind.u8.wrap 16)) from LOp.i2i (src := 3) (dst := 5) ⟨_, pun3⟩ pun5 rfl rfl)) ?_
      refine zl (r := b true) (LOp.eqb (LOp.geq rfl rfl rfl) hc39) ?_
      refine zN ?_
      refine RunC.cond_true rfl rfl ?_
      refine zQ ?_
      refine zl (r := x (.iface 140 (.int .i64 2))) (LOp.mkif (v := .int .i64 2) und140 rfl rfl) ?_
      refine za (r := ik .u64 0) ?_
      refine za (r := x (.iface 140 (.int .i64 2))) ?_
      refine zN ?_
      cases Option.some.inj h34_
      have hx44_ := hr34 _ rfl
      subst hx44_
      cases Option.some.inj h
     ·refine RunC.regionW ?_
      refine zm (r := ik .u8 v26) ?_
      refine zm (r := i64 16) ?_
      refine zl (r := ik .u8 16) ((show LOp _ _ _ (ik .u8 (IntKind.u8.wrap 16)) from LOp.i2i (src := 3) (dst := 5) ⟨_, pun3⟩ pun5 rfl rfl)) ?_
      refine zl (r := b false) (LOp.eqb (LOp.geq rfl rfl rfl) hc39) ?_
      refine zN ?_
      refine RunC.cond_false rfl rfl ?_
      refine RunC.skip ?_
      iterate 2 (refine RunC.seq ?_)
      rcases bsel_some h34_ with ⟨hc40, h34_⟩ | ⟨hc40, h34_⟩
      ·refine RunC.regionW ?_
       refine zm (r := ik .u64 v1) ?_
       refine zm (r := ik .u64 1152921504606846976) ?_
       refine zl (r := b true) (LOp.eqb (LOp.geq rfl rfl rfl) hc40) ?_
       refine zN ?_
       refine RunC.cond_true rfl rfl ?_
       refine zQ ?_
       refine zm (r := ik .u64 4294967295) ?_
       refine zl (r := x (.iface 140 (.int .i64 1))) (LOp.mkif (v := .int .i64 1) und140 rfl rfl) ?_
       refine za (r := ik .u64 4294967295) ?_
       refine za (r := x (.iface 140 (.int .i64 1))) ?_
       refine zN ?_
       cases Option.some.inj h34_
       have hx45_ := hr34 _ rfl
       subst hx45_
       cases Option.some.inj h
      ·refine RunC.regionW ?_
       refine zm (r := ik .u64 v1) ?_
       refine zm (r := ik .u64 1152921504606846976) ?_
       refine zl (r := b false) (LOp.eqb (LOp.geq rfl rfl rfl) hc40) ?_
       refine zN ?_
       refine RunC.cond_false rfl rfl ?_
       refine RunC.skip ?_
       refine RunC.seq ?_
       obtain ⟨x27, hx41, h34_⟩ := olet_some h34_
       refine RunC.regionW ?_
       refine zm (r := ik .u64 v1) ?_
       refine zm (r := i64 16) ?_
       refine zl (r := ik .u64 16) ((show LOp _ _ _ (ik .u64 (IntKind.u64.wrap 16)) from LOp.i2i (src := 3) (dst := 90) ⟨_, pun3⟩ pun90 rfl rfl)) ?_
       refine zl (r := ik .u64 x27) (LOp.eqr (LOp.mul rfl rfl rfl) (congrArg (ik .u64) hx41)) ?_
       refine za (r := ik .u64 x27) ?_
       refine zN ?_
       refine RunC.seq ?_
       obtain ⟨x28, hx42, h34_⟩ := olet_some h34_
       obtain ⟨x29, hx43, h34_⟩ := olet_some h34_
       refine RunC.regionW ?_
       refine zm (r := ik .u64 x27) ?_
       refine zm (r := ik .u8 v26) ?_
       refine zl (r := ik .u64 x28) (LOp.eqr (LOp.i2i (src := 5) (dst := 90) ⟨_, pun5⟩ pun90 rfl rfl) (congrArg (ik .u64) hx42)) ?_
       refine zl (r := ik .u64 x29) (LOp.eqr (LOp.add rfl rfl rfl) (congrArg (ik .u64) hx43)) ?_
       refine za (r := ik .u64 x29) ?_
       refine zN ?_
       iterate 2 (refine RunC.seq ?_)
       rcases bsel_some h34_ with ⟨hc44, h34_⟩ | ⟨hc44, h34_⟩
       ·refine RunC.regionW ?_
        refine zm (r := ik .u64 x29) ?_
        refine zm (r := ik .u64 x27) ?_
        refine zl (r := b true) (LOp.eqb (LOp.lss rfl rfl rfl) hc44) ?_
        refine zm (r := b true) ?_
        iterate 3 (refine ROps.s rfl rfl rfl ?_)
        refine zl (r := b true) (LOp.pick_true rfl rfl rfl) ?_
        refine zN ?_
        refine RunC.cond_true rfl rfl ?_
        refine zQ ?_
        refine zm (r := ik .u64 4294967295) ?_
        refine zl (r := x (.iface 140 (.int .i64 1))) (LOp.mkif (v := .int .i64 1) und140 rfl rfl) ?_
        refine za (r := ik .u64 4294967295) ?_
        refine za (r := x (.iface 140 (.int .i64 1))) ?_
        refine zN ?_
        cases Option.some.inj h34_
        have hx46_ := hr34 _ rfl
        subst hx46_
        cases Option.some.inj h
       ·rcases bsel_some h34_ with ⟨hc45, h34_⟩ | ⟨hc45, h34_⟩
        ·refine RunC.regionW ?_
         refine zm (r := ik .u64 x29) ?_
         refine zm (r := ik .u64 x27) ?_
         refine zl (r := b false) (LOp.eqb (LOp.lss rfl rfl rfl) hc44) ?_
         refine zm (r := b false) ?_
         refine zm (r := ik .u64 x29) ?_
         refine zm (r := ik .u64 4294967295) ?_
         refine zl (r := b true) (LOp.eqb (LOp.gtr rfl rfl rfl) hc45) ?_
         refine zl (r := b true) (LOp.pick_false rfl rfl rfl) ?_
         refine zN ?_
         refine RunC.cond_true rfl rfl ?_
         refine zQ ?_
         refine zm (r := ik .u64 4294967295) ?_
         refine zl (r := x (.iface 140 (.int .i64 1))) (LOp.mkif (v := .int .i64 1) und140 rfl rfl) ?_
         refine za (r := ik .u64 4294967295) ?_
         refine za (r := x (.iface 140 (.int .i64 1))) ?_
         refine zN ?_
         cases Option.some.inj h34_
         have hx47_ := hr34 _ rfl
         subst hx47_
         cases Option.some.inj h
        ·refine RunC.regionW ?_
         refine zm (r := ik .u64 x29) ?_
         refine zm (r := ik .u64 x27) ?_
         refine zl (r := b false) (LOp.eqb (LOp.lss rfl rfl rfl) hc44) ?_
         refine zm (r := b false) ?_
         refine zm (r := ik .u64 x29) ?_
         refine zm (r := ik .u64 4294967295) ?_
         refine zl (r := b false) (LOp.eqb (LOp.gtr rfl rfl rfl) hc45) ?_
         refine zl (r := b false) (LOp.pick_false rfl rfl rfl) ?_
         refine zN ?_
         refine RunC.cond_false rfl rfl ?_
         refine RunC.skip ?_
         refine RunC.wl (τ' := [(1, i64 16), (8, b false), (9, str a0), (10, ik .u64 1152921504606846976), (11, ik .u64 4294967295), (12, b false), (17, ik .u64 x29), (99, sl (bytI a0).length ((bytI a0).map (ik .u8))), (100, i64 ((bytI a0).length : Int)), (101, i64 v2), (156, ik .u64 x29), (157, ik .u64 4294967295), (158, b false)]) (Γ' := []) ⟨aR, aR, aR, aR, aR, aR, aR, aR, aR, aR, aR, aR, aR, trivial⟩ trivial ?_
         refine RunC.regionW ?_
         refine zm (r := ik .u64 x29) ?_
         refine za (r := ik .u64 x29) ?_
         refine zN ?_
         obtain ⟨x30, hx46, h34_⟩ := olet_some h34_
         refine RunC.regionW ?_
         refine zl (r := i64 x30) (LOp.eqr (LOp.add rfl rfl rfl) (congrArg (ik .i64) hx46)) ?_
         refine zm (r := i64 x30) ?_
         refine zN ?_
         cases Option.some.inj h34_
         exact ⟨_, rfl, ⟨aR, aR, aR, aR, aR, aR, aR, aR, aR, aR, trivial⟩, trivial⟩
   ·refine RunC.regionW ?_
    refine zl (r := b false) (LOp.eqb (LOp.lss rfl rfl rfl) hc2) ?_
    refine zN ?_
    refine RunC.seq ?_
    refine RunC.cond_false rfl rfl ?_
    refine RunC.exit ?_
    cases Option.some.inj h34_
    have hx := ho34 _ rfl
    exact ⟨v1, ⟨aR, aR, aR, trivial⟩, trivial, hx⟩
  ·rintro τ48 Γ48 ⟨v31, hw48, hd48, rfl⟩
   refine RunC.wl hw48 hd48 ?_
   replace h : x_internal_strconv_ParseUint_k3 v31 = some (Sum.inr (Sum.inr q0)) := h
   unfold x_internal_strconv_ParseUint_k3 at h
   refine RunC.seq ?_
   refine zQ ?_
   iterate 2 (refine zm (r := b false) ?_)
   iterate 3 (refine ROps.s rfl rfl rfl ?_)
   refine zl (r := b false) (LOp.pick_false rfl rfl rfl) ?_
   refine zN ?_
   refine RunC.cond_false rfl rfl ?_
   refine RunC.skip ?_
   refine zQ ?_
   refine zm (r := ik .u64 v31) ?_
   refine za (r := ik .u64 v31) ?_
   refine za (r := x .nilIface) ?_
   refine zN ?_
   refine RunC.ret ?_
   have hq := Option.some.inj h
   have hq := Sum.inr.inj hq
   have hq := Sum.inr.inj hq
   subst q0
   exact bodyQ.pure (.inr rfl) rfl (Res.two rfl (RV.tmp rfl) (RV.tmp rfl))
noncomputable def x_strconv_toError_syntax (a0 a1 : ByteArray) (a2 a3 : Int) : Option Unit :=
 need (decide (a1.size ≤ 281474976710656)) <|
 some ()
def toe_ren : Go.Shelf.Ren :=
{
 f := fun x =>
  match x with
  | 245 => 105
  | 279 => 126
  | 280 => 127
  | 281 => 128
  | 282 => 129
  | 316 => 144
  | 171 => 146
  | 205 => 145
  | 243 => 151
  | 246 => 94
  | 283 => 111
  | 284 => 112
  | 285 => 113
  | 286 => 114
  | 129 => 133
  | 317 => 132
  | 318 => 134
  | 319 => 135
  | 320 => 136
  | 337 => 147
  | 338 => 148
  | n => n,
 t := fun x =>
  match x with
  | 9 => 9
  | 3 => 3
  | 75 => 99
  | 167 => 140
  | 4 => 4
  | 168 => 143
  | 210 => 157
  | 37 => 22
  | 0 => 0
  | 127 => 135
  | 145 => 167
  | 143 => 165
  | 2 => 2
  | 171 => 126
  | 53 => 90
  | 5 => 5
  | 173 => 129
  | 212 => 148
  | 51 => 79
  | 20 => 20
  | 213 => 149
  | 46 => 106
  | 232 => 168
  | 233 => 169
  | 80 => 117
  | n => n,
 g := fun x =>
  match x with
  | 15 => 3
  | 16 => 4
  | 17 => 1
  | 18 => 7
  | 19 => 8
  | n => n }
theorem toe_lays : Go.Proofs.LaysC.n245 Tryz.prog toe_ren :=
 {
  f129 := (Eq.trans Tryz.func133 (congrArg some (by kernel_rfl))),
  f171 := (Eq.trans Tryz.func146 (congrArg some (by kernel_rfl))),
  f205 := (Eq.trans Tryz.func145 (congrArg some (by kernel_rfl))),
  f243 := (Eq.trans Tryz.func151 (congrArg some (by kernel_rfl))),
  f245 := (Eq.trans Tryz.func105 (congrArg some (by kernel_rfl))),
  f246 := (Eq.trans Tryz.func94 (congrArg some (by kernel_rfl))),
  f279 := (Eq.trans Tryz.func126 (congrArg some (by kernel_rfl))),
  f280 := (Eq.trans Tryz.func127 (congrArg some (by kernel_rfl))),
  f281 := (Eq.trans Tryz.func128 (congrArg some (by kernel_rfl))),
  f282 := (Eq.trans Tryz.func129 (congrArg some (by kernel_rfl))),
  f283 := (Eq.trans Tryz.func111 (congrArg some (by kernel_rfl))),
  f284 := (Eq.trans Tryz.func112 (congrArg some (by kernel_rfl))),
  f285 := (Eq.trans Tryz.func113 (congrArg some (by kernel_rfl))),
  f286 := (Eq.trans Tryz.func114 (congrArg some (by kernel_rfl))),
  f316 := (Eq.trans Tryz.func144 (congrArg some (by kernel_rfl))),
  f317 := (Eq.trans Tryz.func132 (congrArg some (by kernel_rfl))),
  f318 := (Eq.trans Tryz.func134 (congrArg some (by kernel_rfl))),
  f319 := (Eq.trans Tryz.func135 (congrArg some (by kernel_rfl))),
  f320 := (Eq.trans Tryz.func136 (congrArg some (by kernel_rfl))),
  f337 := (Eq.trans Tryz.func147 (congrArg some (by kernel_rfl))),
  f338 := (Eq.trans Tryz.func148 (congrArg some (by kernel_rfl))),
  t0 := Tryz.underlying0,
  a0 := Tryz.isAgg0,
  z0 := Tryz.sizeOf0,
  v0 := Tryz.zeroValue0,
  t2 := Tryz.underlying2,
  a2 := Tryz.isAgg2,
  z2 := Tryz.sizeOf2,
  v2 := Tryz.zeroValue2,
  t3 := Tryz.underlying3,
  a3 := Tryz.isAgg3,
  z3 := Tryz.sizeOf3,
  v3 := Tryz.zeroValue3,
  t4 := Tryz.underlying4,
  a4 := Tryz.isAgg4,
  z4 := Tryz.sizeOf4,
  v4 := Tryz.zeroValue4,
  t5 := Tryz.underlying5,
  a5 := Tryz.isAgg5,
  z5 := Tryz.sizeOf5,
  v5 := Tryz.zeroValue5,
  t9 := Tryz.underlying9,
  a9 := Tryz.isAgg9,
  z9 := Tryz.sizeOf9,
  v9 := Tryz.zeroValue9,
  t20 := Tryz.underlying20,
  a20 := Tryz.isAgg20,
  z20 := Tryz.sizeOf20,
  v20 := Tryz.zeroValue20,
  t37 := Tryz.underlying22,
  a37 := Tryz.isAgg22,
  z37 := Tryz.sizeOf22,
  v37 := Tryz.zeroValue22,
  t46 := Tryz.underlying106,
  a46 := Tryz.isAgg106,
  z46 := Tryz.sizeOf106,
  v46 := Tryz.zeroValue106,
  t51 := Tryz.underlying79,
  a51 := Tryz.isAgg79,
  z51 := Tryz.sizeOf79,
  v51 := Tryz.zeroValue79,
  t53 := Tryz.underlying90,
  a53 := Tryz.isAgg90,
  z53 := Tryz.sizeOf90,
  v53 := Tryz.zeroValue90,
  t75 := Tryz.underlying99,
  a75 := Tryz.isAgg99,
  z75 := Tryz.sizeOf99,
  v75 := Tryz.zeroValue99,
  t127 := Tryz.underlying135,
  a127 := Tryz.isAgg135,
  z127 := Tryz.sizeOf135,
  v127 := Tryz.zeroValue135,
  t143 := Tryz.underlying165,
  a143 := Tryz.isAgg165,
  z143 := Tryz.sizeOf165,
  v143 := Tryz.zeroValue165,
  t145 := Tryz.underlying167,
  a145 := Tryz.isAgg167,
  z145 := Tryz.sizeOf167,
  v145 := Tryz.zeroValue167,
  t167 := Tryz.underlying140,
  a167 := Tryz.isAgg140,
  z167 := Tryz.sizeOf140,
  v167 := Tryz.zeroValue140,
  t168 := Tryz.underlying143,
  a168 := Tryz.isAgg143,
  z168 := Tryz.sizeOf143,
  v168 := Tryz.zeroValue143,
  t171 := Tryz.underlying126,
  a171 := Tryz.isAgg126,
  z171 := Tryz.sizeOf126,
  v171 := Tryz.zeroValue126,
  t173 := Tryz.underlying129,
  a173 := Tryz.isAgg129,
  z173 := Tryz.sizeOf129,
  v173 := Tryz.zeroValue129,
  t210 := Tryz.underlying157,
  a210 := Tryz.isAgg157,
  z210 := Tryz.sizeOf157,
  v210 := Tryz.zeroValue157,
  t212 := Tryz.underlying148,
  a212 := Tryz.isAgg148,
  z212 := Tryz.sizeOf148,
  v212 := Tryz.zeroValue148,
  t213 := Tryz.underlying149,
  a213 := Tryz.isAgg149,
  z213 := Tryz.sizeOf149,
  t232 := Tryz.underlying168,
  a232 := Tryz.isAgg168,
  z232 := Tryz.sizeOf168,
  v232 := Tryz.zeroValue168,
  t233 := Tryz.underlying169,
  a233 := Tryz.isAgg169,
  z233 := Tryz.sizeOf169,
  v233 := Tryz.zeroValue169,
  t80 := Tryz.underlying117,
  a80 := Tryz.isAgg117,
  z80 := Tryz.sizeOf117,
  v80 := Tryz.zeroValue117,
  mixed := (by kernel_rfl),
  g15 := (by kernel_rfl),
  g16 := (by kernel_rfl),
  g17 := (by kernel_rfl),
  g18 := (by kernel_rfl),
  g19 := (by kernel_rfl),
  i0 := (by kernel_rfl),
  i2 := (by kernel_rfl),
  i3 := (by kernel_rfl),
  i4 := (by kernel_rfl),
  i5 := (by kernel_rfl),
  i9 := (by kernel_rfl),
  i20 := (by kernel_rfl),
  i37 := (by kernel_rfl),
  i46 := (by kernel_rfl),
  i51 := (by kernel_rfl),
  i53 := (by kernel_rfl),
  i75 := (by kernel_rfl),
  i80 := (by kernel_rfl),
  i127 := (by kernel_rfl),
  i143 := (by kernel_rfl),
  i145 := (by kernel_rfl),
  i167 := (by kernel_rfl),
  i168 := (by kernel_rfl),
  i171 := (by kernel_rfl),
  i173 := (by kernel_rfl),
  i210 := (by kernel_rfl),
  i212 := (by kernel_rfl),
  i232 := (by kernel_rfl),
  i233 := (by kernel_rfl),
  m15 := (by kernel_rfl),
  m16 := (by kernel_rfl),
  m17 := (by kernel_rfl),
  m18 := (by kernel_rfl),
  m19 := (by kernel_rfl),
  c0 := (by kernel_rfl),
  c2 := (by kernel_rfl),
  c3 := (by kernel_rfl),
  c4 := (by kernel_rfl),
  c5 := (by kernel_rfl),
  c9 := (by kernel_rfl),
  c20 := (by kernel_rfl),
  c37 := (by kernel_rfl),
  c46 := (by kernel_rfl),
  c51 := (by kernel_rfl),
  c53 := (by kernel_rfl),
  c75 := (by kernel_rfl),
  c80 := (by kernel_rfl),
  c127 := (by kernel_rfl),
  c143 := (by kernel_rfl),
  c145 := (by kernel_rfl),
  c167 := (by kernel_rfl),
  c168 := (by kernel_rfl),
  c171 := (by kernel_rfl),
  c173 := (by kernel_rfl),
  c210 := (by kernel_rfl),
  c212 := (by kernel_rfl),
  c213 := (by kernel_rfl),
  c232 := (by kernel_rfl),
  c233 := (by kernel_rfl) }
theorem x_strconv_toError_syntax_five {vs : Array Value} {S : Snap} {a0 a1 : ByteArray} {a2 a3 : Int} (ha : VL S [] [str a0, str a1, i64 a2, i64 a3, x (.iface 140 (.int .i64 2))] vs.toList) : vs = #[.string a0, .string a1, .int .i64 a2, .int .i64 a3, .iface 140 (.int .i64 2)] := by
 obtain ⟨vl⟩ := vs
 match vl, ha with
 | [v0, v1, v2, v3, v4], ha =>
  simp only [VL, V] at ha
  obtain ⟨rfl, rfl, rfl, rfl, rfl, _⟩ := ha
  rfl
 | [], ha => simp only [VL] at ha
 | [_], ha => simp only [VL] at ha; exact ha.2.elim
 | [_, _], ha => simp only [VL] at ha; exact ha.2.2.elim
 | [_, _, _], ha => simp only [VL] at ha; exact ha.2.2.2.elim
 | [_, _, _, _], ha => simp only [VL] at ha; exact ha.2.2.2.2.elim
 | _ :: _ :: _ :: _ :: _ :: _ :: _, ha => simp only [VL] at ha; exact ha.2.2.2.2.2.elim
theorem x_strconv_toError_syntax_ok (a0 a1 : ByteArray) (a2 a3 : Int) (h : x_strconv_toError_syntax a0 a1 a2 a3 = some ()) : Ev Tryz.prog 105 [str a0, str a1, i64 a2, i64 a3, x (.iface 140 (.int .i64 2))] [] (nni) [] := by
 unfold x_strconv_toError_syntax at h
 obtain ⟨h1, _⟩ := need_some h
 have h1 := of_decide_eq_true h1
 refine Ev.ofGrow fun S w vs hs ha => ?_
 rw [x_strconv_toError_syntax_five ha]
 obtain ⟨ev, hv, hev⟩ := globs_err hs (g := 3) (by unfold globsI; simp)
 refine (Go.Proofs.Any.strconv_toError_syntax toe_lays a0 a1 a2 a3 ev w h1 hv hev).mono ?_
 rintro e w' ⟨N, rfl, _, _, hB⟩
 exact ⟨_, rfl, by simp only [V]; exact ⟨_, _, rfl⟩, hB.size, fun k hk => hB.block k hk, hB.os, hB.tape, hB.output⟩
noncomputable def x_strconv_toError_range (a0 a1 : ByteArray) (a2 a3 : Int) : Option Unit :=
 need (decide (a1.size ≤ 281474976710656)) <|
 some ()
theorem x_strconv_toError_range_five {vs : Array Value} {S : Snap} {a0 a1 : ByteArray} {a2 a3 : Int} (ha : VL S [] [str a0, str a1, i64 a2, i64 a3, x (.iface 140 (.int .i64 1))] vs.toList) : vs = #[.string a0, .string a1, .int .i64 a2, .int .i64 a3, .iface 140 (.int .i64 1)] := by
 obtain ⟨vl⟩ := vs
 match vl, ha with
 | [v0, v1, v2, v3, v4], ha =>
  simp only [VL, V] at ha
  obtain ⟨rfl, rfl, rfl, rfl, rfl, _⟩ := ha
  rfl
 | [], ha => simp only [VL] at ha
 | [_], ha => simp only [VL] at ha; exact ha.2.elim
 | [_, _], ha => simp only [VL] at ha; exact ha.2.2.elim
 | [_, _, _], ha => simp only [VL] at ha; exact ha.2.2.2.elim
 | [_, _, _, _], ha => simp only [VL] at ha; exact ha.2.2.2.2.elim
 | _ :: _ :: _ :: _ :: _ :: _ :: _, ha => simp only [VL] at ha; exact ha.2.2.2.2.2.elim
theorem x_strconv_toError_range_ok (a0 a1 : ByteArray) (a2 a3 : Int) (h : x_strconv_toError_range a0 a1 a2 a3 = some ()) : Ev Tryz.prog 105 [str a0, str a1, i64 a2, i64 a3, x (.iface 140 (.int .i64 1))] [] (nni) [] := by
 unfold x_strconv_toError_range at h
 obtain ⟨h1, _⟩ := need_some h
 have h1 := of_decide_eq_true h1
 refine Ev.ofGrow fun S w vs hs ha => ?_
 rw [x_strconv_toError_range_five ha]
 obtain ⟨ev, hv, hev⟩ := globs_err hs (g := 4) (by unfold globsI; simp)
 refine (Go.Proofs.Any.strconv_toError_range toe_lays a0 a1 a2 a3 ev w h1 hv hev).mono ?_
 rintro e w' ⟨N, rfl, _, _, hB⟩
 exact ⟨_, rfl, by simp only [V]; exact ⟨_, _, rfl⟩, hB.size, fun k hk => hB.block k hk, hB.os, hB.tape, hB.output⟩
noncomputable def x_strconv_ParseUint (a0 : ByteArray) : Option ((Int) ⊕ (Int)) :=
 obind (x_internal_strconv_ParseUint a0) (fun z => osum z (fun (r1 : Int) =>
  obind (x_strconv_toError_syntax lit_c0869d09 a0 16 32) fun (_u4 : Unit) =>
  some (Sum.inl r1)) (fun z => osum z (fun (r2 : Int) =>
  obind (x_strconv_toError_range lit_c0869d09 a0 16 32) fun (_u5 : Unit) =>
  some (Sum.inl r2)) (fun (r3 : Int) =>
  some (Sum.inr r3))))
theorem x_strconv_ParseUint_ok0 (a0 : ByteArray) (q0 : Int) (h : x_strconv_ParseUint a0 = some (Sum.inl q0)) : Ev Tryz.prog 83 [str a0, i64 16, i64 32] [] (tup [ik .u64 q0, nni]) [] := by
 refine Ev.start Tryz.func83 rfl rfl 0 (τ := [(0, str a0), (1, i64 16), (2, i64 32)]) rfl (Γ' := []) rfl (n := 53) rfl (g := 0) rfl (fun _ => rfl) ?_
 unfold x_strconv_ParseUint at h
 refine zQ ?_
 refine za (r := ik .u64 0) ?_
 refine za (r := x .nilIface) ?_
 refine zN ?_
 refine RunC.seq ?_
 obtain ⟨z1, hf1, h⟩ := obind_some h
 rcases z1 with r1 | z1
 ·replace h := (osum_inl _ _ _).symm.trans h
  refine RunC.regionW ?_
  refine zm (r := str a0) ?_
  refine zm (r := i64 16) ?_
  refine zm (r := i64 32) ?_
  refine ROps.d (r := tup [ik .u64 r1, x (.iface 140 (.int .i64 2))]) (fs := []) (Γ' := []) rfl rfl rfl (TOp.callB (CallAs.func ent104 rfl rfl) (Bors.cons (Bor.pure rfl) (Bors.cons (Bor.pure rfl) (Bors.cons (Bor.pure rfl) Bors.nil))) rfl rfl (x_internal_strconv_ParseUint_ok0 a0 r1 hf1)) rfl ?_
  refine zm (r := tup [ik .u64 r1, x (.iface 140 (.int .i64 2))]) ?_
  refine zl (r := ik .u64 r1) (LOp.extract rfl rfl rfl) ?_
  refine zl (r := x (.iface 140 (.int .i64 2))) (LOp.extract rfl rfl rfl) ?_
  refine za (r := ik .u64 r1) ?_
  refine za (r := x (.iface 140 (.int .i64 2))) ?_
  refine zN ?_
  refine RunC.seq ?_
  refine zQ ?_
  refine zm (r := x (.iface 140 (.int .i64 2))) ?_
  refine zl (r := b true) (LOp.neq_if pun99 rfl rfl rfl) ?_
  refine zN ?_
  refine RunC.cond_true rfl rfl ?_
  refine RunC.seq ?_
  obtain ⟨_u4, hf2, h⟩ := obind_some h
  refine RunC.regionW ?_
  refine zm (r := ik .u64 r1) ?_
  refine zm (r := str a0) ?_
  refine zm (r := i64 16) ?_
  refine zm (r := i64 32) ?_
  refine zm (r := x (.iface 140 (.int .i64 2))) ?_
  refine ROps.d (r := nni) (fs := []) (Γ' := []) rfl rfl rfl (TOp.callB (CallAs.func ent105 rfl rfl) (Bors.cons (Bor.pure rfl) (Bors.cons (Bor.pure rfl) (Bors.cons (Bor.pure rfl) (Bors.cons (Bor.pure rfl) (Bors.cons (Bor.pure rfl) Bors.nil))))) rfl rfl (x_strconv_toError_syntax_ok lit_c0869d09 a0 16 32 hf2)) rfl ?_
  refine za (r := ik .u64 r1) ?_
  refine za (r := nni) ?_
  refine zN ?_
  refine RunC.ret ?_
  have hq := Option.some.inj h
  have hq := Sum.inl.inj hq
  subst q0
  exact bodyQ.pure (.inr rfl) rfl (Res.two rfl (RV.tmp rfl) (RV.tmp rfl))
 ·replace h := (osum_inr _ _ _).symm.trans h
  rcases z1 with r2 | r3
  ·replace h := (osum_inl _ _ _).symm.trans h
   refine RunC.regionW ?_
   refine zm (r := str a0) ?_
   refine zm (r := i64 16) ?_
   refine zm (r := i64 32) ?_
   refine ROps.d (r := tup [ik .u64 r2, x (.iface 140 (.int .i64 1))]) (fs := []) (Γ' := []) rfl rfl rfl (TOp.callB (CallAs.func ent104 rfl rfl) (Bors.cons (Bor.pure rfl) (Bors.cons (Bor.pure rfl) (Bors.cons (Bor.pure rfl) Bors.nil))) rfl rfl (x_internal_strconv_ParseUint_ok1 a0 r2 hf1)) rfl ?_
   refine zm (r := tup [ik .u64 r2, x (.iface 140 (.int .i64 1))]) ?_
   refine zl (r := ik .u64 r2) (LOp.extract rfl rfl rfl) ?_
   refine zl (r := x (.iface 140 (.int .i64 1))) (LOp.extract rfl rfl rfl) ?_
   refine za (r := ik .u64 r2) ?_
   refine za (r := x (.iface 140 (.int .i64 1))) ?_
   refine zN ?_
   refine RunC.seq ?_
   refine zQ ?_
   refine zm (r := x (.iface 140 (.int .i64 1))) ?_
   refine zl (r := b true) (LOp.neq_if pun99 rfl rfl rfl) ?_
   refine zN ?_
   refine RunC.cond_true rfl rfl ?_
   refine RunC.seq ?_
   obtain ⟨_u5, hf3, h⟩ := obind_some h
   refine RunC.regionW ?_
   refine zm (r := ik .u64 r2) ?_
   refine zm (r := str a0) ?_
   refine zm (r := i64 16) ?_
   refine zm (r := i64 32) ?_
   refine zm (r := x (.iface 140 (.int .i64 1))) ?_
   refine ROps.d (r := nni) (fs := []) (Γ' := []) rfl rfl rfl (TOp.callB (CallAs.func ent105 rfl rfl) (Bors.cons (Bor.pure rfl) (Bors.cons (Bor.pure rfl) (Bors.cons (Bor.pure rfl) (Bors.cons (Bor.pure rfl) (Bors.cons (Bor.pure rfl) Bors.nil))))) rfl rfl (x_strconv_toError_range_ok lit_c0869d09 a0 16 32 hf3)) rfl ?_
   refine za (r := ik .u64 r2) ?_
   refine za (r := nni) ?_
   refine zN ?_
   refine RunC.ret ?_
   have hq := Option.some.inj h
   have hq := Sum.inl.inj hq
   subst q0
   exact bodyQ.pure (.inr rfl) rfl (Res.two rfl (RV.tmp rfl) (RV.tmp rfl))
  ·replace h := (osum_inr _ _ _).symm.trans h
   refine RunC.regionW ?_
   refine zm (r := str a0) ?_
   refine zm (r := i64 16) ?_
   refine zm (r := i64 32) ?_
   refine ROps.d (r := tup [ik .u64 r3, x .nilIface]) (fs := []) (Γ' := []) rfl rfl rfl (TOp.callB (CallAs.func ent104 rfl rfl) (Bors.cons (Bor.pure rfl) (Bors.cons (Bor.pure rfl) (Bors.cons (Bor.pure rfl) Bors.nil))) rfl rfl (x_internal_strconv_ParseUint_ok2 a0 r3 hf1)) rfl ?_
   refine zm (r := tup [ik .u64 r3, x .nilIface]) ?_
   refine zl (r := ik .u64 r3) (LOp.extract rfl rfl rfl) ?_
   refine zl (r := x .nilIface) (LOp.extract rfl rfl rfl) ?_
   refine za (r := ik .u64 r3) ?_
   refine za (r := x .nilIface) ?_
   refine zN ?_
   refine RunC.seq ?_
   refine zQ ?_
   refine zm (r := x .nilIface) ?_
   refine zl (r := b false) (LOp.neq_nil_nil pun99 rfl rfl) ?_
   refine zN ?_
   refine RunC.cond_false rfl rfl ?_
   refine RunC.skip ?_
   refine RunC.wl (τ' := [(8, ik .u64 r3)]) (Γ' := []) ⟨aR, trivial⟩ trivial ?_
   refine zQ ?_
   refine zm (r := ik .u64 r3) ?_
   refine za (r := ik .u64 r3) ?_
   refine za (r := x .nilIface) ?_
   refine zN ?_
   cases Option.some.inj h
theorem x_strconv_ParseUint_ok1 (a0 : ByteArray) (q0 : Int) (h : x_strconv_ParseUint a0 = some (Sum.inr q0)) : Ev Tryz.prog 83 [str a0, i64 16, i64 32] [] (tup [ik .u64 q0, x .nilIface]) [] := by
 refine Ev.start Tryz.func83 rfl rfl 0 (τ := [(0, str a0), (1, i64 16), (2, i64 32)]) rfl (Γ' := []) rfl (n := 53) rfl (g := 0) rfl (fun _ => rfl) ?_
 unfold x_strconv_ParseUint at h
 refine zQ ?_
 refine za (r := ik .u64 0) ?_
 refine za (r := x .nilIface) ?_
 refine zN ?_
 refine RunC.seq ?_
 obtain ⟨z2, hf1, h⟩ := obind_some h
 rcases z2 with r1 | z2
 ·replace h := (osum_inl _ _ _).symm.trans h
  refine RunC.regionW ?_
  refine zm (r := str a0) ?_
  refine zm (r := i64 16) ?_
  refine zm (r := i64 32) ?_
  refine ROps.d (r := tup [ik .u64 r1, x (.iface 140 (.int .i64 2))]) (fs := []) (Γ' := []) rfl rfl rfl (TOp.callB (CallAs.func ent104 rfl rfl) (Bors.cons (Bor.pure rfl) (Bors.cons (Bor.pure rfl) (Bors.cons (Bor.pure rfl) Bors.nil))) rfl rfl (x_internal_strconv_ParseUint_ok0 a0 r1 hf1)) rfl ?_
  refine zm (r := tup [ik .u64 r1, x (.iface 140 (.int .i64 2))]) ?_
  refine zl (r := ik .u64 r1) (LOp.extract rfl rfl rfl) ?_
  refine zl (r := x (.iface 140 (.int .i64 2))) (LOp.extract rfl rfl rfl) ?_
  refine za (r := ik .u64 r1) ?_
  refine za (r := x (.iface 140 (.int .i64 2))) ?_
  refine zN ?_
  refine RunC.seq ?_
  refine zQ ?_
  refine zm (r := x (.iface 140 (.int .i64 2))) ?_
  refine zl (r := b true) (LOp.neq_if pun99 rfl rfl rfl) ?_
  refine zN ?_
  refine RunC.cond_true rfl rfl ?_
  refine RunC.seq ?_
  obtain ⟨_u4, hf2, h⟩ := obind_some h
  refine RunC.regionW ?_
  refine zm (r := ik .u64 r1) ?_
  refine zm (r := str a0) ?_
  refine zm (r := i64 16) ?_
  refine zm (r := i64 32) ?_
  refine zm (r := x (.iface 140 (.int .i64 2))) ?_
  refine ROps.d (r := nni) (fs := []) (Γ' := []) rfl rfl rfl (TOp.callB (CallAs.func ent105 rfl rfl) (Bors.cons (Bor.pure rfl) (Bors.cons (Bor.pure rfl) (Bors.cons (Bor.pure rfl) (Bors.cons (Bor.pure rfl) (Bors.cons (Bor.pure rfl) Bors.nil))))) rfl rfl (x_strconv_toError_syntax_ok lit_c0869d09 a0 16 32 hf2)) rfl ?_
  refine za (r := ik .u64 r1) ?_
  refine za (r := nni) ?_
  refine zN ?_
  cases Option.some.inj h
 ·replace h := (osum_inr _ _ _).symm.trans h
  rcases z2 with r2 | r3
  ·replace h := (osum_inl _ _ _).symm.trans h
   refine RunC.regionW ?_
   refine zm (r := str a0) ?_
   refine zm (r := i64 16) ?_
   refine zm (r := i64 32) ?_
   refine ROps.d (r := tup [ik .u64 r2, x (.iface 140 (.int .i64 1))]) (fs := []) (Γ' := []) rfl rfl rfl (TOp.callB (CallAs.func ent104 rfl rfl) (Bors.cons (Bor.pure rfl) (Bors.cons (Bor.pure rfl) (Bors.cons (Bor.pure rfl) Bors.nil))) rfl rfl (x_internal_strconv_ParseUint_ok1 a0 r2 hf1)) rfl ?_
   refine zm (r := tup [ik .u64 r2, x (.iface 140 (.int .i64 1))]) ?_
   refine zl (r := ik .u64 r2) (LOp.extract rfl rfl rfl) ?_
   refine zl (r := x (.iface 140 (.int .i64 1))) (LOp.extract rfl rfl rfl) ?_
   refine za (r := ik .u64 r2) ?_
   refine za (r := x (.iface 140 (.int .i64 1))) ?_
   refine zN ?_
   refine RunC.seq ?_
   refine zQ ?_
   refine zm (r := x (.iface 140 (.int .i64 1))) ?_
   refine zl (r := b true) (LOp.neq_if pun99 rfl rfl rfl) ?_
   refine zN ?_
   refine RunC.cond_true rfl rfl ?_
   refine RunC.seq ?_
   obtain ⟨_u5, hf3, h⟩ := obind_some h
   refine RunC.regionW ?_
   refine zm (r := ik .u64 r2) ?_
   refine zm (r := str a0) ?_
   refine zm (r := i64 16) ?_
   refine zm (r := i64 32) ?_
   refine zm (r := x (.iface 140 (.int .i64 1))) ?_
   refine ROps.d (r := nni) (fs := []) (Γ' := []) rfl rfl rfl (TOp.callB (CallAs.func ent105 rfl rfl) (Bors.cons (Bor.pure rfl) (Bors.cons (Bor.pure rfl) (Bors.cons (Bor.pure rfl) (Bors.cons (Bor.pure rfl) (Bors.cons (Bor.pure rfl) Bors.nil))))) rfl rfl (x_strconv_toError_range_ok lit_c0869d09 a0 16 32 hf3)) rfl ?_
   refine za (r := ik .u64 r2) ?_
   refine za (r := nni) ?_
   refine zN ?_
   cases Option.some.inj h
  ·replace h := (osum_inr _ _ _).symm.trans h
   refine RunC.regionW ?_
   refine zm (r := str a0) ?_
   refine zm (r := i64 16) ?_
   refine zm (r := i64 32) ?_
   refine ROps.d (r := tup [ik .u64 r3, x .nilIface]) (fs := []) (Γ' := []) rfl rfl rfl (TOp.callB (CallAs.func ent104 rfl rfl) (Bors.cons (Bor.pure rfl) (Bors.cons (Bor.pure rfl) (Bors.cons (Bor.pure rfl) Bors.nil))) rfl rfl (x_internal_strconv_ParseUint_ok2 a0 r3 hf1)) rfl ?_
   refine zm (r := tup [ik .u64 r3, x .nilIface]) ?_
   refine zl (r := ik .u64 r3) (LOp.extract rfl rfl rfl) ?_
   refine zl (r := x .nilIface) (LOp.extract rfl rfl rfl) ?_
   refine za (r := ik .u64 r3) ?_
   refine za (r := x .nilIface) ?_
   refine zN ?_
   refine RunC.seq ?_
   refine zQ ?_
   refine zm (r := x .nilIface) ?_
   refine zl (r := b false) (LOp.neq_nil_nil pun99 rfl rfl) ?_
   refine zN ?_
   refine RunC.cond_false rfl rfl ?_
   refine RunC.skip ?_
   refine RunC.wl (τ' := [(8, ik .u64 r3)]) (Γ' := []) ⟨aR, trivial⟩ trivial ?_
   refine zQ ?_
   refine zm (r := ik .u64 r3) ?_
   refine za (r := ik .u64 r3) ?_
   refine za (r := x .nilIface) ?_
   refine zN ?_
   refine RunC.ret ?_
   have hq := Option.some.inj h
   have hq := Sum.inr.inj hq
   subst q0
   exact bodyQ.pure (.inr rfl) rfl (Res.two rfl (RV.tmp rfl) (RV.tmp rfl))
noncomputable def i_fromDigits (a0 : ByteArray) : Option (F × Bool) :=
 obind (x_strconv_ParseUint a0) (fun z => osum z (fun (r1 : Int) =>
  olet (IntKind.u32.wrap r1) fun (x3 : Int) =>
  need ((decide (0 ≤ x3) && decide (x3.toNat < 2 ^ FloatKind.f32.format.width))) <|
  some (some 0, false)) (fun (r2 : Int) =>
  olet (IntKind.u32.wrap r2) fun (x4 : Int) =>
  need ((decide (0 ≤ x4) && decide (x4.toNat < 2 ^ FloatKind.f32.format.width))) <|
  obind (i_digitsOf (ffb .f32 x4)) fun (r5 : ByteArray) =>
  bsel (!eqs r5 a0) (
   some (some 0, false)) (
   some ((ffb .f32 x4), true))))
theorem i_fromDigits_ok (a0 : ByteArray) (q0 : F) (q1 : Bool) (h : i_fromDigits a0 = some (q0, q1)) : Ev Tryz.prog 51 [str a0] [] (tup [f32 q0, b q1]) [] := by
 refine Ev.start Tryz.func51 rfl rfl 0 (τ := [(0, str a0)]) rfl (Γ' := []) rfl (n := 49) rfl (g := 0) rfl (fun _ => rfl) ?_
 unfold i_fromDigits at h
 refine zQ ?_
 refine zl (r := f32 (some 0)) (LOp.le (LOp.assign rfl rfl) (ALe.fl (by kernel_rfl) (by kernel_rfl))) ?_
 refine za (r := b false) ?_
 refine zN ?_
 refine RunC.seq ?_
 obtain ⟨z1, hf1, h⟩ := obind_some h
 rcases z1 with r1 | r2
 ·replace h := (osum_inl _ _ _).symm.trans h
  refine RunC.regionW ?_
  refine zm (r := str a0) ?_
  refine ROps.d (r := tup [ik .u64 r1, nni]) (fs := []) (Γ' := []) rfl rfl rfl (TOp.callB (CallAs.func ent83 rfl rfl) (Bors.cons (Bor.pure rfl) (Bors.cons (Bor.pure rfl) (Bors.cons (Bor.pure rfl) Bors.nil))) rfl rfl (x_strconv_ParseUint_ok0 a0 r1 hf1)) rfl ?_
  refine zm (r := tup [ik .u64 r1, nni]) ?_
  refine zl (r := ik .u64 r1) (LOp.extract rfl rfl rfl) ?_
  refine zl (r := nni) (LOp.extract rfl rfl rfl) ?_
  refine za (r := ik .u64 r1) ?_
  refine za (r := nni) ?_
  refine zN ?_
  refine RunC.seq ?_
  obtain ⟨x3, hx2, h⟩ := olet_some h
  obtain ⟨hz3, h⟩ := need_some h
  refine RunC.regionW ?_
  refine zm (r := ik .u64 r1) ?_
  refine zl (r := ik .u32 x3) (LOp.eqr (LOp.i2i (src := 90) (dst := 79) ⟨_, pun90⟩ pun79 rfl rfl) (congrArg (ik .u32) hx2)) ?_
  refine zl (r := f32 (ffb .f32 x3)) (LOp.ffromx ext56 rfl rfl hz3) ?_
  refine za (r := f32 (ffb .f32 x3)) ?_
  refine zN ?_
  refine RunC.seq ?_
  refine zQ ?_
  refine zm (r := nni) ?_
  refine zl (r := b true) (LOp.neq_nni pun99 rfl rfl rfl) ?_
  refine zm (r := b true) ?_
  iterate 4 (refine ROps.s rfl rfl rfl ?_)
  refine zl (r := b true) (LOp.pick_true rfl rfl rfl) ?_
  refine zN ?_
  refine RunC.wl (τ' := [(6, f32 (ffb .f32 x3)), (22, b true)]) (Γ' := []) ⟨aR, aR, trivial⟩ trivial ?_
  refine RunC.cond_true rfl rfl ?_
  refine zQ ?_
  refine zl (r := f32 (some 0)) (LOp.le (LOp.assign rfl rfl) (ALe.fl (by kernel_rfl) (by kernel_rfl))) ?_
  refine za (r := b false) ?_
  refine zN ?_
  refine RunC.ret ?_
  have hq := Option.some.inj h
  obtain ⟨hq0, hq⟩ := Prod.mk.inj hq
  subst q0
  subst q1
  exact bodyQ.pure (.inr rfl) rfl (Res.two rfl (RV.tmp rfl) (RV.tmp rfl))
 ·replace h := (osum_inr _ _ _).symm.trans h
  refine RunC.regionW ?_
  refine zm (r := str a0) ?_
  refine ROps.d (r := tup [ik .u64 r2, x .nilIface]) (fs := []) (Γ' := []) rfl rfl rfl (TOp.callB (CallAs.func ent83 rfl rfl) (Bors.cons (Bor.pure rfl) (Bors.cons (Bor.pure rfl) (Bors.cons (Bor.pure rfl) Bors.nil))) rfl rfl (x_strconv_ParseUint_ok1 a0 r2 hf1)) rfl ?_
  refine zm (r := tup [ik .u64 r2, x .nilIface]) ?_
  refine zl (r := ik .u64 r2) (LOp.extract rfl rfl rfl) ?_
  refine zl (r := x .nilIface) (LOp.extract rfl rfl rfl) ?_
  refine za (r := ik .u64 r2) ?_
  refine za (r := x .nilIface) ?_
  refine zN ?_
  refine RunC.seq ?_
  obtain ⟨x4, hx4, h⟩ := olet_some h
  obtain ⟨hz5, h⟩ := need_some h
  refine RunC.regionW ?_
  refine zm (r := ik .u64 r2) ?_
  refine zl (r := ik .u32 x4) (LOp.eqr (LOp.i2i (src := 90) (dst := 79) ⟨_, pun90⟩ pun79 rfl rfl) (congrArg (ik .u32) hx4)) ?_
  refine zl (r := f32 (ffb .f32 x4)) (LOp.ffromx ext56 rfl rfl hz5) ?_
  refine za (r := f32 (ffb .f32 x4)) ?_
  refine zN ?_
  iterate 2 (refine RunC.seq ?_)
  obtain ⟨r5, hf6, h⟩ := obind_some h
  rcases bsel_some h with ⟨hc7, h⟩ | ⟨hc7, h⟩
  ·refine RunC.regionW ?_
   refine zm (r := x .nilIface) ?_
   refine zl (r := b false) (LOp.neq_nil_nil pun99 rfl rfl) ?_
   refine zm (r := b false) ?_
   refine zm (r := f32 (ffb .f32 x4)) ?_
   refine ROps.d (r := str r5) (fs := []) (Γ' := []) rfl rfl rfl (TOp.callB (CallAs.func ent48 rfl rfl) (Bors.cons (Bor.pure rfl) Bors.nil) rfl rfl (i_digitsOf_ok (ffb .f32 x4) r5 hf6)) rfl ?_
   refine zm (r := str a0) ?_
   refine zl (r := b true) (LOp.eqb (LOp.neqs rfl rfl rfl) hc7) ?_
   refine zl (r := b true) (LOp.pick_false rfl rfl rfl) ?_
   refine zN ?_
   refine RunC.wl (τ' := [(6, f32 (ffb .f32 x4)), (22, b true)]) (Γ' := []) ⟨aR, aR, trivial⟩ trivial ?_
   refine RunC.cond_true rfl rfl ?_
   refine zQ ?_
   refine zl (r := f32 (some 0)) (LOp.le (LOp.assign rfl rfl) (ALe.fl (by kernel_rfl) (by kernel_rfl))) ?_
   refine za (r := b false) ?_
   refine zN ?_
   refine RunC.ret ?_
   have hq := Option.some.inj h
   obtain ⟨hq0, hq⟩ := Prod.mk.inj hq
   subst q0
   subst q1
   exact bodyQ.pure (.inr rfl) rfl (Res.two rfl (RV.tmp rfl) (RV.tmp rfl))
  ·refine RunC.regionW ?_
   refine zm (r := x .nilIface) ?_
   refine zl (r := b false) (LOp.neq_nil_nil pun99 rfl rfl) ?_
   refine zm (r := b false) ?_
   refine zm (r := f32 (ffb .f32 x4)) ?_
   refine ROps.d (r := str r5) (fs := []) (Γ' := []) rfl rfl rfl (TOp.callB (CallAs.func ent48 rfl rfl) (Bors.cons (Bor.pure rfl) Bors.nil) rfl rfl (i_digitsOf_ok (ffb .f32 x4) r5 hf6)) rfl ?_
   refine zm (r := str a0) ?_
   refine zl (r := b false) (LOp.eqb (LOp.neqs rfl rfl rfl) hc7) ?_
   refine zl (r := b false) (LOp.pick_false rfl rfl rfl) ?_
   refine zN ?_
   refine RunC.wl (τ' := [(6, f32 (ffb .f32 x4)), (22, b false)]) (Γ' := []) ⟨aR, aR, trivial⟩ trivial ?_
   refine RunC.cond_false rfl rfl ?_
   refine RunC.skip ?_
   refine zQ ?_
   refine zm (r := f32 (ffb .f32 x4)) ?_
   refine za (r := f32 (ffb .f32 x4)) ?_
   refine za (r := b true) ?_
   refine zN ?_
   refine RunC.ret ?_
   have hq := Option.some.inj h
   obtain ⟨hq0, hq⟩ := Prod.mk.inj hq
   subst q0
   subst q1
   exact bodyQ.pure (.inr rfl) rfl (Res.two rfl (RV.tmp rfl) (RV.tmp rfl))
noncomputable def i_ReadNumbers_b1 (r1 : List ByteArray) (L4 : List F) (v5 : Int) : Option (LR ((List F) × Int) ((List F)) (Bool × (List F))) :=
 bsel (decide (v5 < ((r1.length : Nat) : Int))) (
  obind (at? r1 v5) fun (e6 : ByteArray) =>
  obind2 (i_fromDigits e6) fun (r7 : F) (r8 : Bool) =>
  bsel r8 (
   bsel (decide (((L4.length : Nat) : Int) = 256)) (
    some (LR.ret (false, ([] : List F)))) (
    need (apok 4 L4.length 1) <|
    olet (IntKind.i64.wrap (v5 + 1)) fun (x9 : Int) =>
    some (LR.next ((L4 ++ ([r7] : List F)), x9)))) (
   some (LR.ret (false, ([] : List F))))) (
  some (LR.out L4))
noncomputable def i_ReadNumbers_s1 (r1 : List ByteArray) : ((List F) × Int) → Option (LR ((List F) × Int) ((List F)) (Bool × (List F))) := fun s => i_ReadNumbers_b1 r1 s.1 s.2
noncomputable def i_ReadNumbers_k1 (L12 : List F) : Option (Bool × (List F)) :=
 some (true, L12)
noncomputable def i_ReadNumbers (a0 : ByteArray) : Option (Bool × (List F)) :=
 bsel (eqs a0 lit_5ac87db9) (
  some (true, ([] : List F))) (
  obind (x_strings_Split a0 lit_be717853) fun (r1 : List ByteArray) =>
  obind (loopM (i_ReadNumbers_s1 r1) (([] : List F), 0)) fun z => osum z (fun e => i_ReadNumbers_k1 e) (fun r => some r))
theorem i_ReadNumbers_ok (a0 : ByteArray) (q0 : Bool) (q1 : List F) (h : i_ReadNumbers a0 = some (q0, q1)) : Ev Tryz.prog 32 [str a0] [] (tup [oref 0 0 0 q1.length, b q0]) [⟨0, some (q1.map f32)⟩] := by
 refine Ev.start Tryz.func32 rfl rfl 3 (τ := [(0, str a0)]) rfl (Γ' := [⟨0, none⟩, ⟨0, none⟩, ⟨0, none⟩]) rfl (n := 77) rfl (g := 0) rfl (fun _ => rfl) ?_
 unfold i_ReadNumbers at h
 refine zQ ?_
 refine za (r := nilsl) ?_
 refine za (r := b false) ?_
 refine zN ?_
 refine zQ ?_
 refine ROps.d (r := oref 0 1 0 0) (fs := [(0, (([] : List F).map f32))]) (Γ' := [⟨1, some (([] : List F).map f32)⟩, ⟨0, none⟩, ⟨0, none⟩]) rfl rfl rfl (TOp.buildSlice_o (g := ⟨0, none⟩) (za := f32 (some 0)) (qs := []) 0 rfl und52 siz28 zer28 rfl zel28 rfl rfl trivial rfl) rfl ?_
 refine za (r := oref 0 1 0 0) ?_
 refine zN ?_
 iterate 2 (refine RunC.seq ?_)
 rcases bsel_some h with ⟨hc1, h⟩ | ⟨hc1, h⟩
 ·refine RunC.regionW ?_
  refine zm (r := str a0) ?_
  refine zl (r := b true) (LOp.eqb (LOp.eqs rfl rfl rfl) hc1) ?_
  refine zN ?_
  refine RunC.cond_true rfl rfl ?_
  refine zQ ?_
  refine zm (r := oref 0 1 0 0) ?_
  refine za (r := oref 0 1 0 0) ?_
  refine za (r := b true) ?_
  refine zN ?_
  refine RunC.ret ?_
  have hq := Option.some.inj h
  obtain ⟨hq0, hq⟩ := Prod.mk.inj hq
  subst q0
  subst q1
  exact bodyQ.mk (r' := tup [oref 0 1 0 (([] : List F).length), b true]) [(0, 1)] (.inr rfl) rfl (show List.Nodup [0] from by decide) rfl rfl (Res.eq (Res.two rfl (RV.tmp rfl) (RV.tmp rfl)) (by rw [(show ([] : List F).length = 0 from rfl)] <;> rfl)) (SelL.arr0 (f := f32) (fun _ => rfl) rfl trivial)
 ·refine RunC.regionW ?_
  refine zm (r := str a0) ?_
  refine zl (r := b false) (LOp.eqb (LOp.eqs rfl rfl rfl) hc1) ?_
  refine zN ?_
  refine RunC.cond_false rfl rfl ?_
  refine RunC.skip ?_
  iterate 2 (refine RunC.seq ?_)
  obtain ⟨r1, hf2, h⟩ := obind_some h
  refine RunC.regionW ?_
  refine zm (r := str a0) ?_
  refine ROps.d (r := oref 1 1 0 r1.length) (fs := [(1, (r1.map str))]) (Γ' := [⟨1, some (([] : List F).map f32)⟩, ⟨1, some (r1.map str)⟩, ⟨0, none⟩]) rfl rfl rfl (TOp.callBN (ls := [(r1.map str)]) [1] (CallAs.func ent50 rfl rfl) (Bors.cons (Bor.pure rfl) (Bors.cons (Bor.pure rfl) Bors.nil)) rfl (x_strings_Split_ok a0 lit_be717853 r1 hf2) (and_all (lts0_map (f := str) (fun _ => rfl) _) rfl) (and_all (noss_map (f := str) (fun _ => rfl) _) rfl) rfl (by decide) (ns_of ⟨⟨_, rfl⟩, trivial⟩)) rfl ?_
  refine zl (r := i64 ((r1.length : Nat) : Int)) (LOp.len_oref und69 rfl rfl) ?_
  refine zm (r := i64 0) ?_
  refine zN ?_
  obtain ⟨z2, hz_2, h⟩ := obind_some h
  refine RunC.cutN (fun τ Γ => ∃ (L12 : List F) (u10 : Nat) (u11 : Nat), WeakLe τ [(4, oref 0 u10 0 L12.length)] ∧ DeadLe Γ [⟨u10, some (L12.map f32)⟩, ⟨1, none⟩, ⟨u11, none⟩] ∧ z2 = .inl L12) ?_ ?_
  ·refine RunC.block (RunC.loop (RunL.loopM (x := z2) (i_ReadNumbers_s1 r1) (fun (s : (List F) × Int) τ Γ => ∃ (u2 : Nat) (u3 : Nat), WeakLe τ [(4, oref 0 u2 0 s.1.length), (14, oref 1 1 0 r1.length), (15, i64 ((r1.length : Nat) : Int)), (16, i64 s.2)] ∧ DeadLe Γ [⟨u2, some (s.1.map f32)⟩, ⟨1, some (r1.map str)⟩, ⟨u3, none⟩]) ?_ _ _ _ hz_2 ⟨1, 0, ⟨aR, aR, aR, aR, trivial⟩, ⟨⟨rfl, .inr rfl⟩, ⟨rfl, .inr rfl⟩, ⟨rfl, .inl rfl⟩, trivial⟩⟩))
   rintro ⟨L4, v5⟩ τ2 Γ2 y2_ ⟨u2, u3, hw2, hd2⟩ h2_ ho2 hr2
   refine RunC.wl (τ' := [(4, oref 0 u2 0 L4.length), (14, oref 1 1 0 r1.length), (15, i64 ((r1.length : Nat) : Int)), (16, i64 v5)]) (Γ' := [⟨u2, some (L4.map f32)⟩, ⟨1, some (r1.map str)⟩, ⟨u3, none⟩]) hw2 hd2 ?_
   replace h2_ : i_ReadNumbers_b1 r1 L4 v5 = some y2_ := h2_
   unfold i_ReadNumbers_b1 at h2_
   refine RunC.seq ?_
   rcases bsel_some h2_ with ⟨hc3, h2_⟩ | ⟨hc3, h2_⟩
   ·refine RunC.regionW ?_
    refine zl (r := b true) (LOp.eqb (LOp.lss rfl rfl rfl) hc3) ?_
    refine zN ?_
    refine RunC.seq ?_
    refine RunC.cond_true rfl rfl ?_
    refine RunC.skip ?_
    refine RunC.seq ?_
    refine RunC.block ?_
    refine RunC.seq ?_
    obtain ⟨e6, he4, h2_⟩ := obind_some h2_
    refine RunC.regionW ?_
    refine ROps.d (r := optr 1 1 v5.toNat) (fs := []) (Γ' := [⟨u2, some (L4.map f32)⟩, ⟨1, some (r1.map str)⟩, ⟨u3, none⟩]) rfl rfl rfl (TOp.ixo und69 siz9 rfl rfl rfl (at_in he4 rfl) rfl) rfl ?_
    refine ROps.d (r := str e6) (fs := []) (Γ' := [⟨u2, some (L4.map f32)⟩, ⟨1, some (r1.map str)⟩, ⟨u3, none⟩]) rfl rfl rfl (TOp.load1_o rfl (at_cell he4) agg9 rfl rfl) rfl ?_
    refine za (r := str e6) ?_
    refine zN ?_
    refine RunC.seq ?_
    obtain ⟨r7, r8, hf5, h2_⟩ := obind2_some h2_
    rcases bsel_some h2_ with ⟨hc6, h2_⟩ | ⟨hc6, h2_⟩
    ·refine RunC.regionW ?_
     refine zm (r := str e6) ?_
     refine ROps.d (r := tup [f32 r7, b r8]) (fs := []) (Γ' := [⟨u2, some (L4.map f32)⟩, ⟨1, some (r1.map str)⟩, ⟨u3, none⟩]) rfl rfl rfl (TOp.callB (CallAs.func ent51 rfl rfl) (Bors.cons (Bor.pure rfl) Bors.nil) rfl rfl (i_fromDigits_ok e6 r7 r8 hf5)) rfl ?_
     refine zm (r := tup [f32 r7, b r8]) ?_
     refine zl (r := f32 r7) (LOp.extract rfl rfl rfl) ?_
     refine zl (r := b true) (LOp.eqb (LOp.extract rfl rfl rfl) hc6) ?_
     refine za (r := f32 r7) ?_
     refine za (r := b true) ?_
     refine zN ?_
     iterate 2 (refine RunC.seq ?_)
     rcases bsel_some h2_ with ⟨hc7, h2_⟩ | ⟨hc7, h2_⟩
     ·refine RunC.regionW ?_
      refine zm (r := b true) ?_
      refine zl (r := b false) (LOp.eqb (LOp.not rfl rfl) rfl) ?_
      refine zm (r := b false) ?_
      refine zm (r := oref 0 u2 0 L4.length) ?_
      refine zl (r := i64 ((L4.length : Nat) : Int)) (LOp.len_oref und52 rfl rfl) ?_
      refine zl (r := b true) (LOp.eqb (LOp.eql rfl rfl rfl) hc7) ?_
      refine zl (r := b true) (LOp.pick_false rfl rfl rfl) ?_
      refine zN ?_
      refine RunC.wl (τ' := [(4, oref 0 u2 0 L4.length), (7, f32 r7), (14, oref 1 1 0 r1.length), (15, i64 ((r1.length : Nat) : Int)), (16, i64 v5), (28, oref 0 u2 0 L4.length), (29, i64 ((L4.length : Nat) : Int)), (30, b true), (31, b true)]) (Γ' := [⟨u2, some (L4.map f32)⟩, ⟨1, some (r1.map str)⟩, ⟨u3, none⟩]) ⟨aR, aR, aR, aR, aR, aR, aR, aR, aR, trivial⟩ ⟨⟨rfl, .inr rfl⟩, ⟨rfl, .inr rfl⟩, ⟨rfl, .inl rfl⟩, trivial⟩ ?_
      refine RunC.cond_true rfl rfl ?_
      refine zQ ?_
      refine za (r := nilsl) ?_
      refine za (r := b false) ?_
      refine zN ?_
      refine RunC.nil_slot (Γ' := [⟨u2, some (L4.map f32)⟩, ⟨1, some (r1.map str)⟩, ⟨(u3 + 1), some (([] : List F).map f32)⟩]) 2 2 rfl rfl rfl ?_
      refine RunC.ret ?_
      cases Option.some.inj h2_
      have hx3_ := hr2 _ rfl
      subst hx3_
      have hq := Option.some.inj h
      obtain ⟨hq0, hq⟩ := Prod.mk.inj hq
      subst q0
      subst q1
      exact bodyQ.mk (r' := tup [oref 2 (u3 + 1) 0 (([] : List F).length), b false]) [(2, (u3 + 1))] (.inr rfl) rfl (show List.Nodup [2] from by decide) (by simp [ren, rens, sigma]) rfl (Res.eq (Res.two rfl (RV.tmp rfl) (RV.tmp rfl)) (by rw [(show ([] : List F).length = 0 from rfl)] <;> rfl)) (SelL.arr0 (f := f32) (fun _ => rfl) rfl trivial)
     ·refine RunC.regionW ?_
      refine zm (r := b true) ?_
      refine zl (r := b false) (LOp.eqb (LOp.not rfl rfl) rfl) ?_
      refine zm (r := b false) ?_
      refine zm (r := oref 0 u2 0 L4.length) ?_
      refine zl (r := i64 ((L4.length : Nat) : Int)) (LOp.len_oref und52 rfl rfl) ?_
      refine zl (r := b false) (LOp.eqb (LOp.eql rfl rfl rfl) hc7) ?_
      refine zl (r := b false) (LOp.pick_false rfl rfl rfl) ?_
      refine zN ?_
      refine RunC.wl (τ' := [(4, oref 0 u2 0 L4.length), (7, f32 r7), (14, oref 1 1 0 r1.length), (15, i64 ((r1.length : Nat) : Int)), (16, i64 v5), (28, oref 0 u2 0 L4.length), (29, i64 ((L4.length : Nat) : Int)), (30, b false), (31, b false)]) (Γ' := [⟨u2, some (L4.map f32)⟩, ⟨1, some (r1.map str)⟩, ⟨u3, none⟩]) ⟨aR, aR, aR, aR, aR, aR, aR, aR, aR, trivial⟩ ⟨⟨rfl, .inr rfl⟩, ⟨rfl, .inr rfl⟩, ⟨rfl, .inl rfl⟩, trivial⟩ ?_
      refine RunC.cond_false rfl rfl ?_
      refine RunC.skip ?_
      obtain ⟨hm8, h2_⟩ := need_some h2_
      refine RunC.regionW ?_
      refine zm (r := oref 0 u2 0 L4.length) ?_
      refine zm (r := f32 r7) ?_
      refine ROps.d (r := oref 2 (u3 + 1) 0 1) (fs := [(2, (([r7] : List F).map f32))]) (Γ' := [⟨u2, some (L4.map f32)⟩, ⟨1, some (r1.map str)⟩, ⟨(u3 + 1), some (([r7] : List F).map f32)⟩]) rfl rfl rfl (TOp.buildSlice_o (g := ⟨u3, none⟩) (za := f32 (some 0)) (qs := [(0, [f32 r7])]) 2 rfl und52 siz28 zer28 rfl zel28 rfl rfl ⟨rfl, ⟨_, ALe.refl _, rfl⟩, trivial⟩ rfl) rfl ?_
      refine ROps.app (f := f32) (xs := L4) (ys := ([r7] : List F)) (Γ' := [⟨(u2 + 1), some ((L4 ++ ([r7] : List F)).map f32)⟩, ⟨1, some (r1.map str)⟩, ⟨(u3 + 1), some (([r7] : List F).map f32)⟩]) rfl pun52 inf28 rfl rfl rfl rfl rfl rfl rfl rfl rfl (by simp) (ReadAs.own rfl (by simp)) (ones_map (fun _ => rfl)) (ap_by hm8) (ap_mx hm8) rfl ?_
      refine za (r := oref 0 (u2 + 1) 0 (L4.length + 1)) ?_
      refine zN ?_
      refine RunC.wl (τ' := [(4, oref 0 (u2 + 1) 0 (L4.length + 1)), (14, oref 1 1 0 r1.length), (15, i64 ((r1.length : Nat) : Int)), (16, i64 v5), (28, oref 0 u2 0 L4.length), (29, i64 ((L4.length : Nat) : Int)), (30, b false)]) (Γ' := [⟨(u2 + 1), some ((L4 ++ ([r7] : List F)).map f32)⟩, ⟨1, some (r1.map str)⟩, ⟨(u3 + 1), none⟩]) ⟨aR, aR, aR, aR, aR, aR, aR, trivial⟩ ⟨⟨rfl, .inr rfl⟩, ⟨rfl, .inr rfl⟩, ⟨rfl, .inl rfl⟩, trivial⟩ ?_
      obtain ⟨x9, hx9, h2_⟩ := olet_some h2_
      refine RunC.regionW ?_
      refine zl (r := i64 x9) (LOp.eqr (LOp.add rfl rfl rfl) (congrArg (ik .i64) hx9)) ?_
      refine zm (r := i64 x9) ?_
      refine zN ?_
      cases Option.some.inj h2_
      exact ⟨_, rfl, (u2 + 1), (u3 + 1), ⟨(ALe.eq (by rw [(app_len rfl rfl)] <;> rfl)), aR, aR, aR, trivial⟩, ⟨⟨rfl, .inr rfl⟩, ⟨rfl, .inr rfl⟩, ⟨rfl, .inl rfl⟩, trivial⟩⟩
    ·refine RunC.regionW ?_
     refine zm (r := str e6) ?_
     refine ROps.d (r := tup [f32 r7, b r8]) (fs := []) (Γ' := [⟨u2, some (L4.map f32)⟩, ⟨1, some (r1.map str)⟩, ⟨u3, none⟩]) rfl rfl rfl (TOp.callB (CallAs.func ent51 rfl rfl) (Bors.cons (Bor.pure rfl) Bors.nil) rfl rfl (i_fromDigits_ok e6 r7 r8 hf5)) rfl ?_
     refine zm (r := tup [f32 r7, b r8]) ?_
     refine zl (r := f32 r7) (LOp.extract rfl rfl rfl) ?_
     refine zl (r := b false) (LOp.eqb (LOp.extract rfl rfl rfl) hc6) ?_
     refine za (r := f32 r7) ?_
     refine za (r := b false) ?_
     refine zN ?_
     refine RunC.seq ?_
     refine zQ ?_
     refine zm (r := b false) ?_
     refine zl (r := b true) (LOp.eqb (LOp.not rfl rfl) rfl) ?_
     refine zm (r := b true) ?_
     iterate 3 (refine ROps.s rfl rfl rfl ?_)
     refine zl (r := b true) (LOp.pick_true rfl rfl rfl) ?_
     refine zN ?_
     refine RunC.wl (τ' := [(4, oref 0 u2 0 L4.length), (7, f32 r7), (14, oref 1 1 0 r1.length), (15, i64 ((r1.length : Nat) : Int)), (16, i64 v5), (31, b true)]) (Γ' := [⟨u2, some (L4.map f32)⟩, ⟨1, some (r1.map str)⟩, ⟨u3, none⟩]) ⟨aR, aR, aR, aR, aR, aR, trivial⟩ ⟨⟨rfl, .inr rfl⟩, ⟨rfl, .inr rfl⟩, ⟨rfl, .inl rfl⟩, trivial⟩ ?_
     refine RunC.cond_true rfl rfl ?_
     refine zQ ?_
     refine za (r := nilsl) ?_
     refine za (r := b false) ?_
     refine zN ?_
     refine RunC.nil_slot (Γ' := [⟨u2, some (L4.map f32)⟩, ⟨1, some (r1.map str)⟩, ⟨(u3 + 1), some (([] : List F).map f32)⟩]) 2 2 rfl rfl rfl ?_
     refine RunC.ret ?_
     cases Option.some.inj h2_
     have hx4_ := hr2 _ rfl
     subst hx4_
     have hq := Option.some.inj h
     obtain ⟨hq0, hq⟩ := Prod.mk.inj hq
     subst q0
     subst q1
     exact bodyQ.mk (r' := tup [oref 2 (u3 + 1) 0 (([] : List F).length), b false]) [(2, (u3 + 1))] (.inr rfl) rfl (show List.Nodup [2] from by decide) (by simp [ren, rens, sigma]) rfl (Res.eq (Res.two rfl (RV.tmp rfl) (RV.tmp rfl)) (by rw [(show ([] : List F).length = 0 from rfl)] <;> rfl)) (SelL.arr0 (f := f32) (fun _ => rfl) rfl trivial)
   ·refine RunC.regionW ?_
    refine zl (r := b false) (LOp.eqb (LOp.lss rfl rfl rfl) hc3) ?_
    refine zN ?_
    refine RunC.seq ?_
    refine RunC.cond_false rfl rfl ?_
    refine RunC.exit ?_
    cases Option.some.inj h2_
    have hx := ho2 _ rfl
    exact ⟨L4, u2, u3, ⟨aR, trivial⟩, ⟨⟨rfl, .inr rfl⟩, ⟨rfl, .inl rfl⟩, ⟨rfl, .inl rfl⟩, trivial⟩, hx⟩
  ·rintro τ5 Γ5 ⟨L12, u10, u11, hw5, hd5, rfl⟩
   refine RunC.wl hw5 hd5 ?_
   replace h : i_ReadNumbers_k1 L12 = some (q0, q1) := h
   unfold i_ReadNumbers_k1 at h
   refine zQ ?_
   refine zm (r := oref 0 u10 0 L12.length) ?_
   refine za (r := oref 0 u10 0 L12.length) ?_
   refine za (r := b true) ?_
   refine zN ?_
   refine RunC.ret ?_
   have hq := Option.some.inj h
   obtain ⟨hq0, hq⟩ := Prod.mk.inj hq
   subst q0
   subst q1
   exact bodyQ.mk (r' := tup [oref 0 u10 0 L12.length, b true]) [(0, u10)] (.inr rfl) rfl (show List.Nodup [0] from by decide) (by simp [ren, rens, sigma]) rfl (Res.two rfl (RV.tmp rfl) (RV.tmp rfl)) (SelL.arr0 (f := f32) (fun _ => rfl) rfl trivial)
noncomputable def s_l01Bits (a0 : F) : Option (Int) :=
 bsel (!feq .f32 a0 a0) (
  some 2143289344) (
  obind (a0) fun (b1 : Nat) =>
  olet (IntKind.i64.wrap (b1 : Int)) fun (x2 : Int) =>
  some x2)
theorem s_l01Bits_ok (a0 : F) (q0 : Int) (h : s_l01Bits a0 = some q0) : Ev Tryz.prog 76 [f32 a0] [] (i64 q0) [] := by
 refine Ev.start Tryz.func76 rfl rfl 0 (τ := [(0, f32 a0)]) rfl (Γ' := []) rfl (n := 19) rfl (g := 0) rfl (fun _ => rfl) ?_
 unfold s_l01Bits at h
 refine zQ ?_
 refine za (r := i64 0) ?_
 refine zN ?_
 iterate 2 (refine RunC.seq ?_)
 rcases bsel_some h with ⟨hc1, h⟩ | ⟨hc1, h⟩
 ·refine RunC.regionW ?_
  iterate 2 (refine zm (r := f32 a0) ?_)
  refine zl (r := b true) (LOp.eqb (LOp.fne rfl (OpF.tmp rfl) (OpF.tmp rfl)) hc1) ?_
  refine zN ?_
  refine RunC.cond_true rfl rfl ?_
  refine zQ ?_
  refine za (r := i64 2143289344) ?_
  refine zN ?_
  refine RunC.ret ?_
  have hq := Option.some.inj h
  subst q0
  exact bodyQ.pure (.inr rfl) rfl (Res.one rfl (RV.tmp rfl))
 ·refine RunC.regionW ?_
  iterate 2 (refine zm (r := f32 a0) ?_)
  refine zl (r := b false) (LOp.eqb (LOp.fne rfl (OpF.tmp rfl) (OpF.tmp rfl)) hc1) ?_
  refine zN ?_
  refine RunC.cond_false rfl rfl ?_
  refine RunC.skip ?_
  refine RunC.seq ?_
  obtain ⟨b1, he2, h⟩ := obind_some h
  obtain ⟨x2, hx3, h⟩ := olet_some h
  refine RunC.regionW ?_
  refine zm (r := f32 a0) ?_
  refine zl (r := ik .u32 (b1 : Int)) (LOp.fbx ext57 rfl (OpF.tmp rfl) he2) ?_
  refine zl (r := i64 x2) (LOp.eqr (LOp.i2i (src := 79) (dst := 2) ⟨_, pun79⟩ pun2 rfl rfl) (congrArg (ik .i64) hx3)) ?_
  refine za (r := i64 x2) ?_
  refine zN ?_
  refine RunC.ret ?_
  have hq := Option.some.inj h
  subst q0
  exact bodyQ.pure (.inr rfl) rfl (Res.one rfl (RV.tmp rfl))
noncomputable def s_l01Same (a0 : F) (a1 : F) : Option (Bool) :=
 obind (s_l01Bits a0) fun (r1 : Int) =>
 obind (s_l01Bits a1) fun (r2 : Int) =>
 some (decide (r1 = r2))
theorem s_l01Same_ok (a0 : F) (a1 : F) (q0 : Bool) (h : s_l01Same a0 a1 = some q0) : Ev Tryz.prog 42 [f32 a0, f32 a1] [] (b q0) [] := by
 refine Ev.start Tryz.func42 rfl rfl 0 (τ := [(0, f32 a0), (1, f32 a1)]) rfl (Γ' := []) rfl (n := 21) rfl (g := 0) rfl (fun _ => rfl) ?_
 unfold s_l01Same at h
 refine zQ ?_
 refine za (r := b false) ?_
 refine zN ?_
 refine RunC.seq ?_
 obtain ⟨r1, hf1, h⟩ := obind_some h
 obtain ⟨r2, hf2, h⟩ := obind_some h
 refine RunC.regionW ?_
 refine zm (r := f32 a0) ?_
 refine ROps.d (r := i64 r1) (fs := []) (Γ' := []) rfl rfl rfl (TOp.callB (CallAs.func ent76 rfl rfl) (Bors.cons (Bor.pure rfl) Bors.nil) rfl rfl (s_l01Bits_ok a0 r1 hf1)) rfl ?_
 refine zm (r := f32 a1) ?_
 refine ROps.d (r := i64 r2) (fs := []) (Γ' := []) rfl rfl rfl (TOp.callB (CallAs.func ent76 rfl rfl) (Bors.cons (Bor.pure rfl) Bors.nil) rfl rfl (s_l01Bits_ok a1 r2 hf2)) rfl ?_
 refine zl (r := b (decide (r1 = r2))) (LOp.eql rfl rfl rfl) ?_
 refine za (r := b (decide (r1 = r2))) ?_
 refine zN ?_
 refine RunC.ret ?_
 have hq := Option.some.inj h
 subst q0
 exact bodyQ.pure (.inr rfl) rfl (Res.one rfl (RV.tmp rfl))
noncomputable def s_SameNumber (a0 : F) (a1 : F) : Option (Bool) :=
 obind (s_l01Same a0 a1) fun (r1 : Bool) =>
 some r1
theorem s_SameNumber_ok (a0 : F) (a1 : F) (q0 : Bool) (h : s_SameNumber a0 a1 = some q0) : Ev Tryz.prog 10 [f32 a0, f32 a1] [] (b q0) [] := by
 refine Ev.start Tryz.func10 rfl rfl 0 (τ := [(0, f32 a0), (1, f32 a1)]) rfl (Γ' := []) rfl (n := 17) rfl (g := 0) rfl (fun _ => rfl) ?_
 unfold s_SameNumber at h
 refine zQ ?_
 refine za (r := b false) ?_
 refine zN ?_
 refine RunC.seq ?_
 obtain ⟨r1, hf1, h⟩ := obind_some h
 refine RunC.regionW ?_
 refine zm (r := f32 a0) ?_
 refine zm (r := f32 a1) ?_
 refine ROps.d (r := b r1) (fs := []) (Γ' := []) rfl rfl rfl (TOp.callB (CallAs.func ent42 rfl rfl) (Bors.cons (Bor.pure rfl) (Bors.cons (Bor.pure rfl) Bors.nil)) rfl rfl (s_l01Same_ok a0 a1 r1 hf1)) rfl ?_
 refine za (r := b r1) ?_
 refine zN ?_
 refine RunC.ret ?_
 have hq := Option.some.inj h
 subst q0
 exact bodyQ.pure (.inr rfl) rfl (Res.one rfl (RV.tmp rfl))
noncomputable def i_isFinite64 (a0 : F) : Option (Bool) :=
 obind (x_math_IsNaN a0) fun (r1 : Bool) =>
 bsel r1 (
  some false) (
  obind (x_math_IsInf a0 0) fun (r2 : Bool) =>
  some (!r2))
theorem i_isFinite64_ok (a0 : F) (q0 : Bool) (h : i_isFinite64 a0 = some q0) : Ev Tryz.prog 88 [f64 a0] [] (b q0) [] := by
 refine Ev.start Tryz.func88 rfl rfl 0 (τ := [(0, f64 a0)]) rfl (Γ' := []) rfl (n := 23) rfl (g := 0) rfl (fun _ => rfl) ?_
 unfold i_isFinite64 at h
 refine zQ ?_
 refine za (r := b false) ?_
 refine zN ?_
 refine RunC.seq ?_
 obtain ⟨r1, hf1, h⟩ := obind_some h
 rcases bsel_some h with ⟨hc2, h⟩ | ⟨hc2, h⟩
 ·refine RunC.regionW ?_
  refine zm (r := f64 a0) ?_
  refine ROps.d (r := b true) (fs := []) (Γ' := []) rfl rfl rfl (TOp.eqb (TOp.callB (CallAs.func ent106 rfl rfl) (Bors.cons (Bor.pure rfl) Bors.nil) rfl rfl (x_math_IsNaN_ok a0 r1 hf1)) hc2) rfl ?_
  refine zl (r := b false) (LOp.eqb (LOp.not rfl rfl) rfl) ?_
  refine zm (r := b false) ?_
  iterate 3 (refine ROps.s rfl rfl rfl ?_)
  refine zl (r := b false) (LOp.pick_false rfl rfl rfl) ?_
  refine za (r := b false) ?_
  refine zN ?_
  refine RunC.ret ?_
  have hq := Option.some.inj h
  subst q0
  exact bodyQ.pure (.inr rfl) rfl (Res.one rfl (RV.tmp rfl))
 ·obtain ⟨r2, hf3, h⟩ := obind_some h
  refine RunC.regionW ?_
  refine zm (r := f64 a0) ?_
  refine ROps.d (r := b false) (fs := []) (Γ' := []) rfl rfl rfl (TOp.eqb (TOp.callB (CallAs.func ent106 rfl rfl) (Bors.cons (Bor.pure rfl) Bors.nil) rfl rfl (x_math_IsNaN_ok a0 r1 hf1)) hc2) rfl ?_
  refine zl (r := b true) (LOp.eqb (LOp.not rfl rfl) rfl) ?_
  refine zm (r := b true) ?_
  refine zm (r := f64 a0) ?_
  refine ROps.d (r := b r2) (fs := []) (Γ' := []) rfl rfl rfl (TOp.callB (CallAs.func ent107 rfl rfl) (Bors.cons (Bor.pure rfl) (Bors.cons (Bor.pure rfl) Bors.nil)) rfl rfl (x_math_IsInf_ok a0 0 r2 hf3)) rfl ?_
  refine zl (r := b (!r2)) (LOp.not rfl rfl) ?_
  refine zl (r := b (!r2)) (LOp.pick_true rfl rfl rfl) ?_
  refine za (r := b (!r2)) ?_
  refine zN ?_
  refine RunC.ret ?_
  have hq := Option.some.inj h
  subst q0
  exact bodyQ.pure (.inr rfl) rfl (Res.one rfl (RV.tmp rfl))
noncomputable def i_IsFinite (a0 : F) : Option (Bool) :=
 olet (fwiden a0) fun (x1 : F) =>
 obind (i_isFinite64 x1) fun (r2 : Bool) =>
 some r2
theorem i_IsFinite_ok (a0 : F) (q0 : Bool) (h : i_IsFinite a0 = some q0) : Ev Tryz.prog 62 [f32 a0] [] (b q0) [] := by
 refine Ev.start Tryz.func62 rfl rfl 0 (τ := [(0, f32 a0)]) rfl (Γ' := []) rfl (n := 13) rfl (g := 0) rfl (fun _ => rfl) ?_
 unfold i_IsFinite at h
 refine zQ ?_
 refine za (r := b false) ?_
 refine zN ?_
 refine RunC.seq ?_
 obtain ⟨x1, hx1, h⟩ := olet_some h
 obtain ⟨r2, hf2, h⟩ := obind_some h
 refine RunC.regionW ?_
 refine zm (r := f32 a0) ?_
 refine ROps.d (r := f64 x1) (fs := []) (Γ' := []) rfl rfl rfl (TOp.eqr (TOp.widen (src := 28) (dst := 46) ⟨_, pun28⟩ pun46 rfl (OpF.tmp rfl)) (congrArg (f .f64) hx1)) rfl ?_
 refine ROps.d (r := b r2) (fs := []) (Γ' := []) rfl rfl rfl (TOp.callB (CallAs.func ent88 rfl rfl) (Bors.cons (Bor.pure rfl) Bors.nil) rfl rfl (i_isFinite64_ok x1 r2 hf2)) rfl ?_
 refine za (r := b r2) ?_
 refine zN ?_
 refine RunC.ret ?_
 have hq := Option.some.inj h
 subst q0
 exact bodyQ.pure (.inr rfl) rfl (Res.one rfl (RV.tmp rfl))
noncomputable def x_math_NaN  : Option (F) :=
 need ((decide (0 ≤ 9221120237041090561) && decide ((9221120237041090561 : Int).toNat < 2 ^ FloatKind.f64.format.width))) <|
 some (ffb .f64 9221120237041090561)
theorem x_math_NaN_ok  (q0 : F) (h : x_math_NaN  = some q0) : Ev Tryz.prog 71 [] [] (f64 q0) [] := by
 refine Ev.start Tryz.func71 rfl rfl 0 (τ := []) rfl (Γ' := []) rfl (n := 5) rfl (g := 0) rfl (fun _ => rfl) ?_
 unfold x_math_NaN at h
 refine zQ ?_
 refine zl (r := f64 (some 0)) (LOp.le (LOp.assign rfl rfl) (ALe.fl (by kernel_rfl) (by kernel_rfl))) ?_
 refine zN ?_
 refine RunC.seq ?_
 obtain ⟨hz1, h⟩ := need_some h
 refine RunC.regionW ?_
 refine zl (r := f64 (ffb .f64 9221120237041090561)) (LOp.ffromx ext89 rfl rfl hz1) ?_
 refine za (r := f64 (ffb .f64 9221120237041090561)) ?_
 refine zN ?_
 refine RunC.ret ?_
 have hq := Option.some.inj h
 subst q0
 exact bodyQ.pure (.inr rfl) rfl (Res.one rfl (RV.tmp rfl))
noncomputable def i_mul64 (a0 : F) (a1 : F) : Option (F) :=
 olet (fop .mul .f64 a0 a1) fun (x1 : F) =>
 some x1
theorem i_mul64_ok (a0 : F) (a1 : F) (q0 : F) (h : i_mul64 a0 a1 = some q0) : Ev Tryz.prog 72 [f64 a0, f64 a1] [] (f64 q0) [] := by
 refine Ev.start Tryz.func72 rfl rfl 0 (τ := [(0, f64 a0), (1, f64 a1)]) rfl (Γ' := []) rfl (n := 17) rfl (g := 0) rfl (fun _ => rfl) ?_
 unfold i_mul64 at h
 refine zQ ?_
 refine zl (r := f64 (some 0)) (LOp.le (LOp.assign rfl rfl) (ALe.fl (by kernel_rfl) (by kernel_rfl))) ?_
 refine zN ?_
 refine RunC.seq ?_
 obtain ⟨x1, hx1, h⟩ := olet_some h
 refine RunC.regionW ?_
 refine zm (r := f64 a0) ?_
 refine zm (r := f64 a1) ?_
 refine ROps.d (r := f64 x1) (fs := []) (Γ' := []) rfl rfl rfl (TOp.eqr (TOp.fop (.inr (.inr (.inl rfl))) rfl (OpF.tmp rfl) (OpF.tmp rfl)) (congrArg (f .f64) hx1)) rfl ?_
 refine za (r := f64 x1) ?_
 refine zN ?_
 refine RunC.ret ?_
 have hq := Option.some.inj h
 subst q0
 exact bodyQ.pure (.inr rfl) rfl (Res.one rfl (RV.tmp rfl))
noncomputable def x_math_Sqrt (a0 : F) : Option (F) :=
 olet (fsqrt a0) fun (x1 : F) =>
 some x1
theorem x_math_Sqrt_ok (a0 : F) (q0 : F) (h : x_math_Sqrt a0 = some q0) : Ev Tryz.prog 43 [f64 a0] [] (f64 q0) [] := by
 refine Ev.start Tryz.func43 rfl rfl 0 (τ := [(0, f64 a0)]) rfl (Γ' := []) rfl (n := 11) rfl (g := 0) rfl (fun _ => rfl) ?_
 unfold x_math_Sqrt at h
 refine zQ ?_
 refine zl (r := f64 (some 0)) (LOp.le (LOp.assign rfl rfl) (ALe.fl (by kernel_rfl) (by kernel_rfl))) ?_
 refine zN ?_
 refine RunC.seq ?_
 obtain ⟨x1, hx1, h⟩ := olet_some h
 refine RunC.regionW ?_
 refine zm (r := f64 a0) ?_
 refine ROps.d (r := f64 x1) (fs := []) (Γ' := []) rfl rfl rfl (TOp.eqr (TOp.fsqrt ext77 rfl (OpF.tmp rfl)) (congrArg (f .f64) hx1)) rfl ?_
 refine za (r := f64 x1) ?_
 refine zN ?_
 refine RunC.ret ?_
 have hq := Option.some.inj h
 subst q0
 exact bodyQ.pure (.inr rfl) rfl (Res.one rfl (RV.tmp rfl))
noncomputable def i_AngleTurns_b3 (y14 : F) (v15 : Int) : Option (LR (F × Int) (F) (F)) :=
 bsel (decide (v15 < 3)) (
  obind (i_mul64 y14 y14) fun (r16 : F) =>
  olet (fop .add .f64 (some 4607182418800017408) r16) fun (x17 : F) =>
  obind (x_math_Sqrt x17) fun (r18 : F) =>
  olet (fop .add .f64 (some 4607182418800017408) r18) fun (x19 : F) =>
  olet (fop .quo .f64 y14 x19) fun (x20 : F) =>
  olet (IntKind.i64.wrap (v15 + 1)) fun (x21 : Int) =>
  some (LR.next (x20, x21))) (
  some (LR.out y14))
noncomputable def i_AngleTurns_s3  : (F × Int) → Option (LR (F × Int) (F) (F)) := fun s => i_AngleTurns_b3 s.1 s.2
noncomputable def i_AngleTurns_b4 (r23 : F) (y24 : F) (v25 : Int) : Option (LR (F × Int) (F) (F)) :=
 bsel (decide (1 ≤ v25)) (
  olet (fint .f64 v25) fun (x26 : F) =>
  olet (fop .quo .f64 (some 4607182418800017408) x26) fun (x27 : F) =>
  obind (i_mul64 r23 y24) fun (r28 : F) =>
  olet (fop .sub .f64 x27 r28) fun (x29 : F) =>
  olet (IntKind.i64.wrap (v25 - 2)) fun (x30 : Int) =>
  some (LR.next (x29, x30))) (
  some (LR.out y24))
noncomputable def i_AngleTurns_s4 (r23 : F) : (F × Int) → Option (LR (F × Int) (F) (F)) := fun s => i_AngleTurns_b4 r23 s.1 s.2
noncomputable def i_AngleTurns_k7 (y40 : F) : Option (F) :=
 obind (fnarrow y40) fun (y41 : F) =>
 some y41
noncomputable def i_AngleTurns_k6 (a0 : F) (y38 : F) : Option (F) :=
 bsel (flt .f32 a0 (some 0)) (
  olet (fneg .f64 y38) fun (x39 : F) =>
  i_AngleTurns_k7 x39) (
  i_AngleTurns_k7 y38)
noncomputable def i_AngleTurns_k5 (a0 : F) (a1 : F) (y36 : F) : Option (F) :=
 bsel (flt .f32 a1 (some 0)) (
  olet (fop .sub .f64 (some 4602678819172646912) y36) fun (x37 : F) =>
  i_AngleTurns_k6 a0 x37) (
  i_AngleTurns_k6 a0 y36)
noncomputable def i_AngleTurns_k4 (a0 : F) (a1 : F) (r8 : F) (r10 : F) (y22 : F) (y31 : F) : Option (F) :=
 obind (i_mul64 y22 y31) fun (r32 : F) =>
 obind (i_mul64 (some 4620693217682128896) r32) fun (r33 : F) =>
 olet (fop .quo .f64 r33 (some 4618760256179416344)) fun (x34 : F) =>
 bsel (flt .f64 r10 r8) (
  olet (fop .sub .f64 (some 4598175219545276416) x34) fun (x35 : F) =>
  i_AngleTurns_k5 a0 a1 x35) (
  i_AngleTurns_k5 a0 a1 x34)
noncomputable def i_AngleTurns_k3 (a0 : F) (a1 : F) (r8 : F) (r10 : F) (y22 : F) : Option (F) :=
 obind (i_mul64 y22 y22) fun (r23 : F) =>
 obind (loopM (i_AngleTurns_s4 r23) (some 0, 15)) fun z => osum z (fun e => i_AngleTurns_k4 a0 a1 r8 r10 y22 e) (fun r => some r)
noncomputable def i_AngleTurns_k2 (a0 : F) (a1 : F) (r8 : F) (r10 : F) (y13 : F) : Option (F) :=
 obind (loopM (i_AngleTurns_s3) (y13, 0)) fun z => osum z (fun e => i_AngleTurns_k3 a0 a1 r8 r10 e) (fun r => some r)
noncomputable def i_AngleTurns_k1 (a0 : F) (a1 : F) : Option (F) :=
 olet (fwiden a0) fun (x7 : F) =>
 obind (x_math_Abs x7) fun (r8 : F) =>
 olet (fwiden a1) fun (x9 : F) =>
 obind (x_math_Abs x9) fun (r10 : F) =>
 olet (fop .quo .f64 r8 r10) fun (x11 : F) =>
 bsel (flt .f64 r10 r8) (
  olet (fop .quo .f64 r10 r8) fun (x12 : F) =>
  i_AngleTurns_k2 a0 a1 r8 r10 x12) (
  i_AngleTurns_k2 a0 a1 r8 r10 x11)
noncomputable def i_AngleTurns (a0 : F) (a1 : F) : Option (F) :=
 obind (i_IsFinite a1) fun (r1 : Bool) =>
 bsel r1 (
  obind (i_IsFinite a0) fun (r2 : Bool) =>
  bsel r2 (
   bsel (feq .f32 a1 (some 0)) (
    bsel (feq .f32 a0 (some 0)) (
     some (some 0)) (
     i_AngleTurns_k1 a0 a1)) (
    i_AngleTurns_k1 a0 a1)) (
   obind (x_math_NaN) fun (r3 : F) =>
   obind (fnarrow r3) fun (y4 : F) =>
   some y4)) (
  obind (x_math_NaN) fun (r5 : F) =>
  obind (fnarrow r5) fun (y6 : F) =>
  some y6)
theorem i_AngleTurns_ok (a0 : F) (a1 : F) (q0 : F) (h : i_AngleTurns a0 a1 = some q0) : Ev Tryz.prog 34 [f32 a0, f32 a1] [] (f32 q0) [] := by
 refine Ev.start Tryz.func34 rfl rfl 0 (τ := [(0, f32 a0), (1, f32 a1)]) rfl (Γ' := []) rfl (n := 181) rfl (g := 0) rfl (fun _ => rfl) ?_
 unfold i_AngleTurns at h
 refine zQ ?_
 refine zl (r := f32 (some 0)) (LOp.le (LOp.assign rfl rfl) (ALe.fl (by kernel_rfl) (by kernel_rfl))) ?_
 refine zN ?_
 refine RunC.seq ?_
 refine RunC.cutN (fun τ Γ =>  WeakLe τ [(0, f32 a0), (1, f32 a1)] ∧ DeadLe Γ [] ∧ i_AngleTurns_k1 a0 a1 = some q0) ?_ ?_
 ·refine RunC.block ?_
  refine RunC.seq ?_
  obtain ⟨r1, hf1, h⟩ := obind_some h
  rcases bsel_some h with ⟨hc2, h⟩ | ⟨hc2, h⟩
  ·obtain ⟨r2, hf3, h⟩ := obind_some h
   rcases bsel_some h with ⟨hc4, h⟩ | ⟨hc4, h⟩
   ·refine RunC.regionW ?_
    refine zm (r := f32 a1) ?_
    refine ROps.d (r := b true) (fs := []) (Γ' := []) rfl rfl rfl (TOp.eqb (TOp.callB (CallAs.func ent62 rfl rfl) (Bors.cons (Bor.pure rfl) Bors.nil) rfl rfl (i_IsFinite_ok a1 r1 hf1)) hc2) rfl ?_
    refine zl (r := b false) (LOp.eqb (LOp.not rfl rfl) rfl) ?_
    refine zm (r := b false) ?_
    refine zm (r := f32 a0) ?_
    refine ROps.d (r := b true) (fs := []) (Γ' := []) rfl rfl rfl (TOp.eqb (TOp.callB (CallAs.func ent62 rfl rfl) (Bors.cons (Bor.pure rfl) Bors.nil) rfl rfl (i_IsFinite_ok a0 r2 hf3)) hc4) rfl ?_
    refine zl (r := b false) (LOp.eqb (LOp.not rfl rfl) rfl) ?_
    refine zl (r := b false) (LOp.pick_false rfl rfl rfl) ?_
    refine za (r := b false) ?_
    refine zN ?_
    refine RunC.cond_false rfl rfl ?_
    refine RunC.seq ?_
    rcases bsel_some h with ⟨hc5, h⟩ | ⟨hc5, h⟩
    ·rcases bsel_some h with ⟨hc6, h⟩ | ⟨hc6, h⟩
     ·refine RunC.regionW ?_
      refine zm (r := f32 a1) ?_
      refine zl (r := b true) (LOp.eqb (LOp.feq rfl (OpF.tmp rfl) (OpF.const rfl (by kernel_rfl) (by kernel_rfl))) hc5) ?_
      refine zm (r := b true) ?_
      refine zm (r := f32 a0) ?_
      refine zl (r := b true) (LOp.eqb (LOp.feq rfl (OpF.tmp rfl) (OpF.const rfl (by kernel_rfl) (by kernel_rfl))) hc6) ?_
      refine zl (r := b true) (LOp.pick_true rfl rfl rfl) ?_
      refine za (r := b true) ?_
      refine zN ?_
      refine RunC.wl (τ' := [(0, f32 a0), (1, f32 a1), (23, b true)]) (Γ' := []) ⟨aR, aR, aR, trivial⟩ trivial ?_
      refine RunC.cond_true rfl rfl ?_
      refine zQ ?_
      refine zl (r := f32 (some 0)) (LOp.le (LOp.assign rfl rfl) (ALe.fl (by kernel_rfl) (by kernel_rfl))) ?_
      refine zN ?_
      refine RunC.ret ?_
      have hq := Option.some.inj h
      subst q0
      exact bodyQ.pure (.inr rfl) rfl (Res.one rfl (RV.tmp rfl))
     ·refine RunC.regionW ?_
      refine zm (r := f32 a1) ?_
      refine zl (r := b true) (LOp.eqb (LOp.feq rfl (OpF.tmp rfl) (OpF.const rfl (by kernel_rfl) (by kernel_rfl))) hc5) ?_
      refine zm (r := b true) ?_
      refine zm (r := f32 a0) ?_
      refine zl (r := b false) (LOp.eqb (LOp.feq rfl (OpF.tmp rfl) (OpF.const rfl (by kernel_rfl) (by kernel_rfl))) hc6) ?_
      refine zl (r := b false) (LOp.pick_true rfl rfl rfl) ?_
      refine za (r := b false) ?_
      refine zN ?_
      refine RunC.wl (τ' := [(0, f32 a0), (1, f32 a1), (23, b false)]) (Γ' := []) ⟨aR, aR, aR, trivial⟩ trivial ?_
      refine RunC.cond_false rfl rfl ?_
      refine RunC.skip ?_
      exact ⟨⟨aR, aR, trivial⟩, trivial, h⟩
    ·refine RunC.regionW ?_
     refine zm (r := f32 a1) ?_
     refine zl (r := b false) (LOp.eqb (LOp.feq rfl (OpF.tmp rfl) (OpF.const rfl (by kernel_rfl) (by kernel_rfl))) hc5) ?_
     refine zm (r := b false) ?_
     iterate 2 (refine ROps.s rfl rfl rfl ?_)
     refine zl (r := b false) (LOp.pick_false rfl rfl rfl) ?_
     refine za (r := b false) ?_
     refine zN ?_
     refine RunC.wl (τ' := [(0, f32 a0), (1, f32 a1), (23, b false)]) (Γ' := []) ⟨aR, aR, aR, trivial⟩ trivial ?_
     refine RunC.cond_false rfl rfl ?_
     refine RunC.skip ?_
     exact ⟨⟨aR, aR, trivial⟩, trivial, h⟩
   ·refine RunC.regionW ?_
    refine zm (r := f32 a1) ?_
    refine ROps.d (r := b true) (fs := []) (Γ' := []) rfl rfl rfl (TOp.eqb (TOp.callB (CallAs.func ent62 rfl rfl) (Bors.cons (Bor.pure rfl) Bors.nil) rfl rfl (i_IsFinite_ok a1 r1 hf1)) hc2) rfl ?_
    refine zl (r := b false) (LOp.eqb (LOp.not rfl rfl) rfl) ?_
    refine zm (r := b false) ?_
    refine zm (r := f32 a0) ?_
    refine ROps.d (r := b false) (fs := []) (Γ' := []) rfl rfl rfl (TOp.eqb (TOp.callB (CallAs.func ent62 rfl rfl) (Bors.cons (Bor.pure rfl) Bors.nil) rfl rfl (i_IsFinite_ok a0 r2 hf3)) hc4) rfl ?_
    refine zl (r := b true) (LOp.eqb (LOp.not rfl rfl) rfl) ?_
    refine zl (r := b true) (LOp.pick_false rfl rfl rfl) ?_
    refine za (r := b true) ?_
    refine zN ?_
    refine RunC.cond_true rfl rfl ?_
    refine RunC.seq ?_
    obtain ⟨r3, hf7, h⟩ := obind_some h
    obtain ⟨y4, hy8, h⟩ := obind_some h
    refine RunC.regionW ?_
    refine ROps.d (r := f64 r3) (fs := []) (Γ' := []) rfl rfl rfl (TOp.callB (CallAs.func ent71 rfl rfl) Bors.nil rfl rfl (x_math_NaN_ok r3 hf7)) rfl ?_
    refine ROps.d (r := f32 y4) (fs := []) (Γ' := []) rfl rfl rfl (TOp.narrow (src := 46) (dst := 28) ⟨_, pun46⟩ pun28 rfl (OpF.tmp rfl) hy8) rfl ?_
    refine za (r := f32 y4) ?_
    refine zN ?_
    refine RunC.ret ?_
    have hq := Option.some.inj h
    subst q0
    exact bodyQ.pure (.inr rfl) rfl (Res.one rfl (RV.tmp rfl))
  ·refine RunC.regionW ?_
   refine zm (r := f32 a1) ?_
   refine ROps.d (r := b false) (fs := []) (Γ' := []) rfl rfl rfl (TOp.eqb (TOp.callB (CallAs.func ent62 rfl rfl) (Bors.cons (Bor.pure rfl) Bors.nil) rfl rfl (i_IsFinite_ok a1 r1 hf1)) hc2) rfl ?_
   refine zl (r := b true) (LOp.eqb (LOp.not rfl rfl) rfl) ?_
   refine zm (r := b true) ?_
   iterate 3 (refine ROps.s rfl rfl rfl ?_)
   refine zl (r := b true) (LOp.pick_true rfl rfl rfl) ?_
   refine za (r := b true) ?_
   refine zN ?_
   refine RunC.cond_true rfl rfl ?_
   refine RunC.seq ?_
   obtain ⟨r5, hf9, h⟩ := obind_some h
   obtain ⟨y6, hy10, h⟩ := obind_some h
   refine RunC.regionW ?_
   refine ROps.d (r := f64 r5) (fs := []) (Γ' := []) rfl rfl rfl (TOp.callB (CallAs.func ent71 rfl rfl) Bors.nil rfl rfl (x_math_NaN_ok r5 hf9)) rfl ?_
   refine ROps.d (r := f32 y6) (fs := []) (Γ' := []) rfl rfl rfl (TOp.narrow (src := 46) (dst := 28) ⟨_, pun46⟩ pun28 rfl (OpF.tmp rfl) hy10) rfl ?_
   refine za (r := f32 y6) ?_
   refine zN ?_
   refine RunC.ret ?_
   have hq := Option.some.inj h
   subst q0
   exact bodyQ.pure (.inr rfl) rfl (Res.one rfl (RV.tmp rfl))
 ·rintro τ8 Γ8 ⟨hw8, hd8, h⟩
  refine RunC.wl hw8 hd8 ?_
  unfold i_AngleTurns_k1 at h
  refine RunC.seq ?_
  obtain ⟨x7, hx11, h⟩ := olet_some h
  obtain ⟨r8, hf12, h⟩ := obind_some h
  obtain ⟨x9, hx13, h⟩ := olet_some h
  obtain ⟨r10, hf14, h⟩ := obind_some h
  refine RunC.regionW ?_
  refine zm (r := f32 a0) ?_
  refine ROps.d (r := f64 x7) (fs := []) (Γ' := []) rfl rfl rfl (TOp.eqr (TOp.widen (src := 28) (dst := 46) ⟨_, pun28⟩ pun46 rfl (OpF.tmp rfl)) (congrArg (f .f64) hx11)) rfl ?_
  refine ROps.d (r := f64 r8) (fs := []) (Γ' := []) rfl rfl rfl (TOp.callB (CallAs.func ent69 rfl rfl) (Bors.cons (Bor.pure rfl) Bors.nil) rfl rfl (x_math_Abs_ok x7 r8 hf12)) rfl ?_
  refine zm (r := f32 a1) ?_
  refine ROps.d (r := f64 x9) (fs := []) (Γ' := []) rfl rfl rfl (TOp.eqr (TOp.widen (src := 28) (dst := 46) ⟨_, pun28⟩ pun46 rfl (OpF.tmp rfl)) (congrArg (f .f64) hx13)) rfl ?_
  refine ROps.d (r := f64 r10) (fs := []) (Γ' := []) rfl rfl rfl (TOp.callB (CallAs.func ent69 rfl rfl) (Bors.cons (Bor.pure rfl) Bors.nil) rfl rfl (x_math_Abs_ok x9 r10 hf14)) rfl ?_
  refine za (r := f64 r8) ?_
  refine za (r := f64 r10) ?_
  refine zN ?_
  refine RunC.seq ?_
  obtain ⟨x11, hx15, h⟩ := olet_some h
  refine RunC.regionW ?_
  refine zm (r := f64 r8) ?_
  refine zm (r := f64 r10) ?_
  refine ROps.d (r := f64 x11) (fs := []) (Γ' := []) rfl rfl rfl (TOp.eqr (TOp.fop (.inr (.inr (.inr rfl))) rfl (OpF.tmp rfl) (OpF.tmp rfl)) (congrArg (f .f64) hx15)) rfl ?_
  refine za (r := f64 x11) ?_
  refine zN ?_
  refine RunC.seq ?_
  refine RunC.cutN (fun τ Γ => ∃ (y13 : F), WeakLe τ [(0, f32 a0), (1, f32 a1), (5, f64 r8), (6, f64 r10), (7, f64 y13)] ∧ DeadLe Γ [] ∧ i_AngleTurns_k2 a0 a1 r8 r10 y13 = some q0) ?_ ?_
  ·refine RunC.seq ?_
   rcases bsel_some h with ⟨hc16, h⟩ | ⟨hc16, h⟩
   ·refine RunC.regionW ?_
    refine zm (r := f64 r8) ?_
    refine zm (r := f64 r10) ?_
    refine zl (r := b true) (LOp.eqb (LOp.fgt rfl (OpF.tmp rfl) (OpF.tmp rfl)) hc16) ?_
    refine zN ?_
    refine RunC.cond_true rfl rfl ?_
    obtain ⟨x12, hx17, h⟩ := olet_some h
    refine RunC.regionW ?_
    refine zm (r := f64 r10) ?_
    refine zm (r := f64 r8) ?_
    refine ROps.d (r := f64 x12) (fs := []) (Γ' := []) rfl rfl rfl (TOp.eqr (TOp.fop (.inr (.inr (.inr rfl))) rfl (OpF.tmp rfl) (OpF.tmp rfl)) (congrArg (f .f64) hx17)) rfl ?_
    refine za (r := f64 x12) ?_
    refine zN ?_
    exact ⟨x12, ⟨aR, aR, aR, aR, aR, trivial⟩, trivial, h⟩
   ·refine RunC.regionW ?_
    refine zm (r := f64 r8) ?_
    refine zm (r := f64 r10) ?_
    refine zl (r := b false) (LOp.eqb (LOp.fgt rfl (OpF.tmp rfl) (OpF.tmp rfl)) hc16) ?_
    refine zN ?_
    refine RunC.cond_false rfl rfl ?_
    refine RunC.skip ?_
    exact ⟨x11, ⟨aR, aR, aR, aR, aR, trivial⟩, trivial, h⟩
  ·rintro τ9 Γ9 ⟨y13, hw9, hd9, h⟩
   refine RunC.wl hw9 hd9 ?_
   unfold i_AngleTurns_k2 at h
   refine RunC.seq ?_
   refine zQ ?_
   refine zm (r := i64 0) ?_
   refine zN ?_
   obtain ⟨z10, hz_10, h⟩ := obind_some h
   refine RunC.cutN (fun τ Γ => ∃ (y22 : F), WeakLe τ [(0, f32 a0), (1, f32 a1), (5, f64 r8), (6, f64 r10), (7, f64 y22)] ∧ DeadLe Γ [] ∧ z10 = .inl y22) ?_ ?_
   ·refine RunC.block (RunC.loop (RunL.loopM (x := z10) (i_AngleTurns_s3) (fun (s : F × Int) τ Γ => WeakLe τ [(0, f32 a0), (1, f32 a1), (5, f64 r8), (6, f64 r10), (7, f64 s.1), (45, i64 s.2)] ∧ DeadLe Γ []) ?_ _ _ _ hz_10 ⟨⟨aR, aR, aR, aR, aR, aR, trivial⟩, trivial⟩))
    rintro ⟨y14, v15⟩ τ10 Γ10 y10_ ⟨hw10, hd10⟩ h10_ ho10 hr10
    refine RunC.wl (τ' := [(0, f32 a0), (1, f32 a1), (5, f64 r8), (6, f64 r10), (7, f64 y14), (45, i64 v15)]) (Γ' := []) hw10 hd10 ?_
    replace h10_ : i_AngleTurns_b3 y14 v15 = some y10_ := h10_
    unfold i_AngleTurns_b3 at h10_
    refine RunC.seq ?_
    rcases bsel_some h10_ with ⟨hc18, h10_⟩ | ⟨hc18, h10_⟩
    ·refine RunC.regionW ?_
     refine zl (r := b true) (LOp.eqb (LOp.lss rfl rfl rfl) hc18) ?_
     refine zN ?_
     refine RunC.seq ?_
     refine RunC.cond_true rfl rfl ?_
     refine RunC.skip ?_
     refine RunC.seq ?_
     refine RunC.block ?_
     obtain ⟨r16, hf19, h10_⟩ := obind_some h10_
     obtain ⟨x17, hx20, h10_⟩ := olet_some h10_
     obtain ⟨r18, hf21, h10_⟩ := obind_some h10_
     obtain ⟨x19, hx22, h10_⟩ := olet_some h10_
     obtain ⟨x20, hx23, h10_⟩ := olet_some h10_
     refine RunC.regionW ?_
     iterate 3 (refine zm (r := f64 y14) ?_)
     refine ROps.d (r := f64 r16) (fs := []) (Γ' := []) rfl rfl rfl (TOp.callB (CallAs.func ent72 rfl rfl) (Bors.cons (Bor.pure rfl) (Bors.cons (Bor.pure rfl) Bors.nil)) rfl rfl (i_mul64_ok y14 y14 r16 hf19)) rfl ?_
     refine ROps.d (r := f64 x17) (fs := []) (Γ' := []) rfl rfl rfl (TOp.eqr (TOp.fop (.inl rfl) rfl (OpF.const rfl (by kernel_rfl) (by kernel_rfl)) (OpF.tmp rfl)) (congrArg (f .f64) hx20)) rfl ?_
     refine ROps.d (r := f64 r18) (fs := []) (Γ' := []) rfl rfl rfl (TOp.callB (CallAs.func ent43 rfl rfl) (Bors.cons (Bor.pure rfl) Bors.nil) rfl rfl (x_math_Sqrt_ok x17 r18 hf21)) rfl ?_
     refine ROps.d (r := f64 x19) (fs := []) (Γ' := []) rfl rfl rfl (TOp.eqr (TOp.fop (.inl rfl) rfl (OpF.const rfl (by kernel_rfl) (by kernel_rfl)) (OpF.tmp rfl)) (congrArg (f .f64) hx22)) rfl ?_
     refine ROps.d (r := f64 x20) (fs := []) (Γ' := []) rfl rfl rfl (TOp.eqr (TOp.fop (.inr (.inr (.inr rfl))) rfl (OpF.tmp rfl) (OpF.tmp rfl)) (congrArg (f .f64) hx23)) rfl ?_
     refine za (r := f64 x20) ?_
     refine zN ?_
     obtain ⟨x21, hx24, h10_⟩ := olet_some h10_
     refine RunC.regionW ?_
     refine zl (r := i64 x21) (LOp.eqr (LOp.add rfl rfl rfl) (congrArg (ik .i64) hx24)) ?_
     refine zm (r := i64 x21) ?_
     refine zN ?_
     cases Option.some.inj h10_
     exact ⟨_, rfl, ⟨aR, aR, aR, aR, aR, aR, trivial⟩, trivial⟩
    ·refine RunC.regionW ?_
     refine zl (r := b false) (LOp.eqb (LOp.lss rfl rfl rfl) hc18) ?_
     refine zN ?_
     refine RunC.seq ?_
     refine RunC.cond_false rfl rfl ?_
     refine RunC.exit ?_
     cases Option.some.inj h10_
     have hx := ho10 _ rfl
     exact ⟨y14, ⟨aR, aR, aR, aR, aR, trivial⟩, trivial, hx⟩
   ·rintro τ11 Γ11 ⟨y22, hw11, hd11, rfl⟩
    refine RunC.wl hw11 hd11 ?_
    replace h : i_AngleTurns_k3 a0 a1 r8 r10 y22 = some q0 := h
    unfold i_AngleTurns_k3 at h
    refine RunC.seq ?_
    obtain ⟨r23, hf25, h⟩ := obind_some h
    refine RunC.regionW ?_
    iterate 2 (refine zm (r := f64 y22) ?_)
    refine ROps.d (r := f64 r23) (fs := []) (Γ' := []) rfl rfl rfl (TOp.callB (CallAs.func ent72 rfl rfl) (Bors.cons (Bor.pure rfl) (Bors.cons (Bor.pure rfl) Bors.nil)) rfl rfl (i_mul64_ok y22 y22 r23 hf25)) rfl ?_
    refine za (r := f64 r23) ?_
    refine zl (r := f64 (some 0)) (LOp.le (LOp.assign rfl rfl) (ALe.fl (by kernel_rfl) (by kernel_rfl))) ?_
    refine zN ?_
    refine RunC.seq ?_
    refine zQ ?_
    refine za (r := i64 15) ?_
    refine zN ?_
    obtain ⟨z12, hz_12, h⟩ := obind_some h
    refine RunC.cutN (fun τ Γ => ∃ (y31 : F), WeakLe τ [(0, f32 a0), (1, f32 a1), (5, f64 r8), (6, f64 r10), (7, f64 y22), (9, f64 y31)] ∧ DeadLe Γ [] ∧ z12 = .inl y31) ?_ ?_
    ·refine RunC.block (RunC.loop (RunL.loopM (x := z12) (i_AngleTurns_s4 r23) (fun (s : F × Int) τ Γ => WeakLe τ [(0, f32 a0), (1, f32 a1), (5, f64 r8), (6, f64 r10), (7, f64 y22), (8, f64 r23), (9, f64 s.1), (10, i64 s.2)] ∧ DeadLe Γ []) ?_ _ _ _ hz_12 ⟨⟨aR, aR, aR, aR, aR, aR, aR, aR, trivial⟩, trivial⟩))
     rintro ⟨y24, v25⟩ τ12 Γ12 y12_ ⟨hw12, hd12⟩ h12_ ho12 hr12
     refine RunC.wl (τ' := [(0, f32 a0), (1, f32 a1), (5, f64 r8), (6, f64 r10), (7, f64 y22), (8, f64 r23), (9, f64 y24), (10, i64 v25)]) (Γ' := []) hw12 hd12 ?_
     replace h12_ : i_AngleTurns_b4 r23 y24 v25 = some y12_ := h12_
     unfold i_AngleTurns_b4 at h12_
     iterate 2 (refine RunC.seq ?_)
     rcases bsel_some h12_ with ⟨hc26, h12_⟩ | ⟨hc26, h12_⟩
     ·refine RunC.regionW ?_
      refine zm (r := i64 v25) ?_
      refine zl (r := b true) (LOp.eqb (LOp.geq rfl rfl rfl) hc26) ?_
      refine zN ?_
      refine RunC.cond_true rfl rfl ?_
      refine RunC.skip ?_
      refine RunC.seq ?_
      refine RunC.block ?_
      obtain ⟨x26, hx27, h12_⟩ := olet_some h12_
      obtain ⟨x27, hx28, h12_⟩ := olet_some h12_
      obtain ⟨r28, hf29, h12_⟩ := obind_some h12_
      obtain ⟨x29, hx30, h12_⟩ := olet_some h12_
      refine RunC.regionW ?_
      refine zm (r := i64 v25) ?_
      refine zl (r := f64 x26) (LOp.eqr (LOp.i2f (src := 3) (dst := 46) ⟨_, pun3⟩ pun46 rfl rfl) (congrArg (f .f64) hx27)) ?_
      refine ROps.d (r := f64 x27) (fs := []) (Γ' := []) rfl rfl rfl (TOp.eqr (TOp.fop (.inr (.inr (.inr rfl))) rfl (OpF.const rfl (by kernel_rfl) (by kernel_rfl)) (OpF.tmp rfl)) (congrArg (f .f64) hx28)) rfl ?_
      refine zm (r := f64 r23) ?_
      refine zm (r := f64 y24) ?_
      refine ROps.d (r := f64 r28) (fs := []) (Γ' := []) rfl rfl rfl (TOp.callB (CallAs.func ent72 rfl rfl) (Bors.cons (Bor.pure rfl) (Bors.cons (Bor.pure rfl) Bors.nil)) rfl rfl (i_mul64_ok r23 y24 r28 hf29)) rfl ?_
      refine ROps.d (r := f64 x29) (fs := []) (Γ' := []) rfl rfl rfl (TOp.eqr (TOp.fop (.inr (.inl rfl)) rfl (OpF.tmp rfl) (OpF.tmp rfl)) (congrArg (f .f64) hx30)) rfl ?_
      refine za (r := f64 x29) ?_
      refine zN ?_
      obtain ⟨x30, hx31, h12_⟩ := olet_some h12_
      refine RunC.regionW ?_
      refine zm (r := i64 v25) ?_
      refine zl (r := i64 x30) (LOp.eqr (LOp.sub rfl rfl rfl) (congrArg (ik .i64) hx31)) ?_
      refine za (r := i64 x30) ?_
      refine zN ?_
      cases Option.some.inj h12_
      exact ⟨_, rfl, ⟨aR, aR, aR, aR, aR, aR, aR, aR, trivial⟩, trivial⟩
     ·refine RunC.regionW ?_
      refine zm (r := i64 v25) ?_
      refine zl (r := b false) (LOp.eqb (LOp.geq rfl rfl rfl) hc26) ?_
      refine zN ?_
      refine RunC.cond_false rfl rfl ?_
      refine RunC.exit ?_
      cases Option.some.inj h12_
      have hx := ho12 _ rfl
      exact ⟨y24, ⟨aR, aR, aR, aR, aR, aR, trivial⟩, trivial, hx⟩
    ·rintro τ13 Γ13 ⟨y31, hw13, hd13, rfl⟩
     refine RunC.wl hw13 hd13 ?_
     replace h : i_AngleTurns_k4 a0 a1 r8 r10 y22 y31 = some q0 := h
     unfold i_AngleTurns_k4 at h
     refine RunC.seq ?_
     obtain ⟨r32, hf32, h⟩ := obind_some h
     obtain ⟨r33, hf33, h⟩ := obind_some h
     obtain ⟨x34, hx34, h⟩ := olet_some h
     refine RunC.regionW ?_
     refine zm (r := f64 y22) ?_
     refine zm (r := f64 y31) ?_
     refine ROps.d (r := f64 r32) (fs := []) (Γ' := []) rfl rfl rfl (TOp.callB (CallAs.func ent72 rfl rfl) (Bors.cons (Bor.pure rfl) (Bors.cons (Bor.pure rfl) Bors.nil)) rfl rfl (i_mul64_ok y22 y31 r32 hf32)) rfl ?_
     refine ROps.d (r := f64 r33) (fs := []) (Γ' := []) rfl rfl rfl (TOp.callB (CallAs.func ent72 rfl rfl) (Bors.cons (Bor.le (ALe.fl (by kernel_rfl) (by kernel_rfl)) (Bor.pure rfl)) (Bors.cons (Bor.pure rfl) Bors.nil)) rfl rfl (i_mul64_ok (some 4620693217682128896) r32 r33 hf33)) rfl ?_
     refine ROps.d (r := f64 x34) (fs := []) (Γ' := []) rfl rfl rfl (TOp.eqr (TOp.fop (.inr (.inr (.inr rfl))) rfl (OpF.tmp rfl) (OpF.const rfl (by kernel_rfl) (by kernel_rfl))) (congrArg (f .f64) hx34)) rfl ?_
     refine za (r := f64 x34) ?_
     refine zN ?_
     refine RunC.seq ?_
     refine RunC.cutN (fun τ Γ => ∃ (y36 : F), WeakLe τ [(0, f32 a0), (1, f32 a1), (11, f64 y36)] ∧ DeadLe Γ [] ∧ i_AngleTurns_k5 a0 a1 y36 = some q0) ?_ ?_
     ·refine RunC.seq ?_
      rcases bsel_some h with ⟨hc35, h⟩ | ⟨hc35, h⟩
      ·refine RunC.regionW ?_
       refine zm (r := f64 r8) ?_
       refine zm (r := f64 r10) ?_
       refine zl (r := b true) (LOp.eqb (LOp.fgt rfl (OpF.tmp rfl) (OpF.tmp rfl)) hc35) ?_
       refine zN ?_
       refine RunC.cond_true rfl rfl ?_
       obtain ⟨x35, hx36, h⟩ := olet_some h
       refine RunC.regionW ?_
       refine zm (r := f64 x34) ?_
       refine ROps.d (r := f64 x35) (fs := []) (Γ' := []) rfl rfl rfl (TOp.eqr (TOp.fop (.inr (.inl rfl)) rfl (OpF.const rfl (by kernel_rfl) (by kernel_rfl)) (OpF.tmp rfl)) (congrArg (f .f64) hx36)) rfl ?_
       refine za (r := f64 x35) ?_
       refine zN ?_
       exact ⟨x35, ⟨aR, aR, aR, trivial⟩, trivial, h⟩
      ·refine RunC.regionW ?_
       refine zm (r := f64 r8) ?_
       refine zm (r := f64 r10) ?_
       refine zl (r := b false) (LOp.eqb (LOp.fgt rfl (OpF.tmp rfl) (OpF.tmp rfl)) hc35) ?_
       refine zN ?_
       refine RunC.cond_false rfl rfl ?_
       refine RunC.skip ?_
       exact ⟨x34, ⟨aR, aR, aR, trivial⟩, trivial, h⟩
     ·rintro τ14 Γ14 ⟨y36, hw14, hd14, h⟩
      refine RunC.wl hw14 hd14 ?_
      unfold i_AngleTurns_k5 at h
      refine RunC.seq ?_
      refine RunC.cutN (fun τ Γ => ∃ (y38 : F), WeakLe τ [(0, f32 a0), (11, f64 y38)] ∧ DeadLe Γ [] ∧ i_AngleTurns_k6 a0 y38 = some q0) ?_ ?_
      ·refine RunC.seq ?_
       rcases bsel_some h with ⟨hc37, h⟩ | ⟨hc37, h⟩
       ·refine RunC.regionW ?_
        refine zm (r := f32 a1) ?_
        refine zl (r := b true) (LOp.eqb (LOp.flt rfl (OpF.tmp rfl) (OpF.const rfl (by kernel_rfl) (by kernel_rfl))) hc37) ?_
        refine zN ?_
        refine RunC.cond_true rfl rfl ?_
        obtain ⟨x37, hx38, h⟩ := olet_some h
        refine RunC.regionW ?_
        refine zm (r := f64 y36) ?_
        refine ROps.d (r := f64 x37) (fs := []) (Γ' := []) rfl rfl rfl (TOp.eqr (TOp.fop (.inr (.inl rfl)) rfl (OpF.const rfl (by kernel_rfl) (by kernel_rfl)) (OpF.tmp rfl)) (congrArg (f .f64) hx38)) rfl ?_
        refine za (r := f64 x37) ?_
        refine zN ?_
        exact ⟨x37, ⟨aR, aR, trivial⟩, trivial, h⟩
       ·refine RunC.regionW ?_
        refine zm (r := f32 a1) ?_
        refine zl (r := b false) (LOp.eqb (LOp.flt rfl (OpF.tmp rfl) (OpF.const rfl (by kernel_rfl) (by kernel_rfl))) hc37) ?_
        refine zN ?_
        refine RunC.cond_false rfl rfl ?_
        refine RunC.skip ?_
        exact ⟨y36, ⟨aR, aR, trivial⟩, trivial, h⟩
      ·rintro τ15 Γ15 ⟨y38, hw15, hd15, h⟩
       refine RunC.wl hw15 hd15 ?_
       unfold i_AngleTurns_k6 at h
       refine RunC.seq ?_
       refine RunC.cutN (fun τ Γ => ∃ (y40 : F), WeakLe τ [(11, f64 y40)] ∧ DeadLe Γ [] ∧ i_AngleTurns_k7 y40 = some q0) ?_ ?_
       ·refine RunC.seq ?_
        rcases bsel_some h with ⟨hc39, h⟩ | ⟨hc39, h⟩
        ·refine RunC.regionW ?_
         refine zm (r := f32 a0) ?_
         refine zl (r := b true) (LOp.eqb (LOp.flt rfl (OpF.tmp rfl) (OpF.const rfl (by kernel_rfl) (by kernel_rfl))) hc39) ?_
         refine zN ?_
         refine RunC.cond_true rfl rfl ?_
         obtain ⟨x39, hx40, h⟩ := olet_some h
         refine RunC.regionW ?_
         refine zm (r := f64 y38) ?_
         refine zl (r := f64 x39) (LOp.eqr (LOp.fneg rfl (OpF.tmp rfl)) (congrArg (f .f64) hx40)) ?_
         refine za (r := f64 x39) ?_
         refine zN ?_
         exact ⟨x39, ⟨aR, trivial⟩, trivial, h⟩
        ·refine RunC.regionW ?_
         refine zm (r := f32 a0) ?_
         refine zl (r := b false) (LOp.eqb (LOp.flt rfl (OpF.tmp rfl) (OpF.const rfl (by kernel_rfl) (by kernel_rfl))) hc39) ?_
         refine zN ?_
         refine RunC.cond_false rfl rfl ?_
         refine RunC.skip ?_
         exact ⟨y38, ⟨aR, trivial⟩, trivial, h⟩
       ·rintro τ16 Γ16 ⟨y40, hw16, hd16, h⟩
        refine RunC.wl hw16 hd16 ?_
        unfold i_AngleTurns_k7 at h
        refine RunC.seq ?_
        obtain ⟨y41, hy41, h⟩ := obind_some h
        refine RunC.regionW ?_
        refine zm (r := f64 y40) ?_
        refine ROps.d (r := f32 y41) (fs := []) (Γ' := []) rfl rfl rfl (TOp.narrow (src := 46) (dst := 28) ⟨_, pun46⟩ pun28 rfl (OpF.tmp rfl) hy41) rfl ?_
        refine za (r := f32 y41) ?_
        refine zN ?_
        refine RunC.ret ?_
        have hq := Option.some.inj h
        subst q0
        exact bodyQ.pure (.inr rfl) rfl (Res.one rfl (RV.tmp rfl))
noncomputable def i_AngleOf (a0 : F) (a1 : F) : Option (F) :=
 obind (i_AngleTurns a1 a0) fun (r1 : F) =>
 some r1
theorem i_AngleOf_ok (a0 : F) (a1 : F) (q0 : F) (h : i_AngleOf a0 a1 = some q0) : Ev Tryz.prog 35 [cx .f32 a0 a1] [] (f32 q0) [] := by
 refine Ev.start Tryz.func35 rfl rfl 0 (τ := [(0, cx .f32 a0 a1)]) rfl (Γ' := []) rfl (n := 17) rfl (g := 0) rfl (fun _ => rfl) ?_
 unfold i_AngleOf at h
 refine zQ ?_
 refine zl (r := f32 (some 0)) (LOp.le (LOp.assign rfl rfl) (ALe.fl (by kernel_rfl) (by kernel_rfl))) ?_
 refine zN ?_
 refine RunC.seq ?_
 obtain ⟨r1, hf1, h⟩ := obind_some h
 refine RunC.regionW ?_
 refine zm (r := cx .f32 a0 a1) ?_
 refine zl (r := f32 a1) (LOp.imag rfl rfl) ?_
 refine zm (r := cx .f32 a0 a1) ?_
 refine zl (r := f32 a0) (LOp.real rfl rfl) ?_
 refine ROps.d (r := f32 r1) (fs := []) (Γ' := []) rfl rfl rfl (TOp.callB (CallAs.func ent34 rfl rfl) (Bors.cons (Bor.pure rfl) (Bors.cons (Bor.pure rfl) Bors.nil)) rfl rfl (i_AngleTurns_ok a1 a0 r1 hf1)) rfl ?_
 refine za (r := f32 r1) ?_
 refine zN ?_
 refine RunC.ret ?_
 have hq := Option.some.inj h
 subst q0
 exact bodyQ.pure (.inr rfl) rfl (Res.one rfl (RV.tmp rfl))
noncomputable def i_NarrowNumber (a0 : F) : Option (F) :=
 obind (fnarrow a0) fun (y1 : F) =>
 some y1
theorem i_NarrowNumber_ok (a0 : F) (q0 : F) (h : i_NarrowNumber a0 = some q0) : Ev Tryz.prog 36 [f64 a0] [] (f32 q0) [] := by
 refine Ev.start Tryz.func36 rfl rfl 0 (τ := [(0, f64 a0)]) rfl (Γ' := []) rfl (n := 11) rfl (g := 0) rfl (fun _ => rfl) ?_
 unfold i_NarrowNumber at h
 refine zQ ?_
 refine zl (r := f32 (some 0)) (LOp.le (LOp.assign rfl rfl) (ALe.fl (by kernel_rfl) (by kernel_rfl))) ?_
 refine zN ?_
 refine RunC.seq ?_
 obtain ⟨y1, hy1, h⟩ := obind_some h
 refine RunC.regionW ?_
 refine zm (r := f64 a0) ?_
 refine ROps.d (r := f32 y1) (fs := []) (Γ' := []) rfl rfl rfl (TOp.narrow (src := 46) (dst := 28) ⟨_, pun46⟩ pun28 rfl (OpF.tmp rfl) hy1) rfl ?_
 refine za (r := f32 y1) ?_
 refine zN ?_
 refine RunC.ret ?_
 have hq := Option.some.inj h
 subst q0
 exact bodyQ.pure (.inr rfl) rfl (Res.one rfl (RV.tmp rfl))
noncomputable def i_isFar (a0 : F) : Option (Bool) :=
 obind (x_math_Abs a0) fun (r1 : F) =>
 some (fle .f64 (some 4841369599423283200) r1)
theorem i_isFar_ok (a0 : F) (q0 : Bool) (h : i_isFar a0 = some q0) : Ev Tryz.prog 73 [f64 a0] [] (b q0) [] := by
 refine Ev.start Tryz.func73 rfl rfl 0 (τ := [(0, f64 a0)]) rfl (Γ' := []) rfl (n := 13) rfl (g := 0) rfl (fun _ => rfl) ?_
 unfold i_isFar at h
 refine zQ ?_
 refine za (r := b false) ?_
 refine zN ?_
 refine RunC.seq ?_
 obtain ⟨r1, hf1, h⟩ := obind_some h
 refine RunC.regionW ?_
 refine zm (r := f64 a0) ?_
 refine ROps.d (r := f64 r1) (fs := []) (Γ' := []) rfl rfl rfl (TOp.callB (CallAs.func ent69 rfl rfl) (Bors.cons (Bor.pure rfl) Bors.nil) rfl rfl (x_math_Abs_ok a0 r1 hf1)) rfl ?_
 refine zl (r := b (fle .f64 (some 4841369599423283200) r1)) (LOp.fge rfl (OpF.tmp rfl) (OpF.const rfl (by kernel_rfl) (by kernel_rfl))) ?_
 refine za (r := b (fle .f64 (some 4841369599423283200) r1)) ?_
 refine zN ?_
 refine RunC.ret ?_
 have hq := Option.some.inj h
 subst q0
 exact bodyQ.pure (.inr rfl) rfl (Res.one rfl (RV.tmp rfl))
noncomputable def x_math_Trunc (a0 : F) : Option (F) :=
 obind (ftrunc a0) fun (y1 : F) =>
 some y1
theorem x_math_Trunc_ok (a0 : F) (q0 : F) (h : x_math_Trunc a0 = some q0) : Ev Tryz.prog 110 [f64 a0] [] (f64 q0) [] := by
 refine Ev.start Tryz.func110 rfl rfl 0 (τ := [(0, f64 a0)]) rfl (Γ' := []) rfl (n := 15) rfl (g := 0) rfl (fun _ => rfl) ?_
 unfold x_math_Trunc at h
 refine zQ ?_
 refine zl (r := f64 (some 0)) (LOp.le (LOp.assign rfl rfl) (ALe.fl (by kernel_rfl) (by kernel_rfl))) ?_
 refine zN ?_
 refine RunC.seq ?_
 refine RunC.cond_true rfl rfl ?_
 refine RunC.seq ?_
 obtain ⟨y1, hy1, h⟩ := obind_some h
 refine RunC.regionW ?_
 refine zm (r := f64 a0) ?_
 refine zl (r := f64 y1) (LOp.ftrunc ext130 rfl (OpF.tmp rfl) hy1) ?_
 refine za (r := f64 y1) ?_
 refine zN ?_
 refine RunC.ret ?_
 have hq := Option.some.inj h
 subst q0
 exact bodyQ.pure (.inr rfl) rfl (Res.one rfl (RV.tmp rfl))
noncomputable def i_part_k2 (y6 : F) : Option (F) :=
 some y6
noncomputable def i_part_k1 (a0 : F) (y3 : F) : Option (F) :=
 olet (fop .sub .f64 a0 y3) fun (x4 : F) =>
 bsel (flt .f64 x4 (some 0)) (
  olet (fop .add .f64 x4 (some 4607182418800017408)) fun (x5 : F) =>
  i_part_k2 x5) (
  i_part_k2 x4)
noncomputable def i_part (a0 : F) : Option (F) :=
 obind (x_math_Trunc a0) fun (r1 : F) =>
 bsel (feq .f64 r1 (some 0)) (
  obind (x_math_Abs r1) fun (r2 : F) =>
  i_part_k1 a0 r2) (
  i_part_k1 a0 r1)
theorem i_part_ok (a0 : F) (q0 : F) (h : i_part a0 = some q0) : Ev Tryz.prog 93 [f64 a0] [] (f64 q0) [] := by
 refine Ev.start Tryz.func93 rfl rfl 0 (τ := [(0, f64 a0)]) rfl (Γ' := []) rfl (n := 39) rfl (g := 0) rfl (fun _ => rfl) ?_
 unfold i_part at h
 refine zQ ?_
 refine zl (r := f64 (some 0)) (LOp.le (LOp.assign rfl rfl) (ALe.fl (by kernel_rfl) (by kernel_rfl))) ?_
 refine zN ?_
 refine RunC.seq ?_
 obtain ⟨r1, hf1, h⟩ := obind_some h
 refine RunC.regionW ?_
 refine zm (r := f64 a0) ?_
 refine ROps.d (r := f64 r1) (fs := []) (Γ' := []) rfl rfl rfl (TOp.callB (CallAs.func ent110 rfl rfl) (Bors.cons (Bor.pure rfl) Bors.nil) rfl rfl (x_math_Trunc_ok a0 r1 hf1)) rfl ?_
 refine za (r := f64 r1) ?_
 refine zN ?_
 refine RunC.seq ?_
 refine RunC.cutN (fun τ Γ => ∃ (y3 : F), WeakLe τ [(0, f64 a0), (3, f64 y3)] ∧ DeadLe Γ [] ∧ i_part_k1 a0 y3 = some q0) ?_ ?_
 ·refine RunC.seq ?_
  rcases bsel_some h with ⟨hc2, h⟩ | ⟨hc2, h⟩
  ·refine RunC.regionW ?_
   refine zm (r := f64 r1) ?_
   refine zl (r := b true) (LOp.eqb (LOp.feq rfl (OpF.tmp rfl) (OpF.const rfl (by kernel_rfl) (by kernel_rfl))) hc2) ?_
   refine zN ?_
   refine RunC.cond_true rfl rfl ?_
   obtain ⟨r2, hf3, h⟩ := obind_some h
   refine RunC.regionW ?_
   refine zm (r := f64 r1) ?_
   refine ROps.d (r := f64 r2) (fs := []) (Γ' := []) rfl rfl rfl (TOp.callB (CallAs.func ent69 rfl rfl) (Bors.cons (Bor.pure rfl) Bors.nil) rfl rfl (x_math_Abs_ok r1 r2 hf3)) rfl ?_
   refine za (r := f64 r2) ?_
   refine zN ?_
   exact ⟨r2, ⟨aR, aR, trivial⟩, trivial, h⟩
  ·refine RunC.regionW ?_
   refine zm (r := f64 r1) ?_
   refine zl (r := b false) (LOp.eqb (LOp.feq rfl (OpF.tmp rfl) (OpF.const rfl (by kernel_rfl) (by kernel_rfl))) hc2) ?_
   refine zN ?_
   refine RunC.cond_false rfl rfl ?_
   refine RunC.skip ?_
   exact ⟨r1, ⟨aR, aR, trivial⟩, trivial, h⟩
 ·rintro τ3 Γ3 ⟨y3, hw3, hd3, h⟩
  refine RunC.wl hw3 hd3 ?_
  unfold i_part_k1 at h
  refine RunC.seq ?_
  obtain ⟨x4, hx4, h⟩ := olet_some h
  refine RunC.regionW ?_
  refine zm (r := f64 a0) ?_
  refine zm (r := f64 y3) ?_
  refine ROps.d (r := f64 x4) (fs := []) (Γ' := []) rfl rfl rfl (TOp.eqr (TOp.fop (.inr (.inl rfl)) rfl (OpF.tmp rfl) (OpF.tmp rfl)) (congrArg (f .f64) hx4)) rfl ?_
  refine za (r := f64 x4) ?_
  refine zN ?_
  refine RunC.seq ?_
  refine RunC.cutN (fun τ Γ => ∃ (y6 : F), WeakLe τ [(4, f64 y6)] ∧ DeadLe Γ [] ∧ i_part_k2 y6 = some q0) ?_ ?_
  ·refine RunC.seq ?_
   rcases bsel_some h with ⟨hc5, h⟩ | ⟨hc5, h⟩
   ·refine RunC.regionW ?_
    refine zm (r := f64 x4) ?_
    refine zl (r := b true) (LOp.eqb (LOp.flt rfl (OpF.tmp rfl) (OpF.const rfl (by kernel_rfl) (by kernel_rfl))) hc5) ?_
    refine zN ?_
    refine RunC.cond_true rfl rfl ?_
    obtain ⟨x5, hx6, h⟩ := olet_some h
    refine RunC.regionW ?_
    refine zm (r := f64 x4) ?_
    refine ROps.d (r := f64 x5) (fs := []) (Γ' := []) rfl rfl rfl (TOp.eqr (TOp.fop (.inl rfl) rfl (OpF.tmp rfl) (OpF.const rfl (by kernel_rfl) (by kernel_rfl))) (congrArg (f .f64) hx6)) rfl ?_
    refine za (r := f64 x5) ?_
    refine zN ?_
    exact ⟨x5, ⟨aR, trivial⟩, trivial, h⟩
   ·refine RunC.regionW ?_
    refine zm (r := f64 x4) ?_
    refine zl (r := b false) (LOp.eqb (LOp.flt rfl (OpF.tmp rfl) (OpF.const rfl (by kernel_rfl) (by kernel_rfl))) hc5) ?_
    refine zN ?_
    refine RunC.cond_false rfl rfl ?_
    refine RunC.skip ?_
    exact ⟨x4, ⟨aR, trivial⟩, trivial, h⟩
  ·rintro τ4 Γ4 ⟨y6, hw4, hd4, h⟩
   refine RunC.wl hw4 hd4 ?_
   unfold i_part_k2 at h
   refine zQ ?_
   refine zm (r := f64 y6) ?_
   refine za (r := f64 y6) ?_
   refine zN ?_
   refine RunC.ret ?_
   have hq := Option.some.inj h
   subst q0
   exact bodyQ.pure (.inr rfl) rfl (Res.one rfl (RV.tmp rfl))
noncomputable def i_sine_b3 (r8 : F) (y9 : F) (v10 : Int) : Option (LR (F × Int) (F) (F)) :=
 bsel (decide (1 ≤ v10)) (
  obind (i_mul64 r8 y9) fun (r11 : F) =>
  olet (IntKind.i64.wrap (2 * v10)) fun (x12 : Int) =>
  olet (IntKind.i64.wrap (2 * v10)) fun (x13 : Int) =>
  olet (IntKind.i64.wrap (x13 + 1)) fun (x14 : Int) =>
  olet (IntKind.i64.wrap (x12 * x14)) fun (x15 : Int) =>
  olet (fint .f64 x15) fun (x16 : F) =>
  olet (fop .quo .f64 r11 x16) fun (x17 : F) =>
  olet (fop .sub .f64 (some 4607182418800017408) x17) fun (x18 : F) =>
  olet (IntKind.i64.wrap (v10 - 1)) fun (x19 : Int) =>
  some (LR.next (x18, x19))) (
  some (LR.out y9))
noncomputable def i_sine_s3 (r8 : F) : (F × Int) → Option (LR (F × Int) (F) (F)) := fun s => i_sine_b3 r8 s.1 s.2
noncomputable def i_sine_k3 (w4 : Bool) (r7 : F) (y20 : F) : Option (F) :=
 bsel w4 (
  obind (i_mul64 r7 y20) fun (r21 : F) =>
  olet (fneg .f64 r21) fun (x22 : F) =>
  some x22) (
  obind (i_mul64 r7 y20) fun (r23 : F) =>
  some r23)
noncomputable def i_sine_k2 (w4 : Bool) (y6 : F) : Option (F) :=
 obind (i_mul64 y6 (some 4618760256179416344)) fun (r7 : F) =>
 obind (i_mul64 r7 r7) fun (r8 : F) =>
 obind (loopM (i_sine_s3 r8) (some 4607182418800017408, 8)) fun z => osum z (fun e => i_sine_k3 w4 r7 e) (fun r => some r)
noncomputable def i_sine_k1 (y3 : F) (w4 : Bool) : Option (F) :=
 bsel (flt .f64 (some 4598175219545276416) y3) (
  olet (fop .sub .f64 (some 4602678819172646912) y3) fun (x5 : F) =>
  i_sine_k2 w4 x5) (
  i_sine_k2 w4 y3)
noncomputable def i_sine (a0 : F) : Option (F) :=
 obind (i_part a0) fun (r1 : F) =>
 bsel (fle .f64 (some 4602678819172646912) r1) (
  olet (fop .sub .f64 r1 (some 4602678819172646912)) fun (x2 : F) =>
  i_sine_k1 x2 true) (
  i_sine_k1 r1 false)
theorem i_sine_ok (a0 : F) (q0 : F) (h : i_sine a0 = some q0) : Ev Tryz.prog 74 [f64 a0] [] (f64 q0) [] := by
 refine Ev.start Tryz.func74 rfl rfl 0 (τ := [(0, f64 a0)]) rfl (Γ' := []) rfl (n := 97) rfl (g := 0) rfl (fun _ => rfl) ?_
 unfold i_sine at h
 refine zQ ?_
 refine zl (r := f64 (some 0)) (LOp.le (LOp.assign rfl rfl) (ALe.fl (by kernel_rfl) (by kernel_rfl))) ?_
 refine zN ?_
 refine RunC.seq ?_
 obtain ⟨r1, hf1, h⟩ := obind_some h
 refine RunC.regionW ?_
 refine zm (r := f64 a0) ?_
 refine ROps.d (r := f64 r1) (fs := []) (Γ' := []) rfl rfl rfl (TOp.callB (CallAs.func ent93 rfl rfl) (Bors.cons (Bor.pure rfl) Bors.nil) rfl rfl (i_part_ok a0 r1 hf1)) rfl ?_
 refine za (r := f64 r1) ?_
 refine za (r := b false) ?_
 refine zN ?_
 refine RunC.seq ?_
 refine RunC.cutN (fun τ Γ => ∃ (y3 : F) (w4 : Bool), WeakLe τ [(3, f64 y3), (4, b w4)] ∧ DeadLe Γ [] ∧ i_sine_k1 y3 w4 = some q0) ?_ ?_
 ·refine RunC.seq ?_
  rcases bsel_some h with ⟨hc2, h⟩ | ⟨hc2, h⟩
  ·refine RunC.regionW ?_
   refine zm (r := f64 r1) ?_
   refine zl (r := b true) (LOp.eqb (LOp.fge rfl (OpF.tmp rfl) (OpF.const rfl (by kernel_rfl) (by kernel_rfl))) hc2) ?_
   refine zN ?_
   refine RunC.cond_true rfl rfl ?_
   refine RunC.seq ?_
   obtain ⟨x2, hx3, h⟩ := olet_some h
   refine RunC.regionW ?_
   refine zm (r := f64 r1) ?_
   refine ROps.d (r := f64 x2) (fs := []) (Γ' := []) rfl rfl rfl (TOp.eqr (TOp.fop (.inr (.inl rfl)) rfl (OpF.tmp rfl) (OpF.const rfl (by kernel_rfl) (by kernel_rfl))) (congrArg (f .f64) hx3)) rfl ?_
   refine za (r := f64 x2) ?_
   refine zN ?_
   refine RunC.regionW ?_
   refine za (r := b true) ?_
   refine zN ?_
   exact ⟨x2, true, ⟨aR, aR, trivial⟩, trivial, h⟩
  ·refine RunC.regionW ?_
   refine zm (r := f64 r1) ?_
   refine zl (r := b false) (LOp.eqb (LOp.fge rfl (OpF.tmp rfl) (OpF.const rfl (by kernel_rfl) (by kernel_rfl))) hc2) ?_
   refine zN ?_
   refine RunC.cond_false rfl rfl ?_
   refine RunC.skip ?_
   exact ⟨r1, false, ⟨aR, aR, trivial⟩, trivial, h⟩
 ·rintro τ4 Γ4 ⟨y3, w4, hw4, hd4, h⟩
  refine RunC.wl hw4 hd4 ?_
  unfold i_sine_k1 at h
  refine RunC.seq ?_
  refine RunC.cutN (fun τ Γ => ∃ (y6 : F), WeakLe τ [(3, f64 y6), (4, b w4)] ∧ DeadLe Γ [] ∧ i_sine_k2 w4 y6 = some q0) ?_ ?_
  ·refine RunC.seq ?_
   rcases bsel_some h with ⟨hc4, h⟩ | ⟨hc4, h⟩
   ·refine RunC.regionW ?_
    refine zm (r := f64 y3) ?_
    refine zl (r := b true) (LOp.eqb (LOp.fgt rfl (OpF.tmp rfl) (OpF.const rfl (by kernel_rfl) (by kernel_rfl))) hc4) ?_
    refine zN ?_
    refine RunC.cond_true rfl rfl ?_
    obtain ⟨x5, hx5, h⟩ := olet_some h
    refine RunC.regionW ?_
    refine zm (r := f64 y3) ?_
    refine ROps.d (r := f64 x5) (fs := []) (Γ' := []) rfl rfl rfl (TOp.eqr (TOp.fop (.inr (.inl rfl)) rfl (OpF.const rfl (by kernel_rfl) (by kernel_rfl)) (OpF.tmp rfl)) (congrArg (f .f64) hx5)) rfl ?_
    refine za (r := f64 x5) ?_
    refine zN ?_
    exact ⟨x5, ⟨aR, aR, trivial⟩, trivial, h⟩
   ·refine RunC.regionW ?_
    refine zm (r := f64 y3) ?_
    refine zl (r := b false) (LOp.eqb (LOp.fgt rfl (OpF.tmp rfl) (OpF.const rfl (by kernel_rfl) (by kernel_rfl))) hc4) ?_
    refine zN ?_
    refine RunC.cond_false rfl rfl ?_
    refine RunC.skip ?_
    exact ⟨y3, ⟨aR, aR, trivial⟩, trivial, h⟩
  ·rintro τ5 Γ5 ⟨y6, hw5, hd5, h⟩
   refine RunC.wl hw5 hd5 ?_
   unfold i_sine_k2 at h
   refine RunC.seq ?_
   obtain ⟨r7, hf6, h⟩ := obind_some h
   refine RunC.regionW ?_
   refine zm (r := f64 y6) ?_
   refine ROps.d (r := f64 r7) (fs := []) (Γ' := []) rfl rfl rfl (TOp.callB (CallAs.func ent72 rfl rfl) (Bors.cons (Bor.pure rfl) (Bors.cons (Bor.le (ALe.fl (by kernel_rfl) (by kernel_rfl)) (Bor.pure rfl)) Bors.nil)) rfl rfl (i_mul64_ok y6 (some 4618760256179416344) r7 hf6)) rfl ?_
   refine za (r := f64 r7) ?_
   refine zN ?_
   refine RunC.seq ?_
   obtain ⟨r8, hf7, h⟩ := obind_some h
   refine RunC.regionW ?_
   iterate 2 (refine zm (r := f64 r7) ?_)
   refine ROps.d (r := f64 r8) (fs := []) (Γ' := []) rfl rfl rfl (TOp.callB (CallAs.func ent72 rfl rfl) (Bors.cons (Bor.pure rfl) (Bors.cons (Bor.pure rfl) Bors.nil)) rfl rfl (i_mul64_ok r7 r7 r8 hf7)) rfl ?_
   refine za (r := f64 r8) ?_
   refine zl (r := f64 (some 4607182418800017408)) (LOp.le (LOp.assign rfl rfl) (ALe.fl (by kernel_rfl) (by kernel_rfl))) ?_
   refine zN ?_
   refine RunC.seq ?_
   refine zQ ?_
   refine za (r := i64 8) ?_
   refine zN ?_
   obtain ⟨z6, hz_6, h⟩ := obind_some h
   refine RunC.cutN (fun τ Γ => ∃ (y20 : F), WeakLe τ [(4, b w4), (5, f64 r7), (7, f64 y20)] ∧ DeadLe Γ [] ∧ z6 = .inl y20) ?_ ?_
   ·refine RunC.block (RunC.loop (RunL.loopM (x := z6) (i_sine_s3 r8) (fun (s : F × Int) τ Γ => WeakLe τ [(4, b w4), (5, f64 r7), (6, f64 r8), (7, f64 s.1), (8, i64 s.2)] ∧ DeadLe Γ []) ?_ _ _ _ hz_6 ⟨⟨aR, aR, aR, aR, aR, trivial⟩, trivial⟩))
    rintro ⟨y9, v10⟩ τ6 Γ6 y6_ ⟨hw6, hd6⟩ h6_ ho6 hr6
    refine RunC.wl (τ' := [(4, b w4), (5, f64 r7), (6, f64 r8), (7, f64 y9), (8, i64 v10)]) (Γ' := []) hw6 hd6 ?_
    replace h6_ : i_sine_b3 r8 y9 v10 = some y6_ := h6_
    unfold i_sine_b3 at h6_
    iterate 2 (refine RunC.seq ?_)
    rcases bsel_some h6_ with ⟨hc8, h6_⟩ | ⟨hc8, h6_⟩
    ·refine RunC.regionW ?_
     refine zm (r := i64 v10) ?_
     refine zl (r := b true) (LOp.eqb (LOp.geq rfl rfl rfl) hc8) ?_
     refine zN ?_
     refine RunC.cond_true rfl rfl ?_
     refine RunC.skip ?_
     refine RunC.seq ?_
     refine RunC.block ?_
     obtain ⟨r11, hf9, h6_⟩ := obind_some h6_
     obtain ⟨x12, hx10, h6_⟩ := olet_some h6_
     obtain ⟨x13, hx11, h6_⟩ := olet_some h6_
     obtain ⟨x14, hx12, h6_⟩ := olet_some h6_
     obtain ⟨x15, hx13, h6_⟩ := olet_some h6_
     obtain ⟨x16, hx14, h6_⟩ := olet_some h6_
     obtain ⟨x17, hx15, h6_⟩ := olet_some h6_
     obtain ⟨x18, hx16, h6_⟩ := olet_some h6_
     refine RunC.regionW ?_
     refine zm (r := f64 r8) ?_
     refine zm (r := f64 y9) ?_
     refine ROps.d (r := f64 r11) (fs := []) (Γ' := []) rfl rfl rfl (TOp.callB (CallAs.func ent72 rfl rfl) (Bors.cons (Bor.pure rfl) (Bors.cons (Bor.pure rfl) Bors.nil)) rfl rfl (i_mul64_ok r8 y9 r11 hf9)) rfl ?_
     refine zm (r := i64 v10) ?_
     refine zl (r := i64 x12) (LOp.eqr (LOp.mul rfl rfl rfl) (congrArg (ik .i64) hx10)) ?_
     refine zm (r := i64 v10) ?_
     refine zl (r := i64 x13) (LOp.eqr (LOp.mul rfl rfl rfl) (congrArg (ik .i64) hx11)) ?_
     refine zl (r := i64 x14) (LOp.eqr (LOp.add rfl rfl rfl) (congrArg (ik .i64) hx12)) ?_
     refine zl (r := i64 x15) (LOp.eqr (LOp.mul rfl rfl rfl) (congrArg (ik .i64) hx13)) ?_
     refine zl (r := f64 x16) (LOp.eqr (LOp.i2f (src := 3) (dst := 46) ⟨_, pun3⟩ pun46 rfl rfl) (congrArg (f .f64) hx14)) ?_
     refine ROps.d (r := f64 x17) (fs := []) (Γ' := []) rfl rfl rfl (TOp.eqr (TOp.fop (.inr (.inr (.inr rfl))) rfl (OpF.tmp rfl) (OpF.tmp rfl)) (congrArg (f .f64) hx15)) rfl ?_
     refine ROps.d (r := f64 x18) (fs := []) (Γ' := []) rfl rfl rfl (TOp.eqr (TOp.fop (.inr (.inl rfl)) rfl (OpF.const rfl (by kernel_rfl) (by kernel_rfl)) (OpF.tmp rfl)) (congrArg (f .f64) hx16)) rfl ?_
     refine za (r := f64 x18) ?_
     refine zN ?_
     refine RunC.wl (τ' := [(4, b w4), (5, f64 r7), (6, f64 r8), (7, f64 x18), (8, i64 v10)]) (Γ' := []) ⟨aR, aR, aR, aR, aR, trivial⟩ trivial ?_
     obtain ⟨x19, hx17, h6_⟩ := olet_some h6_
     refine RunC.regionW ?_
     refine zm (r := i64 v10) ?_
     refine zl (r := i64 x19) (LOp.eqr (LOp.sub rfl rfl rfl) (congrArg (ik .i64) hx17)) ?_
     refine za (r := i64 x19) ?_
     refine zN ?_
     cases Option.some.inj h6_
     exact ⟨_, rfl, ⟨aR, aR, aR, aR, aR, trivial⟩, trivial⟩
    ·refine RunC.regionW ?_
     refine zm (r := i64 v10) ?_
     refine zl (r := b false) (LOp.eqb (LOp.geq rfl rfl rfl) hc8) ?_
     refine zN ?_
     refine RunC.cond_false rfl rfl ?_
     refine RunC.exit ?_
     cases Option.some.inj h6_
     have hx := ho6 _ rfl
     exact ⟨y9, ⟨aR, aR, aR, trivial⟩, trivial, hx⟩
   ·rintro τ7 Γ7 ⟨y20, hw7, hd7, rfl⟩
    refine RunC.wl hw7 hd7 ?_
    replace h : i_sine_k3 w4 r7 y20 = some q0 := h
    unfold i_sine_k3 at h
    iterate 2 (refine RunC.seq ?_)
    rcases bsel_some h with ⟨hc18, h⟩ | ⟨hc18, h⟩
    ·refine RunC.regionW ?_
     refine zl (r := b true) (LOp.eqb (LOp.move rfl rfl) hc18) ?_
     refine zN ?_
     refine RunC.cond_true rfl rfl ?_
     refine RunC.seq ?_
     obtain ⟨r21, hf19, h⟩ := obind_some h
     obtain ⟨x22, hx20, h⟩ := olet_some h
     refine RunC.regionW ?_
     refine zm (r := f64 r7) ?_
     refine zm (r := f64 y20) ?_
     refine ROps.d (r := f64 r21) (fs := []) (Γ' := []) rfl rfl rfl (TOp.callB (CallAs.func ent72 rfl rfl) (Bors.cons (Bor.pure rfl) (Bors.cons (Bor.pure rfl) Bors.nil)) rfl rfl (i_mul64_ok r7 y20 r21 hf19)) rfl ?_
     refine zl (r := f64 x22) (LOp.eqr (LOp.fneg rfl (OpF.tmp rfl)) (congrArg (f .f64) hx20)) ?_
     refine za (r := f64 x22) ?_
     refine zN ?_
     refine RunC.ret ?_
     have hq := Option.some.inj h
     subst q0
     exact bodyQ.pure (.inr rfl) rfl (Res.one rfl (RV.tmp rfl))
    ·refine RunC.regionW ?_
     refine zl (r := b false) (LOp.eqb (LOp.move rfl rfl) hc18) ?_
     refine zN ?_
     refine RunC.cond_false rfl rfl ?_
     refine RunC.skip ?_
     refine RunC.seq ?_
     obtain ⟨r23, hf21, h⟩ := obind_some h
     refine RunC.regionW ?_
     refine zm (r := f64 r7) ?_
     refine zm (r := f64 y20) ?_
     refine ROps.d (r := f64 r23) (fs := []) (Γ' := []) rfl rfl rfl (TOp.callB (CallAs.func ent72 rfl rfl) (Bors.cons (Bor.pure rfl) (Bors.cons (Bor.pure rfl) Bors.nil)) rfl rfl (i_mul64_ok r7 y20 r23 hf21)) rfl ?_
     refine za (r := f64 r23) ?_
     refine zN ?_
     refine RunC.ret ?_
     have hq := Option.some.inj h
     subst q0
     exact bodyQ.pure (.inr rfl) rfl (Res.one rfl (RV.tmp rfl))
noncomputable def i_SineTurns (a0 : F) : Option (F) :=
 obind (i_IsFinite a0) fun (r1 : Bool) =>
 bsel r1 (
  olet (fwiden a0) fun (x2 : F) =>
  obind (i_isFar x2) fun (r3 : Bool) =>
  bsel r3 (
   some (some 0)) (
   olet (fwiden a0) fun (x6 : F) =>
   obind (i_sine x6) fun (r7 : F) =>
   obind (fnarrow r7) fun (y8 : F) =>
   some y8)) (
  obind (x_math_NaN) fun (r4 : F) =>
  obind (fnarrow r4) fun (y5 : F) =>
  some y5)
theorem i_SineTurns_ok (a0 : F) (q0 : F) (h : i_SineTurns a0 = some q0) : Ev Tryz.prog 37 [f32 a0] [] (f32 q0) [] := by
 refine Ev.start Tryz.func37 rfl rfl 0 (τ := [(0, f32 a0)]) rfl (Γ' := []) rfl (n := 35) rfl (g := 0) rfl (fun _ => rfl) ?_
 unfold i_SineTurns at h
 refine zQ ?_
 refine zl (r := f32 (some 0)) (LOp.le (LOp.assign rfl rfl) (ALe.fl (by kernel_rfl) (by kernel_rfl))) ?_
 refine zN ?_
 refine RunC.seq ?_
 refine RunC.block ?_
 refine RunC.seq ?_
 obtain ⟨r1, hf1, h⟩ := obind_some h
 rcases bsel_some h with ⟨hc2, h⟩ | ⟨hc2, h⟩
 ·refine RunC.regionW ?_
  refine zm (r := f32 a0) ?_
  refine ROps.d (r := b true) (fs := []) (Γ' := []) rfl rfl rfl (TOp.eqb (TOp.callB (CallAs.func ent62 rfl rfl) (Bors.cons (Bor.pure rfl) Bors.nil) rfl rfl (i_IsFinite_ok a0 r1 hf1)) hc2) rfl ?_
  refine zl (r := b false) (LOp.eqb (LOp.not rfl rfl) rfl) ?_
  refine za (r := b false) ?_
  refine zN ?_
  refine RunC.cond_false rfl rfl ?_
  refine RunC.seq ?_
  obtain ⟨x2, hx3, h⟩ := olet_some h
  obtain ⟨r3, hf4, h⟩ := obind_some h
  rcases bsel_some h with ⟨hc5, h⟩ | ⟨hc5, h⟩
  ·refine RunC.regionW ?_
   refine zm (r := f32 a0) ?_
   refine ROps.d (r := f64 x2) (fs := []) (Γ' := []) rfl rfl rfl (TOp.eqr (TOp.widen (src := 28) (dst := 46) ⟨_, pun28⟩ pun46 rfl (OpF.tmp rfl)) (congrArg (f .f64) hx3)) rfl ?_
   refine ROps.d (r := b true) (fs := []) (Γ' := []) rfl rfl rfl (TOp.eqb (TOp.callB (CallAs.func ent73 rfl rfl) (Bors.cons (Bor.pure rfl) Bors.nil) rfl rfl (i_isFar_ok x2 r3 hf4)) hc5) rfl ?_
   refine za (r := b true) ?_
   refine zN ?_
   refine RunC.cond_true rfl rfl ?_
   refine zQ ?_
   refine zl (r := f32 (some 0)) (LOp.le (LOp.assign rfl rfl) (ALe.fl (by kernel_rfl) (by kernel_rfl))) ?_
   refine zN ?_
   refine RunC.ret ?_
   have hq := Option.some.inj h
   subst q0
   exact bodyQ.pure (.inr rfl) rfl (Res.one rfl (RV.tmp rfl))
  ·refine RunC.regionW ?_
   refine zm (r := f32 a0) ?_
   refine ROps.d (r := f64 x2) (fs := []) (Γ' := []) rfl rfl rfl (TOp.eqr (TOp.widen (src := 28) (dst := 46) ⟨_, pun28⟩ pun46 rfl (OpF.tmp rfl)) (congrArg (f .f64) hx3)) rfl ?_
   refine ROps.d (r := b false) (fs := []) (Γ' := []) rfl rfl rfl (TOp.eqb (TOp.callB (CallAs.func ent73 rfl rfl) (Bors.cons (Bor.pure rfl) Bors.nil) rfl rfl (i_isFar_ok x2 r3 hf4)) hc5) rfl ?_
   refine za (r := b false) ?_
   refine zN ?_
   refine RunC.cond_false rfl rfl ?_
   refine RunC.skip ?_
   refine RunC.seq ?_
   obtain ⟨x6, hx8, h⟩ := olet_some h
   obtain ⟨r7, hf9, h⟩ := obind_some h
   obtain ⟨y8, hy10, h⟩ := obind_some h
   refine RunC.regionW ?_
   refine zm (r := f32 a0) ?_
   refine ROps.d (r := f64 x6) (fs := []) (Γ' := []) rfl rfl rfl (TOp.eqr (TOp.widen (src := 28) (dst := 46) ⟨_, pun28⟩ pun46 rfl (OpF.tmp rfl)) (congrArg (f .f64) hx8)) rfl ?_
   refine ROps.d (r := f64 r7) (fs := []) (Γ' := []) rfl rfl rfl (TOp.callB (CallAs.func ent74 rfl rfl) (Bors.cons (Bor.pure rfl) Bors.nil) rfl rfl (i_sine_ok x6 r7 hf9)) rfl ?_
   refine ROps.d (r := f32 y8) (fs := []) (Γ' := []) rfl rfl rfl (TOp.narrow (src := 46) (dst := 28) ⟨_, pun46⟩ pun28 rfl (OpF.tmp rfl) hy10) rfl ?_
   refine za (r := f32 y8) ?_
   refine zN ?_
   refine RunC.ret ?_
   have hq := Option.some.inj h
   subst q0
   exact bodyQ.pure (.inr rfl) rfl (Res.one rfl (RV.tmp rfl))
 ·refine RunC.regionW ?_
  refine zm (r := f32 a0) ?_
  refine ROps.d (r := b false) (fs := []) (Γ' := []) rfl rfl rfl (TOp.eqb (TOp.callB (CallAs.func ent62 rfl rfl) (Bors.cons (Bor.pure rfl) Bors.nil) rfl rfl (i_IsFinite_ok a0 r1 hf1)) hc2) rfl ?_
  refine zl (r := b true) (LOp.eqb (LOp.not rfl rfl) rfl) ?_
  refine za (r := b true) ?_
  refine zN ?_
  refine RunC.cond_true rfl rfl ?_
  refine RunC.seq ?_
  obtain ⟨r4, hf6, h⟩ := obind_some h
  obtain ⟨y5, hy7, h⟩ := obind_some h
  refine RunC.regionW ?_
  refine ROps.d (r := f64 r4) (fs := []) (Γ' := []) rfl rfl rfl (TOp.callB (CallAs.func ent71 rfl rfl) Bors.nil rfl rfl (x_math_NaN_ok r4 hf6)) rfl ?_
  refine ROps.d (r := f32 y5) (fs := []) (Γ' := []) rfl rfl rfl (TOp.narrow (src := 46) (dst := 28) ⟨_, pun46⟩ pun28 rfl (OpF.tmp rfl) hy7) rfl ?_
  refine za (r := f32 y5) ?_
  refine zN ?_
  refine RunC.ret ?_
  have hq := Option.some.inj h
  subst q0
  exact bodyQ.pure (.inr rfl) rfl (Res.one rfl (RV.tmp rfl))
end Go.Proofs.YtcjbfpoaidjpaaaGreatDoor
