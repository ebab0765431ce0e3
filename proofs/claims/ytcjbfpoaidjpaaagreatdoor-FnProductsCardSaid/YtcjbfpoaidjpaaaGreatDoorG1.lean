/- Generated. -/
import Derived.Test.YtcjbfpoaidjpaaaGreatDoorG0
namespace Go.Proofs.YtcjbfpoaidjpaaaGreatDoor
open Go Go.AM Go.AM.AV
set_option maxRecDepth 20000
set_option maxHeartbeats 4000000
set_option linter.unusedVariables false
set_option linter.unusedSimpArgs false
noncomputable def x_internal_strconv_ParseUint_k2 (v1 : Int) (v2 : Int) (v26 : Int) : Option (LR (Int × Int) (Int) ((Int) ⊕ (Int) ⊕ (Int))) :=
 bsel (decide (16 ≤ v26)) (
  some (LR.ret (Sum.inl 0))) (
  bsel (decide (1152921504606846976 ≤ v1)) (
   some (LR.ret (Sum.inr (Sum.inl 4294967295)))) (
   olet (IntKind.u64.wrap (v1 * 16)) fun (x27 : Int) =>
   olet (IntKind.u64.wrap v26) fun (x28 : Int) =>
   olet (IntKind.u64.wrap (x27 + x28)) fun (x29 : Int) =>
   bsel (decide (x29 < x27)) (
    some (LR.ret (Sum.inr (Sum.inl 4294967295)))) (
    bsel (decide (4294967295 < x29)) (
     some (LR.ret (Sum.inr (Sum.inl 4294967295)))) (
     olet (IntKind.i64.wrap (v2 + 1)) fun (x30 : Int) =>
     some (LR.next (x29, x30))))))
noncomputable def x_internal_strconv_ParseUint_b3 (a0 : ByteArray) (v1 : Int) (v2 : Int) : Option (LR (Int × Int) (Int) ((Int) ⊕ (Int) ⊕ (Int))) :=
 bsel (decide (v2 < ((bytI a0).length : Int))) (
  obind (at? (bytI a0) v2) fun (e3 : Int) =>
  bsel (decide (e3 = 95)) (
   bsel (decide (48 ≤ e3)) (
    bsel (decide (e3 ≤ 57)) (
     olet (IntKind.u8.wrap (e3 - 48)) fun (x4 : Int) =>
     x_internal_strconv_ParseUint_k2 v1 v2 x4) (
     obind (x_internal_strconv_lower e3) fun (r5 : Int) =>
     bsel (decide (97 ≤ r5)) (
      obind (x_internal_strconv_lower e3) fun (r6 : Int) =>
      bsel (decide (r6 ≤ 122)) (
       obind (x_internal_strconv_lower e3) fun (r7 : Int) =>
       olet (IntKind.u8.wrap (r7 - 97)) fun (x8 : Int) =>
       olet (IntKind.u8.wrap (x8 + 10)) fun (x9 : Int) =>
       x_internal_strconv_ParseUint_k2 v1 v2 x9) (
       some (LR.ret (Sum.inl 0)))) (
      some (LR.ret (Sum.inl 0))))) (
    obind (x_internal_strconv_lower e3) fun (r10 : Int) =>
    bsel (decide (97 ≤ r10)) (
     obind (x_internal_strconv_lower e3) fun (r11 : Int) =>
     bsel (decide (r11 ≤ 122)) (
      obind (x_internal_strconv_lower e3) fun (r12 : Int) =>
      olet (IntKind.u8.wrap (r12 - 97)) fun (x13 : Int) =>
      olet (IntKind.u8.wrap (x13 + 10)) fun (x14 : Int) =>
      x_internal_strconv_ParseUint_k2 v1 v2 x14) (
      some (LR.ret (Sum.inl 0)))) (
     some (LR.ret (Sum.inl 0))))) (
   bsel (decide (48 ≤ e3)) (
    bsel (decide (e3 ≤ 57)) (
     olet (IntKind.u8.wrap (e3 - 48)) fun (x15 : Int) =>
     x_internal_strconv_ParseUint_k2 v1 v2 x15) (
     obind (x_internal_strconv_lower e3) fun (r16 : Int) =>
     bsel (decide (97 ≤ r16)) (
      obind (x_internal_strconv_lower e3) fun (r17 : Int) =>
      bsel (decide (r17 ≤ 122)) (
       obind (x_internal_strconv_lower e3) fun (r18 : Int) =>
       olet (IntKind.u8.wrap (r18 - 97)) fun (x19 : Int) =>
       olet (IntKind.u8.wrap (x19 + 10)) fun (x20 : Int) =>
       x_internal_strconv_ParseUint_k2 v1 v2 x20) (
       some (LR.ret (Sum.inl 0)))) (
      some (LR.ret (Sum.inl 0))))) (
    obind (x_internal_strconv_lower e3) fun (r21 : Int) =>
    bsel (decide (97 ≤ r21)) (
     obind (x_internal_strconv_lower e3) fun (r22 : Int) =>
     bsel (decide (r22 ≤ 122)) (
      obind (x_internal_strconv_lower e3) fun (r23 : Int) =>
      olet (IntKind.u8.wrap (r23 - 97)) fun (x24 : Int) =>
      olet (IntKind.u8.wrap (x24 + 10)) fun (x25 : Int) =>
      x_internal_strconv_ParseUint_k2 v1 v2 x25) (
      some (LR.ret (Sum.inl 0)))) (
     some (LR.ret (Sum.inl 0)))))) (
  some (LR.out v1))
noncomputable def x_internal_strconv_ParseUint_s3 (a0 : ByteArray) : (Int × Int) → Option (LR (Int × Int) (Int) ((Int) ⊕ (Int) ⊕ (Int))) := fun s => x_internal_strconv_ParseUint_b3 a0 s.1 s.2
noncomputable def x_internal_strconv_ParseUint_k3 (v31 : Int) : Option ((Int) ⊕ (Int) ⊕ (Int)) :=
 some (Sum.inr (Sum.inr v31))
noncomputable def x_internal_strconv_ParseUint (a0 : ByteArray) : Option ((Int) ⊕ (Int) ⊕ (Int)) :=
 bsel (eqs a0 lit_99ba06bc) (
  some (Sum.inl 0)) (
  obind (loopM (x_internal_strconv_ParseUint_s3 a0) (0, 0)) fun z => osum z (fun e => x_internal_strconv_ParseUint_k3 e) (fun r => some r))
theorem x_internal_strconv_ParseUint_ok0 (a0 : ByteArray) (q0 : Int) (h : x_internal_strconv_ParseUint a0 = some (Sum.inl q0)) : Ev Tryz.prog 104 [str a0, i64 16, i64 32] [] (tup [ik .u64 q0, x (.iface 140 (.int .i64 2))]) [] := by
 refine Ev.start Tryz.func104 rfl rfl 0 (τ := [(0, str a0), (1, i64 16), (2, i64 32)]) rfl (Γ' := []) rfl (n := 345) rfl (g := 0) rfl (fun _ => rfl) ?_
 unfold x_internal_strconv_ParseUint at h
 refine zQ ?_
 refine za (r := ik .u64 0) ?_
 refine za (r := x .nilIface) ?_
 refine zN ?_
 iterate 2 (refine RunC.seq ?_)
 rcases bsel_some h with ⟨hc1, h⟩ | ⟨hc1, h⟩
 ·refine RunC.regionW ?_
  refine zm (r := str a0) ?_
  refine zl (r := b true) (LOp.eqb (LOp.eqs rfl rfl rfl) hc1) ?_
  refine zN ?_
  refine RunC.cond_true rfl rfl ?_
  refine zQ ?_
  refine zl (r := x (.iface 140 (.int .i64 2))) (LOp.mkif (v := .int .i64 2) und140 rfl rfl) ?_
  refine za (r := ik .u64 0) ?_
  refine za (r := x (.iface 140 (.int .i64 2))) ?_
  refine zN ?_
  refine RunC.ret ?_
  have hq := Option.some.inj h
  have hq := Sum.inl.inj hq
  subst q0
  exact bodyQ.pure (.inr rfl) rfl (Res.two rfl (RV.tmp rfl) (RV.tmp rfl))
 ·refine RunC.regionW ?_
  refine zm (r := str a0) ?_
  refine zl (r := b false) (LOp.eqb (LOp.eqs rfl rfl rfl) hc1) ?_
  refine zN ?_
  refine RunC.cond_false rfl rfl ?_
  refine RunC.skip ?_
  refine zQ ?_
  refine zm (r := i64 16) ?_
  refine zl (r := b false) ((show LOp _ _ _ (b (decide ((16 : Int) = 0))) from LOp.eql rfl rfl rfl)) ?_
  refine za (r := b false) ?_
  refine zN ?_
  refine zQ ?_
  refine zm (r := str a0) ?_
  refine za (r := str a0) ?_
  refine zN ?_
  refine RunC.seq ?_
  refine RunC.block ?_
  refine zQ ?_
  refine zm (r := i64 16) ?_
  refine zl (r := b true) ((show LOp _ _ _ (b (decide ((2 : Int) ≤ 16))) from LOp.leq rfl rfl rfl)) ?_
  refine zm (r := b true) ?_
  refine zm (r := i64 16) ?_
  refine zl (r := b true) ((show LOp _ _ _ (b (decide ((16 : Int) ≤ 36))) from LOp.leq rfl rfl rfl)) ?_
  refine zl (r := b true) (LOp.pick_true rfl rfl rfl) ?_
  refine za (r := b true) ?_
  refine zN ?_
  refine RunC.cond_true rfl rfl ?_
  refine RunC.skip ?_
  refine RunC.seq ?_
  refine zQ ?_
  refine zm (r := i64 32) ?_
  refine zl (r := b false) ((show LOp _ _ _ (b (decide ((32 : Int) = 0))) from LOp.eql rfl rfl rfl)) ?_
  refine zN ?_
  refine RunC.cond_false rfl rfl ?_
  refine zQ ?_
  refine zm (r := i64 32) ?_
  refine zl (r := b false) ((show LOp _ _ _ (b (decide ((32 : Int) < 0))) from LOp.lss rfl rfl rfl)) ?_
  refine zm (r := b false) ?_
  refine zm (r := i64 32) ?_
  refine zl (r := b false) ((show LOp _ _ _ (b (decide ((64 : Int) < 32))) from LOp.gtr rfl rfl rfl)) ?_
  refine zl (r := b false) (LOp.pick_false rfl rfl rfl) ?_
  refine zN ?_
  refine RunC.cond_false rfl rfl ?_
  refine RunC.skip ?_
  refine zQ ?_
  refine za (r := ik .u64 0) ?_
  refine zN ?_
  refine RunC.seq ?_
  refine zQ ?_
  refine zm (r := i64 16) ?_
  refine zN ?_
  refine RunC.block ?_
  refine zQ ?_
  refine zl (r := b false) ((show LOp _ _ _ (b (decide ((16 : Int) = 10))) from LOp.eql rfl rfl rfl)) ?_
  refine za (r := b false) ?_
  refine zN ?_
  refine RunC.cond_false rfl rfl ?_
  refine zQ ?_
  refine zl (r := b true) ((show LOp _ _ _ (b (decide ((16 : Int) = 16))) from LOp.eql rfl rfl rfl)) ?_
  refine za (r := b true) ?_
  refine zN ?_
  refine RunC.wl (τ' := [(0, str a0), (1, i64 16), (2, i64 32), (8, b false), (9, str a0), (92, b true)]) (Γ' := []) ⟨aR, aR, aR, aR, aR, aR, trivial⟩ trivial ?_
  refine RunC.cond_true rfl rfl ?_
  refine RunC.regionW ?_
  refine za (r := ik .u64 1152921504606846976) ?_
  refine zN ?_
  refine zQ ?_
  refine zm (r := i64 32) ?_
  refine zl (r := ik .u64 32) ((show LOp _ _ _ (ik .u64 (IntKind.u64.wrap 32)) from LOp.i2i (src := 3) (dst := 106) ⟨_, pun3⟩ pun106 rfl rfl)) ?_
  refine zl (r := ik .u64 4294967296) ((show LOp _ _ _ (ik .u64 (ishl .u64 1 32)) from LOp.shl rfl rfl rfl (by decide))) ?_
  refine zl (r := ik .u64 4294967295) ((show LOp _ _ _ (ik .u64 (IntKind.u64.wrap (4294967296 - 1))) from LOp.sub rfl rfl rfl)) ?_
  refine za (r := ik .u64 4294967295) ?_
  refine zN ?_
  refine zQ ?_
  refine za (r := b false) ?_
  refine zN ?_
  refine zQ ?_
  refine za (r := ik .u64 0) ?_
  refine zN ?_
  refine RunC.seq ?_
  refine zQ ?_
  refine zm (r := str a0) ?_
  refine ROps.d (r := sl (bytI a0).length ((bytI a0).map (ik .u8))) (fs := []) (Γ' := []) rfl rfl rfl (TOp.s2b pun9 pun22 pun5 rfl rfl) rfl ?_
  refine zl (r := i64 ((bytI a0).length : Int)) (LOp.len_sl und22 rfl rfl) ?_
  refine zm (r := i64 0) ?_
  refine zN ?_
  obtain ⟨z4, hz_4, h⟩ := obind_some h
  refine RunC.cutN (fun τ Γ => ∃ (v31 : Int), WeakLe τ [(9, str a0), (12, b false), (13, ik .u64 v31)] ∧ DeadLe Γ [] ∧ z4 = .inl v31) ?_ ?_
  ·refine RunC.block (RunC.loop (RunL.loopM (x := z4) (x_internal_strconv_ParseUint_s3 a0) (fun (s : Int × Int) τ Γ => WeakLe τ [(1, i64 16), (8, b false), (9, str a0), (10, ik .u64 1152921504606846976), (11, ik .u64 4294967295), (12, b false), (13, ik .u64 s.1), (99, sl (bytI a0).length ((bytI a0).map (ik .u8))), (100, i64 ((bytI a0).length : Int)), (101, i64 s.2)] ∧ DeadLe Γ []) ?_ _ _ _ hz_4 ⟨⟨aR, aR, aR, aR, aR, aR, aR, aR, aR, aR, trivial⟩, trivial⟩))
   rintro ⟨v1, v2⟩ τ4 Γ4 y4_ ⟨hw4, hd4⟩ h4_ ho4 hr4
   refine RunC.wl (τ' := [(1, i64 16), (8, b false), (9, str a0), (10, ik .u64 1152921504606846976), (11, ik .u64 4294967295), (12, b false), (13, ik .u64 v1), (99, sl (bytI a0).length ((bytI a0).map (ik .u8))), (100, i64 ((bytI a0).length : Int)), (101, i64 v2)]) (Γ' := []) hw4 hd4 ?_
   replace h4_ : x_internal_strconv_ParseUint_b3 a0 v1 v2 = some y4_ := h4_
   unfold x_internal_strconv_ParseUint_b3 at h4_
   refine RunC.seq ?_
   rcases bsel_some h4_ with ⟨hc2, h4_⟩ | ⟨hc2, h4_⟩
   ·refine RunC.regionW ?_
    refine zl (r := b true) (LOp.eqb (LOp.lss rfl rfl rfl) hc2) ?_
    refine zN ?_
    refine RunC.seq ?_
    refine RunC.cond_true rfl rfl ?_
    refine RunC.skip ?_
    refine RunC.seq ?_
    refine RunC.block ?_
    refine RunC.seq ?_
    obtain ⟨e3, he3, h4_⟩ := obind_some h4_
    refine RunC.regionW ?_
    refine zl (r := ptr [ik .u8 e3]) (LOp.le (LOp.ix (f := (ik .u8)) und22 siz5 rfl rfl rfl rfl he3) ALe.ptr) ?_
    refine zl (r := ik .u8 e3) (LOp.load1 agg5 rfl rfl) ?_
    refine za (r := ik .u8 e3) ?_
    refine zN ?_
    refine zQ ?_
    refine za (r := ik .u8 0) ?_
    refine zN ?_
    refine RunC.seq ?_
    refine RunC.cutN (fun τ Γ => ∃ (v26 : Int), WeakLe τ [(1, i64 16), (8, b false), (9, str a0), (10, ik .u64 1152921504606846976), (11, ik .u64 4294967295), (12, b false), (13, ik .u64 v1), (16, ik .u8 v26), (99, sl (bytI a0).length ((bytI a0).map (ik .u8))), (100, i64 ((bytI a0).length : Int)), (101, i64 v2)] ∧ DeadLe Γ [] ∧ x_internal_strconv_ParseUint_k2 v1 v2 v26 = some y4_) ?_ ?_
    ·refine RunC.block ?_
     refine RunC.seq ?_
     rcases bsel_some h4_ with ⟨hc4, h4_⟩ | ⟨hc4, h4_⟩
     ·refine RunC.regionW ?_
      refine zm (r := ik .u8 e3) ?_
      refine zl (r := b true) (LOp.eqb (LOp.eql rfl rfl rfl) hc4) ?_
      refine zm (r := b true) ?_
      refine zm (r := b false) ?_
      refine zl (r := b false) (LOp.pick_true rfl rfl rfl) ?_
      refine za (r := b false) ?_
      refine zN ?_
      refine RunC.cond_false rfl rfl ?_
      refine RunC.seq ?_
      rcases bsel_some h4_ with ⟨hc5, h4_⟩ | ⟨hc5, h4_⟩
      ·rcases bsel_some h4_ with ⟨hc6, h4_⟩ | ⟨hc6, h4_⟩
       ·refine RunC.regionW ?_
        refine zm (r := ik .u8 e3) ?_
        refine zl (r := b true) (LOp.eqb (LOp.leq rfl rfl rfl) hc5) ?_
        refine zm (r := b true) ?_
        refine zm (r := ik .u8 e3) ?_
        refine zl (r := b true) (LOp.eqb (LOp.leq rfl rfl rfl) hc6) ?_
        refine zl (r := b true) (LOp.pick_true rfl rfl rfl) ?_
        refine za (r := b true) ?_
        refine zN ?_
        refine RunC.cond_true rfl rfl ?_
        obtain ⟨x4, hx7, h4_⟩ := olet_some h4_
        refine RunC.regionW ?_
        refine zm (r := ik .u8 e3) ?_
        refine zl (r := ik .u8 x4) (LOp.eqr (LOp.sub rfl rfl rfl) (congrArg (ik .u8) hx7)) ?_
        refine za (r := ik .u8 x4) ?_
        refine zN ?_
        exact ⟨x4, ⟨aR, aR, aR, aR, aR, aR, aR, aR, aR, aR, aR, trivial⟩, trivial, h4_⟩
       ·refine RunC.regionW ?_
        refine zm (r := ik .u8 e3) ?_
        refine zl (r := b true) (LOp.eqb (LOp.leq rfl rfl rfl) hc5) ?_
        refine zm (r := b true) ?_
        refine zm (r := ik .u8 e3) ?_
        refine zl (r := b false) (LOp.eqb (LOp.leq rfl rfl rfl) hc6) ?_
        refine zl (r := b false) (LOp.pick_true rfl rfl rfl) ?_
        refine za (r := b false) ?_
        refine zN ?_
        refine RunC.cond_false rfl rfl ?_
        refine RunC.seq ?_
        obtain ⟨r5, hf8, h4_⟩ := obind_some h4_
        rcases bsel_some h4_ with ⟨hc9, h4_⟩ | ⟨hc9, h4_⟩
        ·obtain ⟨r6, hf10, h4_⟩ := obind_some h4_
         rcases bsel_some h4_ with ⟨hc11, h4_⟩ | ⟨hc11, h4_⟩
         ·refine RunC.regionW ?_
          refine zm (r := ik .u8 e3) ?_
          refine ROps.d (r := ik .u8 r5) (fs := []) (Γ' := []) rfl rfl rfl (TOp.callB (CallAs.func ent124 rfl rfl) (Bors.cons (Bor.pure rfl) Bors.nil) rfl rfl (x_internal_strconv_lower_ok e3 r5 hf8)) rfl ?_
          refine zl (r := b true) (LOp.eqb (LOp.leq rfl rfl rfl) hc9) ?_
          refine zm (r := b true) ?_
          refine zm (r := ik .u8 e3) ?_
          refine ROps.d (r := ik .u8 r6) (fs := []) (Γ' := []) rfl rfl rfl (TOp.callB (CallAs.func ent124 rfl rfl) (Bors.cons (Bor.pure rfl) Bors.nil) rfl rfl (x_internal_strconv_lower_ok e3 r6 hf10)) rfl ?_
          refine zl (r := b true) (LOp.eqb (LOp.leq rfl rfl rfl) hc11) ?_
          refine zl (r := b true) (LOp.pick_true rfl rfl rfl) ?_
          refine za (r := b true) ?_
          refine zN ?_
          refine RunC.wl (τ' := [(1, i64 16), (8, b false), (9, str a0), (10, ik .u64 1152921504606846976), (11, ik .u64 4294967295), (12, b false), (13, ik .u64 v1), (15, ik .u8 e3), (99, sl (bytI a0).length ((bytI a0).map (ik .u8))), (100, i64 ((bytI a0).length : Int)), (101, i64 v2), (110, b false), (116, ik .u8 e3), (117, b false), (121, b true), (126, ik .u8 e3), (127, ik .u8 r6), (128, b true)]) (Γ' := []) ⟨aR, aR, aR, aR, aR, aR, aR, aR, aR, aR, aR, aR, aR, aR, aR, aR, aR, aR, trivial⟩ trivial ?_
          refine RunC.cond_true rfl rfl ?_
          obtain ⟨r7, hf12, h4_⟩ := obind_some h4_
          obtain ⟨x8, hx13, h4_⟩ := olet_some h4_
          obtain ⟨x9, hx14, h4_⟩ := olet_some h4_
          refine RunC.regionW ?_
          refine zm (r := ik .u8 e3) ?_
          refine ROps.d (r := ik .u8 r7) (fs := []) (Γ' := []) rfl rfl rfl (TOp.callB (CallAs.func ent124 rfl rfl) (Bors.cons (Bor.pure rfl) Bors.nil) rfl rfl (x_internal_strconv_lower_ok e3 r7 hf12)) rfl ?_
          refine zl (r := ik .u8 x8) (LOp.eqr (LOp.sub rfl rfl rfl) (congrArg (ik .u8) hx13)) ?_
          refine zl (r := ik .u8 x9) (LOp.eqr (LOp.add rfl rfl rfl) (congrArg (ik .u8) hx14)) ?_
          refine za (r := ik .u8 x9) ?_
          refine zN ?_
          exact ⟨x9, ⟨aR, aR, aR, aR, aR, aR, aR, aR, aR, aR, aR, trivial⟩, trivial, h4_⟩
         ·refine RunC.regionW ?_
          refine zm (r := ik .u8 e3) ?_
          refine ROps.d (r := ik .u8 r5) (fs := []) (Γ' := []) rfl rfl rfl (TOp.callB (CallAs.func ent124 rfl rfl) (Bors.cons (Bor.pure rfl) Bors.nil) rfl rfl (x_internal_strconv_lower_ok e3 r5 hf8)) rfl ?_
          refine zl (r := b true) (LOp.eqb (LOp.leq rfl rfl rfl) hc9) ?_
          refine zm (r := b true) ?_
          refine zm (r := ik .u8 e3) ?_
          refine ROps.d (r := ik .u8 r6) (fs := []) (Γ' := []) rfl rfl rfl (TOp.callB (CallAs.func ent124 rfl rfl) (Bors.cons (Bor.pure rfl) Bors.nil) rfl rfl (x_internal_strconv_lower_ok e3 r6 hf10)) rfl ?_
          refine zl (r := b false) (LOp.eqb (LOp.leq rfl rfl rfl) hc11) ?_
          refine zl (r := b false) (LOp.pick_true rfl rfl rfl) ?_
          refine za (r := b false) ?_
          refine zN ?_
          refine RunC.wl (τ' := [(1, i64 16), (8, b false), (9, str a0), (10, ik .u64 1152921504606846976), (11, ik .u64 4294967295), (12, b false), (13, ik .u64 v1), (15, ik .u8 e3), (99, sl (bytI a0).length ((bytI a0).map (ik .u8))), (100, i64 ((bytI a0).length : Int)), (101, i64 v2), (110, b false), (116, ik .u8 e3), (117, b false), (121, b false), (126, ik .u8 e3), (127, ik .u8 r6), (128, b false)]) (Γ' := []) ⟨aR, aR, aR, aR, aR, aR, aR, aR, aR, aR, aR, aR, aR, aR, aR, aR, aR, aR, trivial⟩ trivial ?_
          refine RunC.cond_false rfl rfl ?_
          refine zQ ?_
          refine zl (r := x (.iface 140 (.int .i64 2))) (LOp.mkif (v := .int .i64 2) und140 rfl rfl) ?_
          refine za (r := ik .u64 0) ?_
          refine za (r := x (.iface 140 (.int .i64 2))) ?_
          refine zN ?_
          refine RunC.ret ?_
          cases Option.some.inj h4_
          have hx5_ := hr4 _ rfl
          subst hx5_
          have hq := Option.some.inj h
          have hq := Sum.inl.inj hq
          subst q0
          exact bodyQ.pure (.inr rfl) rfl (Res.two rfl (RV.tmp rfl) (RV.tmp rfl))
        ·refine RunC.regionW ?_
         refine zm (r := ik .u8 e3) ?_
         refine ROps.d (r := ik .u8 r5) (fs := []) (Γ' := []) rfl rfl rfl (TOp.callB (CallAs.func ent124 rfl rfl) (Bors.cons (Bor.pure rfl) Bors.nil) rfl rfl (x_internal_strconv_lower_ok e3 r5 hf8)) rfl ?_
         refine zl (r := b false) (LOp.eqb (LOp.leq rfl rfl rfl) hc9) ?_
         refine zm (r := b false) ?_
         iterate 3 (refine ROps.s rfl rfl rfl ?_)
         refine zl (r := b false) (LOp.pick_false rfl rfl rfl) ?_
         refine za (r := b false) ?_
         refine zN ?_
         refine RunC.wl (τ' := [(1, i64 16), (8, b false), (9, str a0), (10, ik .u64 1152921504606846976), (11, ik .u64 4294967295), (12, b false), (13, ik .u64 v1), (15, ik .u8 e3), (99, sl (bytI a0).length ((bytI a0).map (ik .u8))), (100, i64 ((bytI a0).length : Int)), (101, i64 v2), (110, b false), (116, ik .u8 e3), (117, b false), (121, b false)]) (Γ' := []) ⟨aR, aR, aR, aR, aR, aR, aR, aR, aR, aR, aR, aR, aR, aR, aR, trivial⟩ trivial ?_
         refine RunC.cond_false rfl rfl ?_
         refine zQ ?_
         refine zl (r := x (.iface 140 (.int .i64 2))) (LOp.mkif (v := .int .i64 2) und140 rfl rfl) ?_
         refine za (r := ik .u64 0) ?_
         refine za (r := x (.iface 140 (.int .i64 2))) ?_
         refine zN ?_
         refine RunC.ret ?_
         cases Option.some.inj h4_
         have hx6_ := hr4 _ rfl
         subst hx6_
         have hq := Option.some.inj h
         have hq := Sum.inl.inj hq
         subst q0
         exact bodyQ.pure (.inr rfl) rfl (Res.two rfl (RV.tmp rfl) (RV.tmp rfl))
      ·refine RunC.regionW ?_
       refine zm (r := ik .u8 e3) ?_
       refine zl (r := b false) (LOp.eqb (LOp.leq rfl rfl rfl) hc5) ?_
       refine zm (r := b false) ?_
       iterate 2 (refine ROps.s rfl rfl rfl ?_)
       refine zl (r := b false) (LOp.pick_false rfl rfl rfl) ?_
       refine za (r := b false) ?_
       refine zN ?_
       refine RunC.cond_false rfl rfl ?_
       refine RunC.seq ?_
       obtain ⟨r10, hf15, h4_⟩ := obind_some h4_
       rcases bsel_some h4_ with ⟨hc16, h4_⟩ | ⟨hc16, h4_⟩
       ·obtain ⟨r11, hf17, h4_⟩ := obind_some h4_
        rcases bsel_some h4_ with ⟨hc18, h4_⟩ | ⟨hc18, h4_⟩
        ·refine RunC.regionW ?_
         refine zm (r := ik .u8 e3) ?_
         refine ROps.d (r := ik .u8 r10) (fs := []) (Γ' := []) rfl rfl rfl (TOp.callB (CallAs.func ent124 rfl rfl) (Bors.cons (Bor.pure rfl) Bors.nil) rfl rfl (x_internal_strconv_lower_ok e3 r10 hf15)) rfl ?_
         refine zl (r := b true) (LOp.eqb (LOp.leq rfl rfl rfl) hc16) ?_
         refine zm (r := b true) ?_
         refine zm (r := ik .u8 e3) ?_
         refine ROps.d (r := ik .u8 r11) (fs := []) (Γ' := []) rfl rfl rfl (TOp.callB (CallAs.func ent124 rfl rfl) (Bors.cons (Bor.pure rfl) Bors.nil) rfl rfl (x_internal_strconv_lower_ok e3 r11 hf17)) rfl ?_
         refine zl (r := b true) (LOp.eqb (LOp.leq rfl rfl rfl) hc18) ?_
         refine zl (r := b true) (LOp.pick_true rfl rfl rfl) ?_
         refine za (r := b true) ?_
         refine zN ?_
         refine RunC.wl (τ' := [(1, i64 16), (8, b false), (9, str a0), (10, ik .u64 1152921504606846976), (11, ik .u64 4294967295), (12, b false), (13, ik .u64 v1), (15, ik .u8 e3), (99, sl (bytI a0).length ((bytI a0).map (ik .u8))), (100, i64 ((bytI a0).length : Int)), (101, i64 v2), (110, b false), (121, b true), (126, ik .u8 e3), (127, ik .u8 r11), (128, b true)]) (Γ' := []) ⟨aR, aR, aR, aR, aR, aR, aR, aR, aR, aR, aR, aR, aR, aR, aR, aR, trivial⟩ trivial ?_
         refine RunC.cond_true rfl rfl ?_
         obtain ⟨r12, hf19, h4_⟩ := obind_some h4_
         obtain ⟨x13, hx20, h4_⟩ := olet_some h4_
         obtain ⟨x14, hx21, h4_⟩ := olet_some h4_
         refine RunC.regionW ?_
         refine zm (r := ik .u8 e3) ?_
         refine ROps.d (r := ik .u8 r12) (fs := []) (Γ' := []) rfl rfl rfl (TOp.callB (CallAs.func ent124 rfl rfl) (Bors.cons (Bor.pure rfl) Bors.nil) rfl rfl (x_internal_strconv_lower_ok e3 r12 hf19)) rfl ?_
         refine zl (r := ik .u8 x13) (LOp.eqr (LOp.sub rfl rfl rfl) (congrArg (ik .u8) hx20)) ?_
         refine zl (r := ik .u8 x14) (LOp.eqr (LOp.add rfl rfl rfl) (congrArg (ik .u8) hx21)) ?_
         refine za (r := ik .u8 x14) ?_
         refine zN ?_
         exact ⟨x14, ⟨aR, aR, aR, aR, aR, aR, aR, aR, aR, aR, aR, trivial⟩, trivial, h4_⟩
        ·refine RunC.regionW ?_
         refine zm (r := ik .u8 e3) ?_
         refine ROps.d (r := ik .u8 r10) (fs := []) (Γ' := []) rfl rfl rfl (TOp.callB (CallAs.func ent124 rfl rfl) (Bors.cons (Bor.pure rfl) Bors.nil) rfl rfl (x_internal_strconv_lower_ok e3 r10 hf15)) rfl ?_
         refine zl (r := b true) (LOp.eqb (LOp.leq rfl rfl rfl) hc16) ?_
         refine zm (r := b true) ?_
         refine zm (r := ik .u8 e3) ?_
         refine ROps.d (r := ik .u8 r11) (fs := []) (Γ' := []) rfl rfl rfl (TOp.callB (CallAs.func ent124 rfl rfl) (Bors.cons (Bor.pure rfl) Bors.nil) rfl rfl (x_internal_strconv_lower_ok e3 r11 hf17)) rfl ?_
         refine zl (r := b false) (LOp.eqb (LOp.leq rfl rfl rfl) hc18) ?_
         refine zl (r := b false) (LOp.pick_true rfl rfl rfl) ?_
         refine za (r := b false) ?_
         refine zN ?_
         refine RunC.wl (τ' := [(1, i64 16), (8, b false), (9, str a0), (10, ik .u64 1152921504606846976), (11, ik .u64 4294967295), (12, b false), (13, ik .u64 v1), (15, ik .u8 e3), (99, sl (bytI a0).length ((bytI a0).map (ik .u8))), (100, i64 ((bytI a0).length : Int)), (101, i64 v2), (110, b false), (121, b false), (126, ik .u8 e3), (127, ik .u8 r11), (128, b false)]) (Γ' := []) ⟨aR, aR, aR, aR, aR, aR, aR, aR, aR, aR, aR, aR, aR, aR, aR, aR, trivial⟩ trivial ?_
         refine RunC.cond_false rfl rfl ?_
         refine zQ ?_
         refine zl (r := x (.iface 140 (.int .i64 2))) (LOp.mkif (v := .int .i64 2) und140 rfl rfl) ?_
         refine za (r := ik .u64 0) ?_
         refine za (r := x (.iface 140 (.int .i64 2))) ?_
         refine zN ?_
         refine RunC.ret ?_
         cases Option.some.inj h4_
         have hx7_ := hr4 _ rfl
         subst hx7_
         have hq := Option.some.inj h
         have hq := Sum.inl.inj hq
         subst q0
         exact bodyQ.pure (.inr rfl) rfl (Res.two rfl (RV.tmp rfl) (RV.tmp rfl))
       ·refine RunC.regionW ?_
        refine zm (r := ik .u8 e3) ?_
        refine ROps.d (r := ik .u8 r10) (fs := []) (Γ' := []) rfl rfl rfl (TOp.callB (CallAs.func ent124 rfl rfl) (Bors.cons (Bor.pure rfl) Bors.nil) rfl rfl (x_internal_strconv_lower_ok e3 r10 hf15)) rfl ?_
        refine zl (r := b false) (LOp.eqb (LOp.leq rfl rfl rfl) hc16) ?_
        refine zm (r := b false) ?_
        iterate 3 (refine ROps.s rfl rfl rfl ?_)
        refine zl (r := b false) (LOp.pick_false rfl rfl rfl) ?_
        refine za (r := b false) ?_
        refine zN ?_
        refine RunC.wl (τ' := [(1, i64 16), (8, b false), (9, str a0), (10, ik .u64 1152921504606846976), (11, ik .u64 4294967295), (12, b false), (13, ik .u64 v1), (15, ik .u8 e3), (99, sl (bytI a0).length ((bytI a0).map (ik .u8))), (100, i64 ((bytI a0).length : Int)), (101, i64 v2), (110, b false), (121, b false)]) (Γ' := []) ⟨aR, aR, aR, aR, aR, aR, aR, aR, aR, aR, aR, aR, aR, trivial⟩ trivial ?_
        refine RunC.cond_false rfl rfl ?_
        refine zQ ?_
        refine zl (r := x (.iface 140 (.int .i64 2))) (LOp.mkif (v := .int .i64 2) und140 rfl rfl) ?_
        refine za (r := ik .u64 0) ?_
        refine za (r := x (.iface 140 (.int .i64 2))) ?_
        refine zN ?_
        refine RunC.ret ?_
        cases Option.some.inj h4_
        have hx8_ := hr4 _ rfl
        subst hx8_
        have hq := Option.some.inj h
        have hq := Sum.inl.inj hq
        subst q0
        exact bodyQ.pure (.inr rfl) rfl (Res.two rfl (RV.tmp rfl) (RV.tmp rfl))
     ·refine RunC.regionW ?_
      refine zm (r := ik .u8 e3) ?_
      refine zl (r := b false) (LOp.eqb (LOp.eql rfl rfl rfl) hc4) ?_
      refine zm (r := b false) ?_
      refine ROps.s rfl rfl rfl ?_
      refine zl (r := b false) (LOp.pick_false rfl rfl rfl) ?_
      refine za (r := b false) ?_
      refine zN ?_
      refine RunC.cond_false rfl rfl ?_
      refine RunC.seq ?_
      rcases bsel_some h4_ with ⟨hc22, h4_⟩ | ⟨hc22, h4_⟩
      ·rcases bsel_some h4_ with ⟨hc23, h4_⟩ | ⟨hc23, h4_⟩
       ·refine RunC.regionW ?_
        refine zm (r := ik .u8 e3) ?_
        refine zl (r := b true) (LOp.eqb (LOp.leq rfl rfl rfl) hc22) ?_
        refine zm (r := b true) ?_
        refine zm (r := ik .u8 e3) ?_
        refine zl (r := b true) (LOp.eqb (LOp.leq rfl rfl rfl) hc23) ?_
        refine zl (r := b true) (LOp.pick_true rfl rfl rfl) ?_
        refine za (r := b true) ?_
        refine zN ?_
        refine RunC.cond_true rfl rfl ?_
        obtain ⟨x15, hx24, h4_⟩ := olet_some h4_
        refine RunC.regionW ?_
        refine zm (r := ik .u8 e3) ?_
        refine zl (r := ik .u8 x15) (LOp.eqr (LOp.sub rfl rfl rfl) (congrArg (ik .u8) hx24)) ?_
        refine za (r := ik .u8 x15) ?_
        refine zN ?_
        exact ⟨x15, ⟨aR, aR, aR, aR, aR, aR, aR, aR, aR, aR, aR, trivial⟩, trivial, h4_⟩
       ·refine RunC.regionW ?_
        refine zm (r := ik .u8 e3) ?_
        refine zl (r := b true) (LOp.eqb (LOp.leq rfl rfl rfl) hc22) ?_
        refine zm (r := b true) ?_
        refine zm (r := ik .u8 e3) ?_
        refine zl (r := b false) (LOp.eqb (LOp.leq rfl rfl rfl) hc23) ?_
        refine zl (r := b false) (LOp.pick_true rfl rfl rfl) ?_
        refine za (r := b false) ?_
        refine zN ?_
        refine RunC.cond_false rfl rfl ?_
        refine RunC.seq ?_
        obtain ⟨r16, hf25, h4_⟩ := obind_some h4_
        rcases bsel_some h4_ with ⟨hc26, h4_⟩ | ⟨hc26, h4_⟩
        ·obtain ⟨r17, hf27, h4_⟩ := obind_some h4_
         rcases bsel_some h4_ with ⟨hc28, h4_⟩ | ⟨hc28, h4_⟩
         ·refine RunC.regionW ?_
          refine zm (r := ik .u8 e3) ?_
          refine ROps.d (r := ik .u8 r16) (fs := []) (Γ' := []) rfl rfl rfl (TOp.callB (CallAs.func ent124 rfl rfl) (Bors.cons (Bor.pure rfl) Bors.nil) rfl rfl (x_internal_strconv_lower_ok e3 r16 hf25)) rfl ?_
          refine zl (r := b true) (LOp.eqb (LOp.leq rfl rfl rfl) hc26) ?_
          refine zm (r := b true) ?_
          refine zm (r := ik .u8 e3) ?_
          refine ROps.d (r := ik .u8 r17) (fs := []) (Γ' := []) rfl rfl rfl (TOp.callB (CallAs.func ent124 rfl rfl) (Bors.cons (Bor.pure rfl) Bors.nil) rfl rfl (x_internal_strconv_lower_ok e3 r17 hf27)) rfl ?_
          refine zl (r := b true) (LOp.eqb (LOp.leq rfl rfl rfl) hc28) ?_
          refine zl (r := b true) (LOp.pick_true rfl rfl rfl) ?_
          refine za (r := b true) ?_
          refine zN ?_
          refine RunC.wl (τ' := [(1, i64 16), (8, b false), (9, str a0), (10, ik .u64 1152921504606846976), (11, ik .u64 4294967295), (12, b false), (13, ik .u64 v1), (15, ik .u8 e3), (99, sl (bytI a0).length ((bytI a0).map (ik .u8))), (100, i64 ((bytI a0).length : Int)), (101, i64 v2), (116, ik .u8 e3), (117, b false), (121, b true), (126, ik .u8 e3), (127, ik .u8 r17), (128, b true)]) (Γ' := []) ⟨aR, aR, aR, aR, aR, aR, aR, aR, aR, aR, aR, aR, aR, aR, aR, aR, aR, trivial⟩ trivial ?_
          refine RunC.cond_true rfl rfl ?_
          obtain ⟨r18, hf29, h4_⟩ := obind_some h4_
          obtain ⟨x19, hx30, h4_⟩ := olet_some h4_
          obtain ⟨x20, hx31, h4_⟩ := olet_some h4_
          refine RunC.regionW ?_
          refine zm (r := ik .u8 e3) ?_
          refine ROps.d (r := ik .u8 r18) (fs := []) (Γ' := []) rfl rfl rfl (TOp.callB (CallAs.func ent124 rfl rfl) (Bors.cons (Bor.pure rfl) Bors.nil) rfl rfl (x_internal_strconv_lower_ok e3 r18 hf29)) rfl ?_
          refine zl (r := ik .u8 x19) (LOp.eqr (LOp.sub rfl rfl rfl) (congrArg (ik .u8) hx30)) ?_
          refine zl (r := ik .u8 x20) (LOp.eqr (LOp.add rfl rfl rfl) (congrArg (ik .u8) hx31)) ?_
          refine za (r := ik .u8 x20) ?_
          refine zN ?_
          exact ⟨x20, ⟨aR, aR, aR, aR, aR, aR, aR, aR, aR, aR, aR, trivial⟩, trivial, h4_⟩
         ·refine RunC.regionW ?_
          refine zm (r := ik .u8 e3) ?_
          refine ROps.d (r := ik .u8 r16) (fs := []) (Γ' := []) rfl rfl rfl (TOp.callB (CallAs.func ent124 rfl rfl) (Bors.cons (Bor.pure rfl) Bors.nil) rfl rfl (x_internal_strconv_lower_ok e3 r16 hf25)) rfl ?_
          refine zl (r := b true) (LOp.eqb (LOp.leq rfl rfl rfl) hc26) ?_
          refine zm (r := b true) ?_
          refine zm (r := ik .u8 e3) ?_
          refine ROps.d (r := ik .u8 r17) (fs := []) (Γ' := []) rfl rfl rfl (TOp.callB (CallAs.func ent124 rfl rfl) (Bors.cons (Bor.pure rfl) Bors.nil) rfl rfl (x_internal_strconv_lower_ok e3 r17 hf27)) rfl ?_
          refine zl (r := b false) (LOp.eqb (LOp.leq rfl rfl rfl) hc28) ?_
          refine zl (r := b false) (LOp.pick_true rfl rfl rfl) ?_
          refine za (r := b false) ?_
          refine zN ?_
          refine RunC.wl (τ' := [(1, i64 16), (8, b false), (9, str a0), (10, ik .u64 1152921504606846976), (11, ik .u64 4294967295), (12, b false), (13, ik .u64 v1), (15, ik .u8 e3), (99, sl (bytI a0).length ((bytI a0).map (ik .u8))), (100, i64 ((bytI a0).length : Int)), (101, i64 v2), (116, ik .u8 e3), (117, b false), (121, b false), (126, ik .u8 e3), (127, ik .u8 r17), (128, b false)]) (Γ' := []) ⟨aR, aR, aR, aR, aR, aR, aR, aR, aR, aR, aR, aR, aR, aR, aR, aR, aR, trivial⟩ trivial ?_
          refine RunC.cond_false rfl rfl ?_
          refine zQ ?_
          refine zl (r := x (.iface 140 (.int .i64 2))) (LOp.mkif (v := .int .i64 2) und140 rfl rfl) ?_
          refine za (r := ik .u64 0) ?_
          refine za (r := x (.iface 140 (.int .i64 2))) ?_
          refine zN ?_
          refine RunC.ret ?_
          cases Option.some.inj h4_
          have hx9_ := hr4 _ rfl
          subst hx9_
          have hq := Option.some.inj h
          have hq := Sum.inl.inj hq
          subst q0
          exact bodyQ.pure (.inr rfl) rfl (Res.two rfl (RV.tmp rfl) (RV.tmp rfl))
        ·refine RunC.regionW ?_
         refine zm (r := ik .u8 e3) ?_
         refine ROps.d (r := ik .u8 r16) (fs := []) (Γ' := []) rfl rfl rfl (TOp.callB (CallAs.func ent124 rfl rfl) (Bors.cons (Bor.pure rfl) Bors.nil) rfl rfl (x_internal_strconv_lower_ok e3 r16 hf25)) rfl ?_
         refine zl (r := b false) (LOp.eqb (LOp.leq rfl rfl rfl) hc26) ?_
         refine zm (r := b false) ?_
         iterate 3 (refine ROps.s rfl rfl rfl ?_)
         refine zl (r := b false) (LOp.pick_false rfl rfl rfl) ?_
         refine za (r := b false) ?_
         refine zN ?_
         refine RunC.wl (τ' := [(1, i64 16), (8, b false), (9, str a0), (10, ik .u64 1152921504606846976), (11, ik .u64 4294967295), (12, b false), (13, ik .u64 v1), (15, ik .u8 e3), (99, sl (bytI a0).length ((bytI a0).map (ik .u8))), (100, i64 ((bytI a0).length : Int)), (101, i64 v2), (116, ik .u8 e3), (117, b false), (121, b false)]) (Γ' := []) ⟨aR, aR, aR, aR, aR, aR, aR, aR, aR, aR, aR, aR, aR, aR, trivial⟩ trivial ?_
         refine RunC.cond_false rfl rfl ?_
         refine zQ ?_
         refine zl (r := x (.iface 140 (.int .i64 2))) (LOp.mkif (v := .int .i64 2) und140 rfl rfl) ?_
         refine za (r := ik .u64 0) ?_
         refine za (r := x (.iface 140 (.int .i64 2))) ?_
         refine zN ?_
         refine RunC.ret ?_
         cases Option.some.inj h4_
         have hx10_ := hr4 _ rfl
         subst hx10_
         have hq := Option.some.inj h
         have hq := Sum.inl.inj hq
         subst q0
         exact bodyQ.pure (.inr rfl) rfl (Res.two rfl (RV.tmp rfl) (RV.tmp rfl))
      ·refine RunC.regionW ?_
       refine zm (r := ik .u8 e3) ?_
       refine zl (r := b false) (LOp.eqb (LOp.leq rfl rfl rfl) hc22) ?_
       refine zm (r := b false) ?_
       iterate 2 (refine ROps.s rfl rfl rfl ?_)
       refine zl (r := b false) (LOp.pick_false rfl rfl rfl) ?_
       refine za (r := b false) ?_
       refine zN ?_
       refine RunC.cond_false rfl rfl ?_
       refine RunC.seq ?_
       obtain ⟨r21, hf32, h4_⟩ := obind_some h4_
       rcases bsel_some h4_ with ⟨hc33, h4_⟩ | ⟨hc33, h4_⟩
       ·obtain ⟨r22, hf34, h4_⟩ := obind_some h4_
        rcases bsel_some h4_ with ⟨hc35, h4_⟩ | ⟨hc35, h4_⟩
        ·refine RunC.regionW ?_
         refine zm (r := ik .u8 e3) ?_
         refine ROps.d (r := ik .u8 r21) (fs := []) (Γ' := []) rfl rfl rfl (TOp.callB (CallAs.func ent124 rfl rfl) (Bors.cons (Bor.pure rfl) Bors.nil) rfl rfl (x_internal_strconv_lower_ok e3 r21 hf32)) rfl ?_
         refine zl (r := b true) (LOp.eqb (LOp.leq rfl rfl rfl) hc33) ?_
         refine zm (r := b true) ?_
         refine zm (r := ik .u8 e3) ?_
         refine ROps.d (r := ik .u8 r22) (fs := []) (Γ' := []) rfl rfl rfl (TOp.callB (CallAs.func ent124 rfl rfl) (Bors.cons (Bor.pure rfl) Bors.nil) rfl rfl (x_internal_strconv_lower_ok e3 r22 hf34)) rfl ?_
         refine zl (r := b true) (LOp.eqb (LOp.leq rfl rfl rfl) hc35) ?_
         refine zl (r := b true) (LOp.pick_true rfl rfl rfl) ?_
         refine za (r := b true) ?_
         refine zN ?_
         refine RunC.wl (τ' := [(1, i64 16), (8, b false), (9, str a0), (10, ik .u64 1152921504606846976), (11, ik .u64 4294967295), (12, b false), (13, ik .u64 v1), (15, ik .u8 e3), (99, sl (bytI a0).length ((bytI a0).map (ik .u8))), (100, i64 ((bytI a0).length : Int)), (101, i64 v2), (121, b true), (126, ik .u8 e3), (127, ik .u8 r22), (128, b true)]) (Γ' := []) ⟨aR, aR, aR, aR, aR, aR, aR, aR, aR, aR, aR, aR, aR, aR, aR, trivial⟩ trivial ?_
         refine RunC.cond_true rfl rfl ?_
         obtain ⟨r23, hf36, h4_⟩ := obind_some h4_
         obtain ⟨x24, hx37, h4_⟩ := olet_some h4_
         obtain ⟨x25, hx38, h4_⟩ := olet_some h4_
         refine RunC.regionW ?_
         refine zm (r := ik .u8 e3) ?_
         refine ROps.d (r := ik .u8 r23) (fs := []) (Γ' := []) rfl rfl rfl (TOp.callB (CallAs.func ent124 rfl rfl) (Bors.cons (Bor.pure rfl) Bors.nil) rfl rfl (x_internal_strconv_lower_ok e3 r23 hf36)) rfl ?_
         refine zl (r := ik .u8 x24) (LOp.eqr (LOp.sub rfl rfl rfl) (congrArg (ik .u8) hx37)) ?_
         refine zl (r := ik .u8 x25) (LOp.eqr (LOp.add rfl rfl rfl) (congrArg (ik .u8) hx38)) ?_
         refine za (r := ik .u8 x25) ?_
         refine zN ?_
         exact ⟨x25, ⟨aR, aR, aR, aR, aR, aR, aR, aR, aR, aR, aR, trivial⟩, trivial, h4_⟩
        ·refine RunC.regionW ?_
         refine zm (r := ik .u8 e3) ?_
         refine ROps.d (r := ik .u8 r21) (fs := []) (Γ' := []) rfl rfl rfl (TOp.callB (CallAs.func ent124 rfl rfl) (Bors.cons (Bor.pure rfl) Bors.nil) rfl rfl (x_internal_strconv_lower_ok e3 r21 hf32)) rfl ?_
         refine zl (r := b true) (LOp.eqb (LOp.leq rfl rfl rfl) hc33) ?_
         refine zm (r := b true) ?_
         refine zm (r := ik .u8 e3) ?_
         refine ROps.d (r := ik .u8 r22) (fs := []) (Γ' := []) rfl rfl rfl (TOp.callB (CallAs.func ent124 rfl rfl) (Bors.cons (Bor.pure rfl) Bors.nil) rfl rfl (x_internal_strconv_lower_ok e3 r22 hf34)) rfl ?_
         refine zl (r := b false) (LOp.eqb (LOp.leq rfl rfl rfl) hc35) ?_
         refine zl (r := b false) (LOp.pick_true rfl rfl rfl) ?_
         refine za (r := b false) ?_
         refine zN ?_
         refine RunC.wl (τ' := [(1, i64 16), (8, b false), (9, str a0), (10, ik .u64 1152921504606846976), (11, ik .u64 4294967295), (12, b false), (13, ik .u64 v1), (15, ik .u8 e3), (99, sl (bytI a0).length ((bytI a0).map (ik .u8))), (100, i64 ((bytI a0).length : Int)), (101, i64 v2), (121, b false), (126, ik .u8 e3), (127, ik .u8 r22), (128, b false)]) (Γ' := []) ⟨aR, aR, aR, aR, aR, aR, aR, aR, aR, aR, aR, aR, aR, aR, aR, trivial⟩ trivial ?_
         refine RunC.cond_false rfl rfl ?_
         refine zQ ?_
         refine zl (r := x (.iface 140 (.int .i64 2))) (LOp.mkif (v := .int .i64 2) und140 rfl rfl) ?_
         refine za (r := ik .u64 0) ?_
         refine za (r := x (.iface 140 (.int .i64 2))) ?_
         refine zN ?_
         refine RunC.ret ?_
         cases Option.some.inj h4_
         have hx11_ := hr4 _ rfl
         subst hx11_
         have hq := Option.some.inj h
         have hq := Sum.inl.inj hq
         subst q0
         exact bodyQ.pure (.inr rfl) rfl (Res.two rfl (RV.tmp rfl) (RV.tmp rfl))
       ·refine RunC.regionW ?_
        refine zm (r := ik .u8 e3) ?_
        refine ROps.d (r := ik .u8 r21) (fs := []) (Γ' := []) rfl rfl rfl (TOp.callB (CallAs.func ent124 rfl rfl) (Bors.cons (Bor.pure rfl) Bors.nil) rfl rfl (x_internal_strconv_lower_ok e3 r21 hf32)) rfl ?_
        refine zl (r := b false) (LOp.eqb (LOp.leq rfl rfl rfl) hc33) ?_
        refine zm (r := b false) ?_
        iterate 3 (refine ROps.s rfl rfl rfl ?_)
        refine zl (r := b false) (LOp.pick_false rfl rfl rfl) ?_
        refine za (r := b false) ?_
        refine zN ?_
        refine RunC.wl (τ' := [(1, i64 16), (8, b false), (9, str a0), (10, ik .u64 1152921504606846976), (11, ik .u64 4294967295), (12, b false), (13, ik .u64 v1), (15, ik .u8 e3), (99, sl (bytI a0).length ((bytI a0).map (ik .u8))), (100, i64 ((bytI a0).length : Int)), (101, i64 v2), (121, b false)]) (Γ' := []) ⟨aR, aR, aR, aR, aR, aR, aR, aR, aR, aR, aR, aR, trivial⟩ trivial ?_
        refine RunC.cond_false rfl rfl ?_
        refine zQ ?_
        refine zl (r := x (.iface 140 (.int .i64 2))) (LOp.mkif (v := .int .i64 2) und140 rfl rfl) ?_
        refine za (r := ik .u64 0) ?_
        refine za (r := x (.iface 140 (.int .i64 2))) ?_
        refine zN ?_
        refine RunC.ret ?_
        cases Option.some.inj h4_
        have hx12_ := hr4 _ rfl
        subst hx12_
        have hq := Option.some.inj h
        have hq := Sum.inl.inj hq
        subst q0
        exact bodyQ.pure (.inr rfl) rfl (Res.two rfl (RV.tmp rfl) (RV.tmp rfl))
    ·rintro τ13 Γ13 ⟨v26, hw13, hd13, h4_⟩
     refine RunC.wl hw13 hd13 ?_
     unfold x_internal_strconv_ParseUint_k2 at h4_
     iterate 2 (refine RunC.seq ?_)
     rcases bsel_some h4_ with ⟨hc39, h4_⟩ | ⟨hc39, h4_⟩
     ·refine RunC.regionW ?_
      refine zm (r := ik .u8 v26) ?_
      refine zm (r := i64 16) ?_
      refine zl (r := ik .u8 16) ((show LOp _ _ _ (ik .u8 (IntKind.u8.wrap 16)) from LOp.i2i (src := 3) (dst := 5) ⟨_, pun3⟩ pun5 rfl rfl)) ?_
      refine zl (r := b true) (LOp.eqb (LOp.geq rfl rfl rfl) hc39) ?_
      refine zN ?_
      refine RunC.cond_true rfl rfl ?_
      refine zQ ?_
      refine zl (r := x (.iface 140 (.int .i64 2))) (LOp.mkif (v := .int .i64 2) und140 rfl rfl) ?_
      refine za (r := ik .u64 0) ?_
      refine za (r := x (.iface 140 (.int .i64 2))) ?_
      refine zN ?_
      refine RunC.ret ?_
      cases Option.some.inj h4_
      have hx14_ := hr4 _ rfl
      subst hx14_
      have hq := Option.some.inj h
      have hq := Sum.inl.inj hq
      subst q0
      exact bodyQ.pure (.inr rfl) rfl (Res.two rfl (RV.tmp rfl) (RV.tmp rfl))
     ·refine RunC.regionW ?_
      refine zm (r := ik .u8 v26) ?_
      refine zm (r := i64 16) ?_
      refine zl (r := ik .u8 16) ((show LOp _ _ _ (ik .u8 (IntKind.u8.wrap 16)) from LOp.i2i (src := 3) (dst := 5) ⟨_, pun3⟩ pun5 rfl rfl)) ?_
      refine zl (r := b false) (LOp.eqb (LOp.geq rfl rfl rfl) hc39) ?_
      refine zN ?_
      refine RunC.cond_false rfl rfl ?_
      refine RunC.skip ?_
      iterate 2 (refine RunC.seq ?_)
      rcases bsel_some h4_ with ⟨hc40, h4_⟩ | ⟨hc40, h4_⟩
      ·refine RunC.regionW ?_
       refine zm (r := ik .u64 v1) ?_
       refine zm (r := ik .u64 1152921504606846976) ?_
       refine zl (r := b true) (LOp.eqb (LOp.geq rfl rfl rfl) hc40) ?_
       refine zN ?_
       refine RunC.cond_true rfl rfl ?_
       refine zQ ?_
       refine zm (r := ik .u64 4294967295) ?_
       refine zl (r := x (.iface 140 (.int .i64 1))) (LOp.mkif (v := .int .i64 1) und140 rfl rfl) ?_
       refine za (r := ik .u64 4294967295) ?_
       refine za (r := x (.iface 140 (.int .i64 1))) ?_
       refine zN ?_
       cases Option.some.inj h4_
       have hx15_ := hr4 _ rfl
       subst hx15_
       cases Option.some.inj h
      ·refine RunC.regionW ?_
       refine zm (r := ik .u64 v1) ?_
       refine zm (r := ik .u64 1152921504606846976) ?_
       refine zl (r := b false) (LOp.eqb (LOp.geq rfl rfl rfl) hc40) ?_
       refine zN ?_
       refine RunC.cond_false rfl rfl ?_
       refine RunC.skip ?_
       refine RunC.seq ?_
       obtain ⟨x27, hx41, h4_⟩ := olet_some h4_
       refine RunC.regionW ?_
       refine zm (r := ik .u64 v1) ?_
       refine zm (r := i64 16) ?_
       refine zl (r := ik .u64 16) ((show LOp _ _ _ (ik .u64 (IntKind.u64.wrap 16)) from LOp.i2i (src := 3) (dst := 90) ⟨_, pun3⟩ pun90 rfl rfl)) ?_
       refine zl (r := ik .u64 x27) (LOp.eqr (LOp.mul rfl rfl rfl) (congrArg (ik .u64) hx41)) ?_
       refine za (r := ik .u64 x27) ?_
       refine zN ?_
       refine RunC.seq ?_
       obtain ⟨x28, hx42, h4_⟩ := olet_some h4_
       obtain ⟨x29, hx43, h4_⟩ := olet_some h4_
       refine RunC.regionW ?_
       refine zm (r := ik .u64 x27) ?_
       refine zm (r := ik .u8 v26) ?_
       refine zl (r := ik .u64 x28) (LOp.eqr (LOp.i2i (src := 5) (dst := 90) ⟨_, pun5⟩ pun90 rfl rfl) (congrArg (ik .u64) hx42)) ?_
       refine zl (r := ik .u64 x29) (LOp.eqr (LOp.add rfl rfl rfl) (congrArg (ik .u64) hx43)) ?_
       refine za (r := ik .u64 x29) ?_
       refine zN ?_
       iterate 2 (refine RunC.seq ?_)
       rcases bsel_some h4_ with ⟨hc44, h4_⟩ | ⟨hc44, h4_⟩
       ·refine RunC.regionW ?_
        refine zm (r := ik .u64 x29) ?_
        refine zm (r := ik .u64 x27) ?_
        refine zl (r := b true) (LOp.eqb (LOp.lss rfl rfl rfl) hc44) ?_
        refine zm (r := b true) ?_
        iterate 3 (refine ROps.s rfl rfl rfl ?_)
        refine zl (r := b true) (LOp.pick_true rfl rfl rfl) ?_
        refine zN ?_
        refine RunC.cond_true rfl rfl ?_
        refine zQ ?_
        refine zm (r := ik .u64 4294967295) ?_
        refine zl (r := x (.iface 140 (.int .i64 1))) (LOp.mkif (v := .int .i64 1) und140 rfl rfl) ?_
        refine za (r := ik .u64 4294967295) ?_
        refine za (r := x (.iface 140 (.int .i64 1))) ?_
        refine zN ?_
        cases Option.some.inj h4_
        have hx16_ := hr4 _ rfl
        subst hx16_
        cases Option.some.inj h
       ·rcases bsel_some h4_ with ⟨hc45, h4_⟩ | ⟨hc45, h4_⟩
        ·refine RunC.regionW ?_
         refine zm (r := ik .u64 x29) ?_
         refine zm (r := ik .u64 x27) ?_
         refine zl (r := b false) (LOp.eqb (LOp.lss rfl rfl rfl) hc44) ?_
         refine zm (r := b false) ?_
         refine zm (r := ik .u64 x29) ?_
         refine zm (r := ik .u64 4294967295) ?_
         refine zl (r := b true) (LOp.eqb (LOp.gtr rfl rfl rfl) hc45) ?_
         refine zl (r := b true) (LOp.pick_false rfl rfl rfl) ?_
         refine zN ?_
         refine RunC.cond_true rfl rfl ?_
         refine zQ ?_
         refine zm (r := ik .u64 4294967295) ?_
         refine zl (r := x (.iface 140 (.int .i64 1))) (LOp.mkif (v := .int .i64 1) und140 rfl rfl) ?_
         refine za (r := ik .u64 4294967295) ?_
         refine za (r := x (.iface 140 (.int .i64 1))) ?_
         refine zN ?_
         cases Option.some.inj h4_
         have hx17_ := hr4 _ rfl
         subst hx17_
         cases Option.some.inj h
        ·refine RunC.regionW ?_
         refine zm (r := ik .u64 x29) ?_
         refine zm (r := ik .u64 x27) ?_
         refine zl (r := b false) (LOp.eqb (LOp.lss rfl rfl rfl) hc44) ?_
         refine zm (r := b false) ?_
         refine zm (r := ik .u64 x29) ?_
         refine zm (r := ik .u64 4294967295) ?_
         refine zl (r := b false) (LOp.eqb (LOp.gtr rfl rfl rfl) hc45) ?_
         refine zl (r := b false) (LOp.pick_false rfl rfl rfl) ?_
         refine zN ?_
         refine RunC.cond_false rfl rfl ?_
         refine RunC.skip ?_
         refine RunC.wl (τ' := [(1, i64 16), (8, b false), (9, str a0), (10, ik .u64 1152921504606846976), (11, ik .u64 4294967295), (12, b false), (17, ik .u64 x29), (99, sl (bytI a0).length ((bytI a0).map (ik .u8))), (100, i64 ((bytI a0).length : Int)), (101, i64 v2), (156, ik .u64 x29), (157, ik .u64 4294967295), (158, b false)]) (Γ' := []) ⟨aR, aR, aR, aR, aR, aR, aR, aR, aR, aR, aR, aR, aR, trivial⟩ trivial ?_
         refine RunC.regionW ?_
         refine zm (r := ik .u64 x29) ?_
         refine za (r := ik .u64 x29) ?_
         refine zN ?_
         obtain ⟨x30, hx46, h4_⟩ := olet_some h4_
         refine RunC.regionW ?_
         refine zl (r := i64 x30) (LOp.eqr (LOp.add rfl rfl rfl) (congrArg (ik .i64) hx46)) ?_
         refine zm (r := i64 x30) ?_
         refine zN ?_
         cases Option.some.inj h4_
         exact ⟨_, rfl, ⟨aR, aR, aR, aR, aR, aR, aR, aR, aR, aR, trivial⟩, trivial⟩
   ·refine RunC.regionW ?_
    refine zl (r := b false) (LOp.eqb (LOp.lss rfl rfl rfl) hc2) ?_
    refine zN ?_
    refine RunC.seq ?_
    refine RunC.cond_false rfl rfl ?_
    refine RunC.exit ?_
    cases Option.some.inj h4_
    have hx := ho4 _ rfl
    exact ⟨v1, ⟨aR, aR, aR, trivial⟩, trivial, hx⟩
  ·rintro τ18 Γ18 ⟨v31, hw18, hd18, rfl⟩
   refine RunC.wl hw18 hd18 ?_
   replace h : x_internal_strconv_ParseUint_k3 v31 = some (Sum.inl q0) := h
   unfold x_internal_strconv_ParseUint_k3 at h
   refine RunC.seq ?_
   refine zQ ?_
   iterate 2 (refine zm (r := b false) ?_)
   iterate 3 (refine ROps.s rfl rfl rfl ?_)
   refine zl (r := b false) (LOp.pick_false rfl rfl rfl) ?_
   refine zN ?_
   refine RunC.cond_false rfl rfl ?_
   refine RunC.skip ?_
   refine zQ ?_
   refine zm (r := ik .u64 v31) ?_
   refine za (r := ik .u64 v31) ?_
   refine za (r := x .nilIface) ?_
   refine zN ?_
   cases Option.some.inj h
theorem x_internal_strconv_ParseUint_ok1 (a0 : ByteArray) (q0 : Int) (h : x_internal_strconv_ParseUint a0 = some (Sum.inr (Sum.inl q0))) : Ev Tryz.prog 104 [str a0, i64 16, i64 32] [] (tup [ik .u64 q0, x (.iface 140 (.int .i64 1))]) [] := by
 refine Ev.start Tryz.func104 rfl rfl 0 (τ := [(0, str a0), (1, i64 16), (2, i64 32)]) rfl (Γ' := []) rfl (n := 345) rfl (g := 0) rfl (fun _ => rfl) ?_
 unfold x_internal_strconv_ParseUint at h
 refine zQ ?_
 refine za (r := ik .u64 0) ?_
 refine za (r := x .nilIface) ?_
 refine zN ?_
 iterate 2 (refine RunC.seq ?_)
 rcases bsel_some h with ⟨hc1, h⟩ | ⟨hc1, h⟩
 ·refine RunC.regionW ?_
  refine zm (r := str a0) ?_
  refine zl (r := b true) (LOp.eqb (LOp.eqs rfl rfl rfl) hc1) ?_
  refine zN ?_
  refine RunC.cond_true rfl rfl ?_
  refine zQ ?_
  refine zl (r := x (.iface 140 (.int .i64 2))) (LOp.mkif (v := .int .i64 2) und140 rfl rfl) ?_
  refine za (r := ik .u64 0) ?_
  refine za (r := x (.iface 140 (.int .i64 2))) ?_
  refine zN ?_
  cases Option.some.inj h
 ·refine RunC.regionW ?_
  refine zm (r := str a0) ?_
  refine zl (r := b false) (LOp.eqb (LOp.eqs rfl rfl rfl) hc1) ?_
  refine zN ?_
  refine RunC.cond_false rfl rfl ?_
  refine RunC.skip ?_
  refine zQ ?_
  refine zm (r := i64 16) ?_
  refine zl (r := b false) ((show LOp _ _ _ (b (decide ((16 : Int) = 0))) from LOp.eql rfl rfl rfl)) ?_
  refine za (r := b false) ?_
  refine zN ?_
  refine zQ ?_
  refine zm (r := str a0) ?_
  refine za (r := str a0) ?_
  refine zN ?_
  refine RunC.seq ?_
  refine RunC.block ?_
  refine zQ ?_
  refine zm (r := i64 16) ?_
  refine zl (r := b true) ((show LOp _ _ _ (b (decide ((2 : Int) ≤ 16))) from LOp.leq rfl rfl rfl)) ?_
  refine zm (r := b true) ?_
  refine zm (r := i64 16) ?_
  refine zl (r := b true) ((show LOp _ _ _ (b (decide ((16 : Int) ≤ 36))) from LOp.leq rfl rfl rfl)) ?_
  refine zl (r := b true) (LOp.pick_true rfl rfl rfl) ?_
  refine za (r := b true) ?_
  refine zN ?_
  refine RunC.cond_true rfl rfl ?_
  refine RunC.skip ?_
  refine RunC.seq ?_
  refine zQ ?_
  refine zm (r := i64 32) ?_
  refine zl (r := b false) ((show LOp _ _ _ (b (decide ((32 : Int) = 0))) from LOp.eql rfl rfl rfl)) ?_
  refine zN ?_
  refine RunC.cond_false rfl rfl ?_
  refine zQ ?_
  refine zm (r := i64 32) ?_
  refine zl (r := b false) ((show LOp _ _ _ (b (decide ((32 : Int) < 0))) from LOp.lss rfl rfl rfl)) ?_
  refine zm (r := b false) ?_
  refine zm (r := i64 32) ?_
  refine zl (r := b false) ((show LOp _ _ _ (b (decide ((64 : Int) < 32))) from LOp.gtr rfl rfl rfl)) ?_
  refine zl (r := b false) (LOp.pick_false rfl rfl rfl) ?_
  refine zN ?_
  refine RunC.cond_false rfl rfl ?_
  refine RunC.skip ?_
  refine zQ ?_
  refine za (r := ik .u64 0) ?_
  refine zN ?_
  refine RunC.seq ?_
  refine zQ ?_
  refine zm (r := i64 16) ?_
  refine zN ?_
  refine RunC.block ?_
  refine zQ ?_
  refine zl (r := b false) ((show LOp _ _ _ (b (decide ((16 : Int) = 10))) from LOp.eql rfl rfl rfl)) ?_
  refine za (r := b false) ?_
  refine zN ?_
  refine RunC.cond_false rfl rfl ?_
  refine zQ ?_
  refine zl (r := b true) ((show LOp _ _ _ (b (decide ((16 : Int) = 16))) from LOp.eql rfl rfl rfl)) ?_
  refine za (r := b true) ?_
  refine zN ?_
  refine RunC.wl (τ' := [(0, str a0), (1, i64 16), (2, i64 32), (8, b false), (9, str a0), (92, b true)]) (Γ' := []) ⟨aR, aR, aR, aR, aR, aR, trivial⟩ trivial ?_
  refine RunC.cond_true rfl rfl ?_
  refine RunC.regionW ?_
  refine za (r := ik .u64 1152921504606846976) ?_
  refine zN ?_
  refine zQ ?_
  refine zm (r := i64 32) ?_
  refine zl (r := ik .u64 32) ((show LOp _ _ _ (ik .u64 (IntKind.u64.wrap 32)) from LOp.i2i (src := 3) (dst := 106) ⟨_, pun3⟩ pun106 rfl rfl)) ?_
  refine zl (r := ik .u64 4294967296) ((show LOp _ _ _ (ik .u64 (ishl .u64 1 32)) from LOp.shl rfl rfl rfl (by decide))) ?_
  refine zl (r := ik .u64 4294967295) ((show LOp _ _ _ (ik .u64 (IntKind.u64.wrap (4294967296 - 1))) from LOp.sub rfl rfl rfl)) ?_
  refine za (r := ik .u64 4294967295) ?_
  refine zN ?_
  refine zQ ?_
  refine za (r := b false) ?_
  refine zN ?_
  refine zQ ?_
  refine za (r := ik .u64 0) ?_
  refine zN ?_
  refine RunC.seq ?_
  refine zQ ?_
  refine zm (r := str a0) ?_
  refine ROps.d (r := sl (bytI a0).length ((bytI a0).map (ik .u8))) (fs := []) (Γ' := []) rfl rfl rfl (TOp.s2b pun9 pun22 pun5 rfl rfl) rfl ?_
  refine zl (r := i64 ((bytI a0).length : Int)) (LOp.len_sl und22 rfl rfl) ?_
  refine zm (r := i64 0) ?_
  refine zN ?_
  obtain ⟨z19, hz_19, h⟩ := obind_some h
  refine RunC.cutN (fun τ Γ => ∃ (v31 : Int), WeakLe τ [(9, str a0), (12, b false), (13, ik .u64 v31)] ∧ DeadLe Γ [] ∧ z19 = .inl v31) ?_ ?_
  ·refine RunC.block (RunC.loop (RunL.loopM (x := z19) (x_internal_strconv_ParseUint_s3 a0) (fun (s : Int × Int) τ Γ => WeakLe τ [(1, i64 16), (8, b false), (9, str a0), (10, ik .u64 1152921504606846976), (11, ik .u64 4294967295), (12, b false), (13, ik .u64 s.1), (99, sl (bytI a0).length ((bytI a0).map (ik .u8))), (100, i64 ((bytI a0).length : Int)), (101, i64 s.2)] ∧ DeadLe Γ []) ?_ _ _ _ hz_19 ⟨⟨aR, aR, aR, aR, aR, aR, aR, aR, aR, aR, trivial⟩, trivial⟩))
   rintro ⟨v1, v2⟩ τ19 Γ19 y19_ ⟨hw19, hd19⟩ h19_ ho19 hr19
   refine RunC.wl (τ' := [(1, i64 16), (8, b false), (9, str a0), (10, ik .u64 1152921504606846976), (11, ik .u64 4294967295), (12, b false), (13, ik .u64 v1), (99, sl (bytI a0).length ((bytI a0).map (ik .u8))), (100, i64 ((bytI a0).length : Int)), (101, i64 v2)]) (Γ' := []) hw19 hd19 ?_
   replace h19_ : x_internal_strconv_ParseUint_b3 a0 v1 v2 = some y19_ := h19_
   unfold x_internal_strconv_ParseUint_b3 at h19_
   refine RunC.seq ?_
   rcases bsel_some h19_ with ⟨hc2, h19_⟩ | ⟨hc2, h19_⟩
   ·refine RunC.regionW ?_
    refine zl (r := b true) (LOp.eqb (LOp.lss rfl rfl rfl) hc2) ?_
    refine zN ?_
    refine RunC.seq ?_
    refine RunC.cond_true rfl rfl ?_
    refine RunC.skip ?_
    refine RunC.seq ?_
    refine RunC.block ?_
    refine RunC.seq ?_
    obtain ⟨e3, he3, h19_⟩ := obind_some h19_
    refine RunC.regionW ?_
    refine zl (r := ptr [ik .u8 e3]) (LOp.le (LOp.ix (f := (ik .u8)) und22 siz5 rfl rfl rfl rfl he3) ALe.ptr) ?_
    refine zl (r := ik .u8 e3) (LOp.load1 agg5 rfl rfl) ?_
    refine za (r := ik .u8 e3) ?_
    refine zN ?_
    refine zQ ?_
    refine za (r := ik .u8 0) ?_
    refine zN ?_
    refine RunC.seq ?_
    refine RunC.cutN (fun τ Γ => ∃ (v26 : Int), WeakLe τ [(1, i64 16), (8, b false), (9, str a0), (10, ik .u64 1152921504606846976), (11, ik .u64 4294967295), (12, b false), (13, ik .u64 v1), (16, ik .u8 v26), (99, sl (bytI a0).length ((bytI a0).map (ik .u8))), (100, i64 ((bytI a0).length : Int)), (101, i64 v2)] ∧ DeadLe Γ [] ∧ x_internal_strconv_ParseUint_k2 v1 v2 v26 = some y19_) ?_ ?_
    ·refine RunC.block ?_
     refine RunC.seq ?_
     rcases bsel_some h19_ with ⟨hc4, h19_⟩ | ⟨hc4, h19_⟩
     ·refine RunC.regionW ?_
      refine zm (r := ik .u8 e3) ?_
      refine zl (r := b true) (LOp.eqb (LOp.eql rfl rfl rfl) hc4) ?_
      refine zm (r := b true) ?_
      refine zm (r := b false) ?_
      refine zl (r := b false) (LOp.pick_true rfl rfl rfl) ?_
      refine za (r := b false) ?_
      refine zN ?_
      refine RunC.cond_false rfl rfl ?_
      refine RunC.seq ?_
      rcases bsel_some h19_ with ⟨hc5, h19_⟩ | ⟨hc5, h19_⟩
      ·rcases bsel_some h19_ with ⟨hc6, h19_⟩ | ⟨hc6, h19_⟩
       ·refine RunC.regionW ?_
        refine zm (r := ik .u8 e3) ?_
        refine zl (r := b true) (LOp.eqb (LOp.leq rfl rfl rfl) hc5) ?_
        refine zm (r := b true) ?_
        refine zm (r := ik .u8 e3) ?_
        refine zl (r := b true) (LOp.eqb (LOp.leq rfl rfl rfl) hc6) ?_
        refine zl (r := b true) (LOp.pick_true rfl rfl rfl) ?_
        refine za (r := b true) ?_
        refine zN ?_
        refine RunC.cond_true rfl rfl ?_
        obtain ⟨x4, hx7, h19_⟩ := olet_some h19_
        refine RunC.regionW ?_
        refine zm (r := ik .u8 e3) ?_
        refine zl (r := ik .u8 x4) (LOp.eqr (LOp.sub rfl rfl rfl) (congrArg (ik .u8) hx7)) ?_
        refine za (r := ik .u8 x4) ?_
        refine zN ?_
        exact ⟨x4, ⟨aR, aR, aR, aR, aR, aR, aR, aR, aR, aR, aR, trivial⟩, trivial, h19_⟩
       ·refine RunC.regionW ?_
        refine zm (r := ik .u8 e3) ?_
        refine zl (r := b true) (LOp.eqb (LOp.leq rfl rfl rfl) hc5) ?_
        refine zm (r := b true) ?_
        refine zm (r := ik .u8 e3) ?_
        refine zl (r := b false) (LOp.eqb (LOp.leq rfl rfl rfl) hc6) ?_
        refine zl (r := b false) (LOp.pick_true rfl rfl rfl) ?_
        refine za (r := b false) ?_
        refine zN ?_
        refine RunC.cond_false rfl rfl ?_
        refine RunC.seq ?_
        obtain ⟨r5, hf8, h19_⟩ := obind_some h19_
        rcases bsel_some h19_ with ⟨hc9, h19_⟩ | ⟨hc9, h19_⟩
        ·obtain ⟨r6, hf10, h19_⟩ := obind_some h19_
         rcases bsel_some h19_ with ⟨hc11, h19_⟩ | ⟨hc11, h19_⟩
         ·refine RunC.regionW ?_
          refine zm (r := ik .u8 e3) ?_
          refine ROps.d (r := ik .u8 r5) (fs := []) (Γ' := []) rfl rfl rfl (TOp.callB (CallAs.func ent124 rfl rfl) (Bors.cons (Bor.pure rfl) Bors.nil) rfl rfl (x_internal_strconv_lower_ok e3 r5 hf8)) rfl ?_
          refine zl (r := b true) (LOp.eqb (LOp.leq rfl rfl rfl) hc9) ?_
          refine zm (r := b true) ?_
          refine zm (r := ik .u8 e3) ?_
          refine ROps.d (r := ik .u8 r6) (fs := []) (Γ' := []) rfl rfl rfl (TOp.callB (CallAs.func ent124 rfl rfl) (Bors.cons (Bor.pure rfl) Bors.nil) rfl rfl (x_internal_strconv_lower_ok e3 r6 hf10)) rfl ?_
          refine zl (r := b true) (LOp.eqb (LOp.leq rfl rfl rfl) hc11) ?_
          refine zl (r := b true) (LOp.pick_true rfl rfl rfl) ?_
          refine za (r := b true) ?_
          refine zN ?_
          refine RunC.wl (τ' := [(1, i64 16), (8, b false), (9, str a0), (10, ik .u64 1152921504606846976), (11, ik .u64 4294967295), (12, b false), (13, ik .u64 v1), (15, ik .u8 e3), (99, sl (bytI a0).length ((bytI a0).map (ik .u8))), (100, i64 ((bytI a0).length : Int)), (101, i64 v2), (110, b false), (116, ik .u8 e3), (117, b false), (121, b true), (126, ik .u8 e3), (127, ik .u8 r6), (128, b true)]) (Γ' := []) ⟨aR, aR, aR, aR, aR, aR, aR, aR, aR, aR, aR, aR, aR, aR, aR, aR, aR, aR, trivial⟩ trivial ?_
          refine RunC.cond_true rfl rfl ?_
          obtain ⟨r7, hf12, h19_⟩ := obind_some h19_
          obtain ⟨x8, hx13, h19_⟩ := olet_some h19_
          obtain ⟨x9, hx14, h19_⟩ := olet_some h19_
          refine RunC.regionW ?_
          refine zm (r := ik .u8 e3) ?_
          refine ROps.d (r := ik .u8 r7) (fs := []) (Γ' := []) rfl rfl rfl (TOp.callB (CallAs.func ent124 rfl rfl) (Bors.cons (Bor.pure rfl) Bors.nil) rfl rfl (x_internal_strconv_lower_ok e3 r7 hf12)) rfl ?_
          refine zl (r := ik .u8 x8) (LOp.eqr (LOp.sub rfl rfl rfl) (congrArg (ik .u8) hx13)) ?_
          refine zl (r := ik .u8 x9) (LOp.eqr (LOp.add rfl rfl rfl) (congrArg (ik .u8) hx14)) ?_
          refine za (r := ik .u8 x9) ?_
          refine zN ?_
          exact ⟨x9, ⟨aR, aR, aR, aR, aR, aR, aR, aR, aR, aR, aR, trivial⟩, trivial, h19_⟩
         ·refine RunC.regionW ?_
          refine zm (r := ik .u8 e3) ?_
          refine ROps.d (r := ik .u8 r5) (fs := []) (Γ' := []) rfl rfl rfl (TOp.callB (CallAs.func ent124 rfl rfl) (Bors.cons (Bor.pure rfl) Bors.nil) rfl rfl (x_internal_strconv_lower_ok e3 r5 hf8)) rfl ?_
          refine zl (r := b true) (LOp.eqb (LOp.leq rfl rfl rfl) hc9) ?_
          refine zm (r := b true) ?_
          refine zm (r := ik .u8 e3) ?_
          refine ROps.d (r := ik .u8 r6) (fs := []) (Γ' := []) rfl rfl rfl (TOp.callB (CallAs.func ent124 rfl rfl) (Bors.cons (Bor.pure rfl) Bors.nil) rfl rfl (x_internal_strconv_lower_ok e3 r6 hf10)) rfl ?_
          refine zl (r := b false) (LOp.eqb (LOp.leq rfl rfl rfl) hc11) ?_
          refine zl (r := b false) (LOp.pick_true rfl rfl rfl) ?_
          refine za (r := b false) ?_
          refine zN ?_
          refine RunC.wl (τ' := [(1, i64 16), (8, b false), (9, str a0), (10, ik .u64 1152921504606846976), (11, ik .u64 4294967295), (12, b false), (13, ik .u64 v1), (15, ik .u8 e3), (99, sl (bytI a0).length ((bytI a0).map (ik .u8))), (100, i64 ((bytI a0).length : Int)), (101, i64 v2), (110, b false), (116, ik .u8 e3), (117, b false), (121, b false), (126, ik .u8 e3), (127, ik .u8 r6), (128, b false)]) (Γ' := []) ⟨aR, aR, aR, aR, aR, aR, aR, aR, aR, aR, aR, aR, aR, aR, aR, aR, aR, aR, trivial⟩ trivial ?_
          refine RunC.cond_false rfl rfl ?_
          refine zQ ?_
          refine zl (r := x (.iface 140 (.int .i64 2))) (LOp.mkif (v := .int .i64 2) und140 rfl rfl) ?_
          refine za (r := ik .u64 0) ?_
          refine za (r := x (.iface 140 (.int .i64 2))) ?_
          refine zN ?_
          cases Option.some.inj h19_
          have hx20_ := hr19 _ rfl
          subst hx20_
          cases Option.some.inj h
        ·refine RunC.regionW ?_
         refine zm (r := ik .u8 e3) ?_
         refine ROps.d (r := ik .u8 r5) (fs := []) (Γ' := []) rfl rfl rfl (TOp.callB (CallAs.func ent124 rfl rfl) (Bors.cons (Bor.pure rfl) Bors.nil) rfl rfl (x_internal_strconv_lower_ok e3 r5 hf8)) rfl ?_
         refine zl (r := b false) (LOp.eqb (LOp.leq rfl rfl rfl) hc9) ?_
         refine zm (r := b false) ?_
         iterate 3 (refine ROps.s rfl rfl rfl ?_)
         refine zl (r := b false) (LOp.pick_false rfl rfl rfl) ?_
         refine za (r := b false) ?_
         refine zN ?_
         refine RunC.wl (τ' := [(1, i64 16), (8, b false), (9, str a0), (10, ik .u64 1152921504606846976), (11, ik .u64 4294967295), (12, b false), (13, ik .u64 v1), (15, ik .u8 e3), (99, sl (bytI a0).length ((bytI a0).map (ik .u8))), (100, i64 ((bytI a0).length : Int)), (101, i64 v2), (110, b false), (116, ik .u8 e3), (117, b false), (121, b false)]) (Γ' := []) ⟨aR, aR, aR, aR, aR, aR, aR, aR, aR, aR, aR, aR, aR, aR, aR, trivial⟩ trivial ?_
         refine RunC.cond_false rfl rfl ?_
         refine zQ ?_
         refine zl (r := x (.iface 140 (.int .i64 2))) (LOp.mkif (v := .int .i64 2) und140 rfl rfl) ?_
         refine za (r := ik .u64 0) ?_
         refine za (r := x (.iface 140 (.int .i64 2))) ?_
         refine zN ?_
         cases Option.some.inj h19_
         have hx21_ := hr19 _ rfl
         subst hx21_
         cases Option.some.inj h
      ·refine RunC.regionW ?_
       refine zm (r := ik .u8 e3) ?_
       refine zl (r := b false) (LOp.eqb (LOp.leq rfl rfl rfl) hc5) ?_
       refine zm (r := b false) ?_
       iterate 2 (refine ROps.s rfl rfl rfl ?_)
       refine zl (r := b false) (LOp.pick_false rfl rfl rfl) ?_
       refine za (r := b false) ?_
       refine zN ?_
       refine RunC.cond_false rfl rfl ?_
       refine RunC.seq ?_
       obtain ⟨r10, hf15, h19_⟩ := obind_some h19_
       rcases bsel_some h19_ with ⟨hc16, h19_⟩ | ⟨hc16, h19_⟩
       ·obtain ⟨r11, hf17, h19_⟩ := obind_some h19_
        rcases bsel_some h19_ with ⟨hc18, h19_⟩ | ⟨hc18, h19_⟩
        ·refine RunC.regionW ?_
         refine zm (r := ik .u8 e3) ?_
         refine ROps.d (r := ik .u8 r10) (fs := []) (Γ' := []) rfl rfl rfl (TOp.callB (CallAs.func ent124 rfl rfl) (Bors.cons (Bor.pure rfl) Bors.nil) rfl rfl (x_internal_strconv_lower_ok e3 r10 hf15)) rfl ?_
         refine zl (r := b true) (LOp.eqb (LOp.leq rfl rfl rfl) hc16) ?_
         refine zm (r := b true) ?_
         refine zm (r := ik .u8 e3) ?_
         refine ROps.d (r := ik .u8 r11) (fs := []) (Γ' := []) rfl rfl rfl (TOp.callB (CallAs.func ent124 rfl rfl) (Bors.cons (Bor.pure rfl) Bors.nil) rfl rfl (x_internal_strconv_lower_ok e3 r11 hf17)) rfl ?_
         refine zl (r := b true) (LOp.eqb (LOp.leq rfl rfl rfl) hc18) ?_
         refine zl (r := b true) (LOp.pick_true rfl rfl rfl) ?_
         refine za (r := b true) ?_
         refine zN ?_
         refine RunC.wl (τ' := [(1, i64 16), (8, b false), (9, str a0), (10, ik .u64 1152921504606846976), (11, ik .u64 4294967295), (12, b false), (13, ik .u64 v1), (15, ik .u8 e3), (99, sl (bytI a0).length ((bytI a0).map (ik .u8))), (100, i64 ((bytI a0).length : Int)), (101, i64 v2), (110, b false), (121, b true), (126, ik .u8 e3), (127, ik .u8 r11), (128, b true)]) (Γ' := []) ⟨aR, aR, aR, aR, aR, aR, aR, aR, aR, aR, aR, aR, aR, aR, aR, aR, trivial⟩ trivial ?_
         refine RunC.cond_true rfl rfl ?_
         obtain ⟨r12, hf19, h19_⟩ := obind_some h19_
         obtain ⟨x13, hx20, h19_⟩ := olet_some h19_
         obtain ⟨x14, hx21, h19_⟩ := olet_some h19_
         refine RunC.regionW ?_
         refine zm (r := ik .u8 e3) ?_
         refine ROps.d (r := ik .u8 r12) (fs := []) (Γ' := []) rfl rfl rfl (TOp.callB (CallAs.func ent124 rfl rfl) (Bors.cons (Bor.pure rfl) Bors.nil) rfl rfl (x_internal_strconv_lower_ok e3 r12 hf19)) rfl ?_
         refine zl (r := ik .u8 x13) (LOp.eqr (LOp.sub rfl rfl rfl) (congrArg (ik .u8) hx20)) ?_
         refine zl (r := ik .u8 x14) (LOp.eqr (LOp.add rfl rfl rfl) (congrArg (ik .u8) hx21)) ?_
         refine za (r := ik .u8 x14) ?_
         refine zN ?_
         exact ⟨x14, ⟨aR, aR, aR, aR, aR, aR, aR, aR, aR, aR, aR, trivial⟩, trivial, h19_⟩
        ·refine RunC.regionW ?_
         refine zm (r := ik .u8 e3) ?_
         refine ROps.d (r := ik .u8 r10) (fs := []) (Γ' := []) rfl rfl rfl (TOp.callB (CallAs.func ent124 rfl rfl) (Bors.cons (Bor.pure rfl) Bors.nil) rfl rfl (x_internal_strconv_lower_ok e3 r10 hf15)) rfl ?_
         refine zl (r := b true) (LOp.eqb (LOp.leq rfl rfl rfl) hc16) ?_
         refine zm (r := b true) ?_
         refine zm (r := ik .u8 e3) ?_
         refine ROps.d (r := ik .u8 r11) (fs := []) (Γ' := []) rfl rfl rfl (TOp.callB (CallAs.func ent124 rfl rfl) (Bors.cons (Bor.pure rfl) Bors.nil) rfl rfl (x_internal_strconv_lower_ok e3 r11 hf17)) rfl ?_
         refine zl (r := b false) (LOp.eqb (LOp.leq rfl rfl rfl) hc18) ?_
         refine zl (r := b false) (LOp.pick_true rfl rfl rfl) ?_
         refine za (r := b false) ?_
         refine zN ?_
         refine RunC.wl (τ' := [(1, i64 16), (8, b false), (9, str a0), (10, ik .u64 1152921504606846976), (11, ik .u64 4294967295), (12, b false), (13, ik .u64 v1), (15, ik .u8 e3), (99, sl (bytI a0).length ((bytI a0).map (ik .u8))), (100, i64 ((bytI a0).length : Int)), (101, i64 v2), (110, b false), (121, b false), (126, ik .u8 e3), (127, ik .u8 r11), (128, b false)]) (Γ' := []) ⟨aR, aR, aR, aR, aR, aR, aR, aR, aR, aR, aR, aR, aR, aR, aR, aR, trivial⟩ trivial ?_
         refine RunC.cond_false rfl rfl ?_
         refine zQ ?_
         refine zl (r := x (.iface 140 (.int .i64 2))) (LOp.mkif (v := .int .i64 2) und140 rfl rfl) ?_
         refine za (r := ik .u64 0) ?_
         refine za (r := x (.iface 140 (.int .i64 2))) ?_
         refine zN ?_
         cases Option.some.inj h19_
         have hx22_ := hr19 _ rfl
         subst hx22_
         cases Option.some.inj h
       ·refine RunC.regionW ?_
        refine zm (r := ik .u8 e3) ?_
        refine ROps.d (r := ik .u8 r10) (fs := []) (Γ' := []) rfl rfl rfl (TOp.callB (CallAs.func ent124 rfl rfl) (Bors.cons (Bor.pure rfl) Bors.nil) rfl rfl (x_internal_strconv_lower_ok e3 r10 hf15)) rfl ?_
        refine zl (r := b false) (LOp.eqb (LOp.leq rfl rfl rfl) hc16) ?_
        refine zm (r := b false) ?_
        iterate 3 (refine ROps.s rfl rfl rfl ?_)
        refine zl (r := b false) (LOp.pick_false rfl rfl rfl) ?_
        refine za (r := b false) ?_
        refine zN ?_
        refine RunC.wl (τ' := [(1, i64 16), (8, b false), (9, str a0), (10, ik .u64 1152921504606846976), (11, ik .u64 4294967295), (12, b false), (13, ik .u64 v1), (15, ik .u8 e3), (99, sl (bytI a0).length ((bytI a0).map (ik .u8))), (100, i64 ((bytI a0).length : Int)), (101, i64 v2), (110, b false), (121, b false)]) (Γ' := []) ⟨aR, aR, aR, aR, aR, aR, aR, aR, aR, aR, aR, aR, aR, trivial⟩ trivial ?_
        refine RunC.cond_false rfl rfl ?_
        refine zQ ?_
        refine zl (r := x (.iface 140 (.int .i64 2))) (LOp.mkif (v := .int .i64 2) und140 rfl rfl) ?_
        refine za (r := ik .u64 0) ?_
        refine za (r := x (.iface 140 (.int .i64 2))) ?_
        refine zN ?_
        cases Option.some.inj h19_
        have hx23_ := hr19 _ rfl
        subst hx23_
        cases Option.some.inj h
     ·refine RunC.regionW ?_
      refine zm (r := ik .u8 e3) ?_
      refine zl (r := b false) (LOp.eqb (LOp.eql rfl rfl rfl) hc4) ?_
      refine zm (r := b false) ?_
      refine ROps.s rfl rfl rfl ?_
      refine zl (r := b false) (LOp.pick_false rfl rfl rfl) ?_
      refine za (r := b false) ?_
      refine zN ?_
      refine RunC.cond_false rfl rfl ?_
      refine RunC.seq ?_
      rcases bsel_some h19_ with ⟨hc22, h19_⟩ | ⟨hc22, h19_⟩
      ·rcases bsel_some h19_ with ⟨hc23, h19_⟩ | ⟨hc23, h19_⟩
       ·refine RunC.regionW ?_
        refine zm (r := ik .u8 e3) ?_
        refine zl (r := b true) (LOp.eqb (LOp.leq rfl rfl rfl) hc22) ?_
        refine zm (r := b true) ?_
        refine zm (r := ik .u8 e3) ?_
        refine zl (r := b true) (LOp.eqb (LOp.leq rfl rfl rfl) hc23) ?_
        refine zl (r := b true) (LOp.pick_true rfl rfl rfl) ?_
        refine za (r := b true) ?_
        refine zN ?_
        refine RunC.cond_true rfl rfl ?_
        obtain ⟨x15, hx24, h19_⟩ := olet_some h19_
        refine RunC.regionW ?_
        refine zm (r := ik .u8 e3) ?_
        refine zl (r := ik .u8 x15) (LOp.eqr (LOp.sub rfl rfl rfl) (congrArg (ik .u8) hx24)) ?_
        refine za (r := ik .u8 x15) ?_
        refine zN ?_
        exact ⟨x15, ⟨aR, aR, aR, aR, aR, aR, aR, aR, aR, aR, aR, trivial⟩, trivial, h19_⟩
       ·refine RunC.regionW ?_
        refine zm (r := ik .u8 e3) ?_
        refine zl (r := b true) (LOp.eqb (LOp.leq rfl rfl rfl) hc22) ?_
        refine zm (r := b true) ?_
        refine zm (r := ik .u8 e3) ?_
        refine zl (r := b false) (LOp.eqb (LOp.leq rfl rfl rfl) hc23) ?_
        refine zl (r := b false) (LOp.pick_true rfl rfl rfl) ?_
        refine za (r := b false) ?_
        refine zN ?_
        refine RunC.cond_false rfl rfl ?_
        refine RunC.seq ?_
        obtain ⟨r16, hf25, h19_⟩ := obind_some h19_
        rcases bsel_some h19_ with ⟨hc26, h19_⟩ | ⟨hc26, h19_⟩
        ·obtain ⟨r17, hf27, h19_⟩ := obind_some h19_
         rcases bsel_some h19_ with ⟨hc28, h19_⟩ | ⟨hc28, h19_⟩
         ·refine RunC.regionW ?_
          refine zm (r := ik .u8 e3) ?_
          refine ROps.d (r := ik .u8 r16) (fs := []) (Γ' := []) rfl rfl rfl (TOp.callB (CallAs.func ent124 rfl rfl) (Bors.cons (Bor.pure rfl) Bors.nil) rfl rfl (x_internal_strconv_lower_ok e3 r16 hf25)) rfl ?_
          refine zl (r := b true) (LOp.eqb (LOp.leq rfl rfl rfl) hc26) ?_
          refine zm (r := b true) ?_
          refine zm (r := ik .u8 e3) ?_
          refine ROps.d (r := ik .u8 r17) (fs := []) (Γ' := []) rfl rfl rfl (TOp.callB (CallAs.func ent124 rfl rfl) (Bors.cons (Bor.pure rfl) Bors.nil) rfl rfl (x_internal_strconv_lower_ok e3 r17 hf27)) rfl ?_
          refine zl (r := b true) (LOp.eqb (LOp.leq rfl rfl rfl) hc28) ?_
          refine zl (r := b true) (LOp.pick_true rfl rfl rfl) ?_
          refine za (r := b true) ?_
          refine zN ?_
          refine RunC.wl (τ' := [(1, i64 16), (8, b false), (9, str a0), (10, ik .u64 1152921504606846976), (11, ik .u64 4294967295), (12, b false), (13, ik .u64 v1), (15, ik .u8 e3), (99, sl (bytI a0).length ((bytI a0).map (ik .u8))), (100, i64 ((bytI a0).length : Int)), (101, i64 v2), (116, ik .u8 e3), (117, b false), (121, b true), (126, ik .u8 e3), (127, ik .u8 r17), (128, b true)]) (Γ' := []) ⟨aR, aR, aR, aR, aR, aR, aR, aR, aR, aR, aR, aR, aR, aR, aR, aR, aR, trivial⟩ trivial ?_
          refine RunC.cond_true rfl rfl ?_
          obtain ⟨r18, hf29, h19_⟩ := obind_some h19_
          obtain ⟨x19, hx30, h19_⟩ := olet_some h19_
          obtain ⟨x20, hx31, h19_⟩ := olet_some h19_
          refine RunC.regionW ?_
          refine zm (r := ik .u8 e3) ?_
          refine ROps.d (r := ik .u8 r18) (fs := []) (Γ' := []) rfl rfl rfl (TOp.callB (CallAs.func ent124 rfl rfl) (Bors.cons (Bor.pure rfl) Bors.nil) rfl rfl (x_internal_strconv_lower_ok e3 r18 hf29)) rfl ?_
          refine zl (r := ik .u8 x19) (LOp.eqr (LOp.sub rfl rfl rfl) (congrArg (ik .u8) hx30)) ?_
          refine zl (r := ik .u8 x20) (LOp.eqr (LOp.add rfl rfl rfl) (congrArg (ik .u8) hx31)) ?_
          refine za (r := ik .u8 x20) ?_
          refine zN ?_
          exact ⟨x20, ⟨aR, aR, aR, aR, aR, aR, aR, aR, aR, aR, aR, trivial⟩, trivial, h19_⟩
         ·refine RunC.regionW ?_
          refine zm (r := ik .u8 e3) ?_
          refine ROps.d (r := ik .u8 r16) (fs := []) (Γ' := []) rfl rfl rfl (TOp.callB (CallAs.func ent124 rfl rfl) (Bors.cons (Bor.pure rfl) Bors.nil) rfl rfl (x_internal_strconv_lower_ok e3 r16 hf25)) rfl ?_
          refine zl (r := b true) (LOp.eqb (LOp.leq rfl rfl rfl) hc26) ?_
          refine zm (r := b true) ?_
          refine zm (r := ik .u8 e3) ?_
          refine ROps.d (r := ik .u8 r17) (fs := []) (Γ' := []) rfl rfl rfl (TOp.callB (CallAs.func ent124 rfl rfl) (Bors.cons (Bor.pure rfl) Bors.nil) rfl rfl (x_internal_strconv_lower_ok e3 r17 hf27)) rfl ?_
          refine zl (r := b false) (LOp.eqb (LOp.leq rfl rfl rfl) hc28) ?_
          refine zl (r := b false) (LOp.pick_true rfl rfl rfl) ?_
          refine za (r := b false) ?_
          refine zN ?_
          refine RunC.wl (τ' := [(1, i64 16), (8, b false), (9, str a0), (10, ik .u64 1152921504606846976), (11, ik .u64 4294967295), (12, b false), (13, ik .u64 v1), (15, ik .u8 e3), (99, sl (bytI a0).length ((bytI a0).map (ik .u8))), (100, i64 ((bytI a0).length : Int)), (101, i64 v2), (116, ik .u8 e3), (117, b false), (121, b false), (126, ik .u8 e3), (127, ik .u8 r17), (128, b false)]) (Γ' := []) ⟨aR, aR, aR, aR, aR, aR, aR, aR, aR, aR, aR, aR, aR, aR, aR, aR, aR, trivial⟩ trivial ?_
          refine RunC.cond_false rfl rfl ?_
          refine zQ ?_
          refine zl (r := x (.iface 140 (.int .i64 2))) (LOp.mkif (v := .int .i64 2) und140 rfl rfl) ?_
          refine za (r := ik .u64 0) ?_
          refine za (r := x (.iface 140 (.int .i64 2))) ?_
          refine zN ?_
          cases Option.some.inj h19_
          have hx24_ := hr19 _ rfl
          subst hx24_
          cases Option.some.inj h
        ·refine RunC.regionW ?_
         refine zm (r := ik .u8 e3) ?_
         refine ROps.d (r := ik .u8 r16) (fs := []) (Γ' := []) rfl rfl rfl (TOp.callB (CallAs.func ent124 rfl rfl) (Bors.cons (Bor.pure rfl) Bors.nil) rfl rfl (x_internal_strconv_lower_ok e3 r16 hf25)) rfl ?_
         refine zl (r := b false) (LOp.eqb (LOp.leq rfl rfl rfl) hc26) ?_
         refine zm (r := b false) ?_
         iterate 3 (refine ROps.s rfl rfl rfl ?_)
         refine zl (r := b false) (LOp.pick_false rfl rfl rfl) ?_
         refine za (r := b false) ?_
         refine zN ?_
         refine RunC.wl (τ' := [(1, i64 16), (8, b false), (9, str a0), (10, ik .u64 1152921504606846976), (11, ik .u64 4294967295), (12, b false), (13, ik .u64 v1), (15, ik .u8 e3), (99, sl (bytI a0).length ((bytI a0).map (ik .u8))), (100, i64 ((bytI a0).length : Int)), (101, i64 v2), (116, ik .u8 e3), (117, b false), (121, b false)]) (Γ' := []) ⟨aR, aR, aR, aR, aR, aR, aR, aR, aR, aR, aR, aR, aR, aR, trivial⟩ trivial ?_
         refine RunC.cond_false rfl rfl ?_
         refine zQ ?_
         refine zl (r := x (.iface 140 (.int .i64 2))) (LOp.mkif (v := .int .i64 2) und140 rfl rfl) ?_
         refine za (r := ik .u64 0) ?_
         refine za (r := x (.iface 140 (.int .i64 2))) ?_
         refine zN ?_
         cases Option.some.inj h19_
         have hx25_ := hr19 _ rfl
         subst hx25_
         cases Option.some.inj h
      ·refine RunC.regionW ?_
       refine zm (r := ik .u8 e3) ?_
       refine zl (r := b false) (LOp.eqb (LOp.leq rfl rfl rfl) hc22) ?_
       refine zm (r := b false) ?_
       iterate 2 (refine ROps.s rfl rfl rfl ?_)
       refine zl (r := b false) (LOp.pick_false rfl rfl rfl) ?_
       refine za (r := b false) ?_
       refine zN ?_
       refine RunC.cond_false rfl rfl ?_
       refine RunC.seq ?_
       obtain ⟨r21, hf32, h19_⟩ := obind_some h19_
       rcases bsel_some h19_ with ⟨hc33, h19_⟩ | ⟨hc33, h19_⟩
       ·obtain ⟨r22, hf34, h19_⟩ := obind_some h19_
        rcases bsel_some h19_ with ⟨hc35, h19_⟩ | ⟨hc35, h19_⟩
        ·refine RunC.regionW ?_
         refine zm (r := ik .u8 e3) ?_
         refine ROps.d (r := ik .u8 r21) (fs := []) (Γ' := []) rfl rfl rfl (TOp.callB (CallAs.func ent124 rfl rfl) (Bors.cons (Bor.pure rfl) Bors.nil) rfl rfl (x_internal_strconv_lower_ok e3 r21 hf32)) rfl ?_
         refine zl (r := b true) (LOp.eqb (LOp.leq rfl rfl rfl) hc33) ?_
         refine zm (r := b true) ?_
         refine zm (r := ik .u8 e3) ?_
         refine ROps.d (r := ik .u8 r22) (fs := []) (Γ' := []) rfl rfl rfl (TOp.callB (CallAs.func ent124 rfl rfl) (Bors.cons (Bor.pure rfl) Bors.nil) rfl rfl (x_internal_strconv_lower_ok e3 r22 hf34)) rfl ?_
         refine zl (r := b true) (LOp.eqb (LOp.leq rfl rfl rfl) hc35) ?_
         refine zl (r := b true) (LOp.pick_true rfl rfl rfl) ?_
         refine za (r := b true) ?_
         refine zN ?_
         refine RunC.wl (τ' := [(1, i64 16), (8, b false), (9, str a0), (10, ik .u64 1152921504606846976), (11, ik .u64 4294967295), (12, b false), (13, ik .u64 v1), (15, ik .u8 e3), (99, sl (bytI a0).length ((bytI a0).map (ik .u8))), (100, i64 ((bytI a0).length : Int)), (101, i64 v2), (121, b true), (126, ik .u8 e3), (127, ik .u8 r22), (128, b true)]) (Γ' := []) ⟨aR, aR, aR, aR, aR, aR, aR, aR, aR, aR, aR, aR, aR, aR, aR, trivial⟩ trivial ?_
         refine RunC.cond_true rfl rfl ?_
         obtain ⟨r23, hf36, h19_⟩ := obind_some h19_
         obtain ⟨x24, hx37, h19_⟩ := olet_some h19_
         obtain ⟨x25, hx38, h19_⟩ := olet_some h19_
         refine RunC.regionW ?_
         refine zm (r := ik .u8 e3) ?_
         refine ROps.d (r := ik .u8 r23) (fs := []) (Γ' := []) rfl rfl rfl (TOp.callB (CallAs.func ent124 rfl rfl) (Bors.cons (Bor.pure rfl) Bors.nil) rfl rfl (x_internal_strconv_lower_ok e3 r23 hf36)) rfl ?_
         refine zl (r := ik .u8 x24) (LOp.eqr (LOp.sub rfl rfl rfl) (congrArg (ik .u8) hx37)) ?_
         refine zl (r := ik .u8 x25) (LOp.eqr (LOp.add rfl rfl rfl) (congrArg (ik .u8) hx38)) ?_
         refine za (r := ik .u8 x25) ?_
         refine zN ?_
         exact ⟨x25, ⟨aR, aR, aR, aR, aR, aR, aR, aR, aR, aR, aR, trivial⟩, trivial, h19_⟩
        ·refine RunC.regionW ?_
         refine zm (r := ik .u8 e3) ?_
         refine ROps.d (r := ik .u8 r21) (fs := []) (Γ' := []) rfl rfl rfl (TOp.callB (CallAs.func ent124 rfl rfl) (Bors.cons (Bor.pure rfl) Bors.nil) rfl rfl (x_internal_strconv_lower_ok e3 r21 hf32)) rfl ?_
         refine zl (r := b true) (LOp.eqb (LOp.leq rfl rfl rfl) hc33) ?_
         refine zm (r := b true) ?_
         refine zm (r := ik .u8 e3) ?_
         refine ROps.d (r := ik .u8 r22) (fs := []) (Γ' := []) rfl rfl rfl (TOp.callB (CallAs.func ent124 rfl rfl) (Bors.cons (Bor.pure rfl) Bors.nil) rfl rfl (x_internal_strconv_lower_ok e3 r22 hf34)) rfl ?_
         refine zl (r := b false) (LOp.eqb (LOp.leq rfl rfl rfl) hc35) ?_
         refine zl (r := b false) (LOp.pick_true rfl rfl rfl) ?_
         refine za (r := b false) ?_
         refine zN ?_
         refine RunC.wl (τ' := [(1, i64 16), (8, b false), (9, str a0), (10, ik .u64 1152921504606846976), (11, ik .u64 4294967295), (12, b false), (13, ik .u64 v1), (15, ik .u8 e3), (99, sl (bytI a0).length ((bytI a0).map (ik .u8))), (100, i64 ((bytI a0).length : Int)), (101, i64 v2), (121, b false), (126, ik .u8 e3), (127, ik .u8 r22), (128, b false)]) (Γ' := []) ⟨aR, aR, aR, aR, aR, aR, aR, aR, aR, aR, aR, aR, aR, aR, aR, trivial⟩ trivial ?_
         refine RunC.cond_false rfl rfl ?_
         refine zQ ?_
         refine zl (r := x (.iface 140 (.int .i64 2))) (LOp.mkif (v := .int .i64 2) und140 rfl rfl) ?_
         refine za (r := ik .u64 0) ?_
         refine za (r := x (.iface 140 (.int .i64 2))) ?_
         refine zN ?_
         cases Option.some.inj h19_
         have hx26_ := hr19 _ rfl
         subst hx26_
         cases Option.some.inj h
       ·refine RunC.regionW ?_
        refine zm (r := ik .u8 e3) ?_
        refine ROps.d (r := ik .u8 r21) (fs := []) (Γ' := []) rfl rfl rfl (TOp.callB (CallAs.func ent124 rfl rfl) (Bors.cons (Bor.pure rfl) Bors.nil) rfl rfl (x_internal_strconv_lower_ok e3 r21 hf32)) rfl ?_
        refine zl (r := b false) (LOp.eqb (LOp.leq rfl rfl rfl) hc33) ?_
        refine zm (r := b false) ?_
        iterate 3 (refine ROps.s rfl rfl rfl ?_)
        refine zl (r := b false) (LOp.pick_false rfl rfl rfl) ?_
        refine za (r := b false) ?_
        refine zN ?_
        refine RunC.wl (τ' := [(1, i64 16), (8, b false), (9, str a0), (10, ik .u64 1152921504606846976), (11, ik .u64 4294967295), (12, b false), (13, ik .u64 v1), (15, ik .u8 e3), (99, sl (bytI a0).length ((bytI a0).map (ik .u8))), (100, i64 ((bytI a0).length : Int)), (101, i64 v2), (121, b false)]) (Γ' := []) ⟨aR, aR, aR, aR, aR, aR, aR, aR, aR, aR, aR, aR, trivial⟩ trivial ?_
        refine RunC.cond_false rfl rfl ?_
        refine zQ ?_
        refine zl (r := x (.iface 140 (.int .i64 2))) (LOp.mkif (v := .int .i64 2) und140 rfl rfl) ?_
        refine za (r := ik .u64 0) ?_
        refine za (r := x (.iface 140 (.int .i64 2))) ?_
        refine zN ?_
        cases Option.some.inj h19_
        have hx27_ := hr19 _ rfl
        subst hx27_
        cases Option.some.inj h
    ·rintro τ28 Γ28 ⟨v26, hw28, hd28, h19_⟩
     refine RunC.wl hw28 hd28 ?_
     unfold x_internal_strconv_ParseUint_k2 at h19_
     iterate 2 (refine RunC.seq ?_)
     rcases bsel_some h19_ with ⟨hc39, h19_⟩ | ⟨hc39, h19_⟩
     ·refine RunC.regionW ?_
      refine zm (r := ik .u8 v26) ?_
      refine zm (r := i64 16) ?_
      refine zl (r := ik .u8 16) ((show LOp _ _ _ (ik .u8 (IntKind.u8.wrap 16)) from LOp.i2i (src := 3) (dst := 5) ⟨_, pun3⟩ pun5 rfl rfl)) ?_
      refine zl (r := b true) (LOp.eqb (LOp.geq rfl rfl rfl) hc39) ?_
      refine zN ?_
      refine RunC.cond_true rfl rfl ?_
      refine zQ ?_
      refine zl (r := x (.iface 140 (.int .i64 2))) (LOp.mkif (v := .int .i64 2) und140 rfl rfl) ?_
      refine za (r := ik .u64 0) ?_
      refine za (r := x (.iface 140 (.int .i64 2))) ?_
      refine zN ?_
      cases Option.some.inj h19_
      have hx29_ := hr19 _ rfl
      subst hx29_
      cases Option.some.inj h
     ·refine RunC.regionW ?_
      refine zm (r := ik .u8 v26) ?_
      refine zm (r := i64 16) ?_
      refine zl (r := ik .u8 16) ((show LOp _ _ _ (ik .u8 (IntKind.u8.wrap 16)) from LOp.i2i (src := 3) (dst := 5) ⟨_, pun3⟩ pun5 rfl rfl)) ?_
      refine zl (r := b false) (LOp.eqb (LOp.geq rfl rfl rfl) hc39) ?_
      refine zN ?_
      refine RunC.cond_false rfl rfl ?_
      refine RunC.skip ?_
      iterate 2 (refine RunC.seq ?_)
      rcases bsel_some h19_ with ⟨hc40, h19_⟩ | ⟨hc40, h19_⟩
      ·refine RunC.regionW ?_
       refine zm (r := ik .u64 v1) ?_
       refine zm (r := ik .u64 1152921504606846976) ?_
       refine zl (r := b true) (LOp.eqb (LOp.geq rfl rfl rfl) hc40) ?_
       refine zN ?_
       refine RunC.cond_true rfl rfl ?_
       refine zQ ?_
       refine zm (r := ik .u64 4294967295) ?_
       refine zl (r := x (.iface 140 (.int .i64 1))) (LOp.mkif (v := .int .i64 1) und140 rfl rfl) ?_
       refine za (r := ik .u64 4294967295) ?_
       refine za (r := x (.iface 140 (.int .i64 1))) ?_
       refine zN ?_
       refine RunC.ret ?_
       cases Option.some.inj h19_
       have hx30_ := hr19 _ rfl
       subst hx30_
       have hq := Option.some.inj h
       have hq := Sum.inr.inj hq
       have hq := Sum.inl.inj hq
       subst q0
       exact bodyQ.pure (.inr rfl) rfl (Res.two rfl (RV.tmp rfl) (RV.tmp rfl))
      ·refine RunC.regionW ?_
       refine zm (r := ik .u64 v1) ?_
       refine zm (r := ik .u64 1152921504606846976) ?_
       refine zl (r := b false) (LOp.eqb (LOp.geq rfl rfl rfl) hc40) ?_
       refine zN ?_
       refine RunC.cond_false rfl rfl ?_
       refine RunC.skip ?_
       refine RunC.seq ?_
       obtain ⟨x27, hx41, h19_⟩ := olet_some h19_
       refine RunC.regionW ?_
       refine zm (r := ik .u64 v1) ?_
       refine zm (r := i64 16) ?_
       refine zl (r := ik .u64 16) ((show LOp _ _ _ (ik .u64 (IntKind.u64.wrap 16)) from LOp.i2i (src := 3) (dst := 90) ⟨_, pun3⟩ pun90 rfl rfl)) ?_
       refine zl (r := ik .u64 x27) (LOp.eqr (LOp.mul rfl rfl rfl) (congrArg (ik .u64) hx41)) ?_
       refine za (r := ik .u64 x27) ?_
       refine zN ?_
       refine RunC.seq ?_
       obtain ⟨x28, hx42, h19_⟩ := olet_some h19_
       obtain ⟨x29, hx43, h19_⟩ := olet_some h19_
       refine RunC.regionW ?_
       refine zm (r := ik .u64 x27) ?_
       refine zm (r := ik .u8 v26) ?_
       refine zl (r := ik .u64 x28) (LOp.eqr (LOp.i2i (src := 5) (dst := 90) ⟨_, pun5⟩ pun90 rfl rfl) (congrArg (ik .u64) hx42)) ?_
       refine zl (r := ik .u64 x29) (LOp.eqr (LOp.add rfl rfl rfl) (congrArg (ik .u64) hx43)) ?_
       refine za (r := ik .u64 x29) ?_
       refine zN ?_
       iterate 2 (refine RunC.seq ?_)
       rcases bsel_some h19_ with ⟨hc44, h19_⟩ | ⟨hc44, h19_⟩
       ·refine RunC.regionW ?_
        refine zm (r := ik .u64 x29) ?_
        refine zm (r := ik .u64 x27) ?_
        refine zl (r := b true) (LOp.eqb (LOp.lss rfl rfl rfl) hc44) ?_
        refine zm (r := b true) ?_
        iterate 3 (refine ROps.s rfl rfl rfl ?_)
        refine zl (r := b true) (LOp.pick_true rfl rfl rfl) ?_
        refine zN ?_
        refine RunC.cond_true rfl rfl ?_
        refine zQ ?_
        refine zm (r := ik .u64 4294967295) ?_
        refine zl (r := x (.iface 140 (.int .i64 1))) (LOp.mkif (v := .int .i64 1) und140 rfl rfl) ?_
        refine za (r := ik .u64 4294967295) ?_
        refine za (r := x (.iface 140 (.int .i64 1))) ?_
        refine zN ?_
        refine RunC.ret ?_
        cases Option.some.inj h19_
        have hx31_ := hr19 _ rfl
        subst hx31_
        have hq := Option.some.inj h
        have hq := Sum.inr.inj hq
        have hq := Sum.inl.inj hq
        subst q0
        exact bodyQ.pure (.inr rfl) rfl (Res.two rfl (RV.tmp rfl) (RV.tmp rfl))
       ·rcases bsel_some h19_ with ⟨hc45, h19_⟩ | ⟨hc45, h19_⟩
        ·refine RunC.regionW ?_
         refine zm (r := ik .u64 x29) ?_
         refine zm (r := ik .u64 x27) ?_
         refine zl (r := b false) (LOp.eqb (LOp.lss rfl rfl rfl) hc44) ?_
         refine zm (r := b false) ?_
         refine zm (r := ik .u64 x29) ?_
         refine zm (r := ik .u64 4294967295) ?_
         refine zl (r := b true) (LOp.eqb (LOp.gtr rfl rfl rfl) hc45) ?_
         refine zl (r := b true) (LOp.pick_false rfl rfl rfl) ?_
         refine zN ?_
         refine RunC.cond_true rfl rfl ?_
         refine zQ ?_
         refine zm (r := ik .u64 4294967295) ?_
         refine zl (r := x (.iface 140 (.int .i64 1))) (LOp.mkif (v := .int .i64 1) und140 rfl rfl) ?_
         refine za (r := ik .u64 4294967295) ?_
         refine za (r := x (.iface 140 (.int .i64 1))) ?_
         refine zN ?_
         refine RunC.ret ?_
         cases Option.some.inj h19_
         have hx32_ := hr19 _ rfl
         subst hx32_
         have hq := Option.some.inj h
         have hq := Sum.inr.inj hq
         have hq := Sum.inl.inj hq
         subst q0
         exact bodyQ.pure (.inr rfl) rfl (Res.two rfl (RV.tmp rfl) (RV.tmp rfl))
        ·refine RunC.regionW ?_
         refine zm (r := ik .u64 x29) ?_
         refine zm (r := ik .u64 x27) ?_
         refine zl (r := b false) (LOp.eqb (LOp.lss rfl rfl rfl) hc44) ?_
         refine zm (r := b false) ?_
         refine zm (r := ik .u64 x29) ?_
         refine zm (r := ik .u64 4294967295) ?_
         refine zl (r := b false) (LOp.eqb (LOp.gtr rfl rfl rfl) hc45) ?_
         refine zl (r := b false) (LOp.pick_false rfl rfl rfl) ?_
         refine zN ?_
         refine RunC.cond_false rfl rfl ?_
         refine RunC.skip ?_
         refine RunC.wl (τ' := [(1, i64 16), (8, b false), (9, str a0), (10, ik .u64 1152921504606846976), (11, ik .u64 4294967295), (12, b false), (17, ik .u64 x29), (99, sl (bytI a0).length ((bytI a0).map (ik .u8))), (100, i64 ((bytI a0).length : Int)), (101, i64 v2), (156, ik .u64 x29), (157, ik .u64 4294967295), (158, b false)]) (Γ' := []) ⟨aR, aR, aR, aR, aR, aR, aR, aR, aR, aR, aR, aR, aR, trivial⟩ trivial ?_
         refine RunC.regionW ?_
         refine zm (r := ik .u64 x29) ?_
         refine za (r := ik .u64 x29) ?_
         refine zN ?_
         obtain ⟨x30, hx46, h19_⟩ := olet_some h19_
         refine RunC.regionW ?_
         refine zl (r := i64 x30) (LOp.eqr (LOp.add rfl rfl rfl) (congrArg (ik .i64) hx46)) ?_
         refine zm (r := i64 x30) ?_
         refine zN ?_
         cases Option.some.inj h19_
         exact ⟨_, rfl, ⟨aR, aR, aR, aR, aR, aR, aR, aR, aR, aR, trivial⟩, trivial⟩
   ·refine RunC.regionW ?_
    refine zl (r := b false) (LOp.eqb (LOp.lss rfl rfl rfl) hc2) ?_
    refine zN ?_
    refine RunC.seq ?_
    refine RunC.cond_false rfl rfl ?_
    refine RunC.exit ?_
    cases Option.some.inj h19_
    have hx := ho19 _ rfl
    exact ⟨v1, ⟨aR, aR, aR, trivial⟩, trivial, hx⟩
  ·rintro τ33 Γ33 ⟨v31, hw33, hd33, rfl⟩
   refine RunC.wl hw33 hd33 ?_
   replace h : x_internal_strconv_ParseUint_k3 v31 = some (Sum.inr (Sum.inl q0)) := h
   unfold x_internal_strconv_ParseUint_k3 at h
   refine RunC.seq ?_
   refine zQ ?_
   iterate 2 (refine zm (r := b false) ?_)
   iterate 3 (refine ROps.s rfl rfl rfl ?_)
   refine zl (r := b false) (LOp.pick_false rfl rfl rfl) ?_
   refine zN ?_
   refine RunC.cond_false rfl rfl ?_
   refine RunC.skip ?_
   refine zQ ?_
   refine zm (r := ik .u64 v31) ?_
   refine za (r := ik .u64 v31) ?_
   refine za (r := x .nilIface) ?_
   refine zN ?_
   cases Option.some.inj h
theorem x_internal_strconv_ParseUint_ok2 (a0 : ByteArray) (q0 : Int) (h : x_internal_strconv_ParseUint a0 = some (Sum.inr (Sum.inr q0))) : Ev Tryz.prog 104 [str a0, i64 16, i64 32] [] (tup [ik .u64 q0, x .nilIface]) [] := by
 refine Ev.start Tryz.func104 rfl rfl 0 (τ := [(0, str a0), (1, i64 16), (2, i64 32)]) rfl (Γ' := []) rfl (n := 345) rfl (g := 0) rfl (fun _ => rfl) ?_
 unfold x_internal_strconv_ParseUint at h
 refine zQ ?_
 refine za (r := ik .u64 0) ?_
 refine za (r := x .nilIface) ?_
 refine zN ?_
 iterate 2 (refine RunC.seq ?_)
 rcases bsel_some h with ⟨hc1, h⟩ | ⟨hc1, h⟩
 ·refine RunC.regionW ?_
  refine zm (r := str a0) ?_
  refine zl (r := b true) (LOp.eqb (LOp.eqs rfl rfl rfl) hc1) ?_
  refine zN ?_
  refine RunC.cond_true rfl rfl ?_
  refine zQ ?_
  refine zl (r := x (.iface 140 (.int .i64 2))) (LOp.mkif (v := .int .i64 2) und140 rfl rfl) ?_
  refine za (r := ik .u64 0) ?_
  refine za (r := x (.iface 140 (.int .i64 2))) ?_
  refine zN ?_
  cases Option.some.inj h
 ·refine RunC.regionW ?_
  refine zm (r := str a0) ?_
  refine zl (r := b false) (LOp.eqb (LOp.eqs rfl rfl rfl) hc1) ?_
  refine zN ?_
  refine RunC.cond_false rfl rfl ?_
  refine RunC.skip ?_
  refine zQ ?_
  refine zm (r := i64 16) ?_
  refine zl (r := b false) ((show LOp _ _ _ (b (decide ((16 : Int) = 0))) from LOp.eql rfl rfl rfl)) ?_
  refine za (r := b false) ?_
  refine zN ?_
  refine zQ ?_
  refine zm (r := str a0) ?_
  refine za (r := str a0) ?_
  refine zN ?_
  refine RunC.seq ?_
  refine RunC.block ?_
  refine zQ ?_
  refine zm (r := i64 16) ?_
  refine zl (r := b true) ((show LOp _ _ _ (b (decide ((2 : Int) ≤ 16))) from LOp.leq rfl rfl rfl)) ?_
  refine zm (r := b true) ?_
  refine zm (r := i64 16) ?_
  refine zl (r := b true) ((show LOp _ _ _ (b (decide ((16 : Int) ≤ 36))) from LOp.leq rfl rfl rfl)) ?_
  refine zl (r := b true) (LOp.pick_true rfl rfl rfl) ?_
  refine za (r := b true) ?_
  refine zN ?_
  refine RunC.cond_true rfl rfl ?_
  refine RunC.skip ?_
  refine RunC.seq ?_
  refine zQ ?_
  refine zm (r := i64 32) ?_
  refine zl (r := b false) ((show LOp _ _ _ (b (decide ((32 : Int) = 0))) from LOp.eql rfl rfl rfl)) ?_
  refine zN ?_
  refine RunC.cond_false rfl rfl ?_
  refine zQ ?_
  refine zm (r := i64 32) ?_
  refine zl (r := b false) ((show LOp _ _ _ (b (decide ((32 : Int) < 0))) from LOp.lss rfl rfl rfl)) ?_
  refine zm (r := b false) ?_
  refine zm (r := i64 32) ?_
  refine zl (r := b false) ((show LOp _ _ _ (b (decide ((64 : Int) < 32))) from LOp.gtr rfl rfl rfl)) ?_
  refine zl (r := b false) (LOp.pick_false rfl rfl rfl) ?_
  refine zN ?_
  refine RunC.cond_false rfl rfl ?_
  refine RunC.skip ?_
  refine zQ ?_
  refine za (r := ik .u64 0) ?_
  refine zN ?_
  refine RunC.seq ?_
  refine zQ ?_
  refine zm (r := i64 16) ?_
  refine zN ?_
  refine RunC.block ?_
  refine zQ ?_
  refine zl (r := b false) ((show LOp _ _ _ (b (decide ((16 : Int) = 10))) from LOp.eql rfl rfl rfl)) ?_
  refine za (r := b false) ?_
  refine zN ?_
  refine RunC.cond_false rfl rfl ?_
  refine zQ ?_
  refine zl (r := b true) ((show LOp _ _ _ (b (decide ((16 : Int) = 16))) from LOp.eql rfl rfl rfl)) ?_
  refine za (r := b true) ?_
  refine zN ?_
  refine RunC.wl (τ' := [(0, str a0), (1, i64 16), (2, i64 32), (8, b false), (9, str a0), (92, b true)]) (Γ' := []) ⟨aR, aR, aR, aR, aR, aR, trivial⟩ trivial ?_
  refine RunC.cond_true rfl rfl ?_
  refine RunC.regionW ?_
  refine za (r := ik .u64 1152921504606846976) ?_
  refine zN ?_
  refine zQ ?_
  refine zm (r := i64 32) ?_
  refine zl (r := ik .u64 32) ((show LOp _ _ _ (ik .u64 (IntKind.u64.wrap 32)) from LOp.i2i (src := 3) (dst := 106) ⟨_, pun3⟩ pun106 rfl rfl)) ?_
  refine zl (r := ik .u64 4294967296) ((show LOp _ _ _ (ik .u64 (ishl .u64 1 32)) from LOp.shl rfl rfl rfl (by decide))) ?_
  refine zl (r := ik .u64 4294967295) ((show LOp _ _ _ (ik .u64 (IntKind.u64.wrap (4294967296 - 1))) from LOp.sub rfl rfl rfl)) ?_
  refine za (r := ik .u64 4294967295) ?_
  refine zN ?_
  refine zQ ?_
  refine za (r := b false) ?_
  refine zN ?_
  refine zQ ?_
  refine za (r := ik .u64 0) ?_
  refine zN ?_
  refine RunC.seq ?_
  refine zQ ?_
  refine zm (r := str a0) ?_
  refine ROps.d (r := sl (bytI a0).length ((bytI a0).map (ik .u8))) (fs := []) (Γ' := []) rfl rfl rfl (TOp.s2b pun9 pun22 pun5 rfl rfl) rfl ?_
  refine zl (r := i64 ((bytI a0).length : Int)) (LOp.len_sl und22 rfl rfl) ?_
  refine zm (r := i64 0) ?_
  refine zN ?_
  obtain ⟨z34, hz_34, h⟩ := obind_some h
  refine RunC.cutN (fun τ Γ => ∃ (v31 : Int), WeakLe τ [(9, str a0), (12, b false), (13, ik .u64 v31)] ∧ DeadLe Γ [] ∧ z34 = .inl v31) ?_ ?_
  ·refine RunC.block (RunC.loop (RunL.loopM (x := z34) (x_internal_strconv_ParseUint_s3 a0) (fun (s : Int × Int) τ Γ => WeakLe τ [(1, i64 16), (8, b false), (9, str a0), (10, ik .u64 1152921504606846976), (11, ik .u64 4294967295), (12, b false), (13, ik .u64 s.1), (99, sl (bytI a0).length ((bytI a0).map (ik .u8))), (100, i64 ((bytI a0).length : Int)), (101, i64 s.2)] ∧ DeadLe Γ []) ?_ _ _ _ hz_34 ⟨⟨aR, aR, aR, aR, aR, aR, aR, aR, aR, aR, trivial⟩, trivial⟩))
   rintro ⟨v1, v2⟩ τ34 Γ34 y34_ ⟨hw34, hd34⟩ h34_ ho34 hr34
   refine RunC.wl (τ' := [(1, i64 16), (8, b false), (9, str a0), (10, ik .u64 1152921504606846976), (11, ik .u64 4294967295), (12, b false), (13, ik .u64 v1), (99, sl (bytI a0).length ((bytI a0).map (ik .u8))), (100, i64 ((bytI a0).length : Int)), (101, i64 v2)]) (Γ' := []) hw34 hd34 ?_
   replace h34_ : x_internal_strconv_ParseUint_b3 a0 v1 v2 = some y34_ := h34_
   unfold x_internal_strconv_ParseUint_b3 at h34_
   refine RunC.seq ?_
   rcases bsel_some h34_ with ⟨hc2, h34_⟩ | ⟨hc2, h34_⟩
   ·refine RunC.regionW ?_
    refine zl (r := b true) (LOp.eqb (LOp.lss rfl rfl rfl) hc2) ?_
    refine zN ?_
    refine RunC.seq ?_
    refine RunC.cond_true rfl rfl ?_
    refine RunC.skip ?_
    refine RunC.seq ?_
    refine RunC.block ?_
    refine RunC.seq ?_
    obtain ⟨e3, he3, h34_⟩ := obind_some h34_
    refine RunC.regionW ?_
    refine zl (r := ptr [ik .u8 e3]) (LOp.le (LOp.ix (f := (ik .u8)) und22 siz5 rfl rfl rfl rfl he3) ALe.ptr) ?_
    refine zl (r := ik .u8 e3) (LOp.load1 agg5 rfl rfl) ?_
    refine za (r := ik .u8 e3) ?_
    refine zN ?_
    refine zQ ?_
    refine za (r := ik .u8 0) ?_
    refine zN ?_
    refine RunC.seq ?_
    refine RunC.cutN (fun τ Γ => ∃ (v26 : Int), WeakLe τ [(1, i64 16), (8, b false), (9, str a0), (10, ik .u64 1152921504606846976), (11, ik .u64 4294967295), (12, b false), (13, ik .u64 v1), (16, ik .u8 v26), (99, sl (bytI a0).length ((bytI a0).map (ik .u8))), (100, i64 ((bytI a0).length : Int)), (101, i64 v2)] ∧ DeadLe Γ [] ∧ x_internal_strconv_ParseUint_k2 v1 v2 v26 = some y34_) ?_ ?_
    ·refine RunC.block ?_
     refine RunC.seq ?_
     rcases bsel_some h34_ with ⟨hc4, h34_⟩ | ⟨hc4, h34_⟩
     ·refine RunC.regionW ?_
      refine zm (r := ik .u8 e3) ?_
      refine zl (r := b true) (LOp.eqb (LOp.eql rfl rfl rfl) hc4) ?_
      refine zm (r := b true) ?_
      refine zm (r := b false) ?_
      refine zl (r := b false) (LOp.pick_true rfl rfl rfl) ?_
      refine za (r := b false) ?_
      refine zN ?_
      refine RunC.cond_false rfl rfl ?_
      refine RunC.seq ?_
      rcases bsel_some h34_ with ⟨hc5, h34_⟩ | ⟨hc5, h34_⟩
      ·rcases bsel_some h34_ with ⟨hc6, h34_⟩ | ⟨hc6, h34_⟩
       ·refine RunC.regionW ?_
        refine zm (r := ik .u8 e3) ?_
        refine zl (r := b true) (LOp.eqb (LOp.leq rfl rfl rfl) hc5) ?_
        refine zm (r := b true) ?_
        refine zm (r := ik .u8 e3) ?_
        refine zl (r := b true) (LOp.eqb (LOp.leq rfl rfl rfl) hc6) ?_
        refine zl (r := b true) (LOp.pick_true rfl rfl rfl) ?_
        refine za (r := b true) ?_
        refine zN ?_
        refine RunC.cond_true rfl rfl ?_
        obtain ⟨x4, hx7, h34_⟩ := olet_some h34_
        refine RunC.regionW ?_
        refine zm (r := ik .u8 e3) ?_
        refine zl (r := ik .u8 x4) (LOp.eqr (LOp.sub rfl rfl rfl) (congrArg (ik .u8) hx7)) ?_
        refine za (r := ik .u8 x4) ?_
        refine zN ?_
        exact ⟨x4, ⟨aR, aR, aR, aR, aR, aR, aR, aR, aR, aR, aR, trivial⟩, trivial, h34_⟩
       ·refine RunC.regionW ?_
        refine zm (r := ik .u8 e3) ?_
        refine zl (r := b true) (LOp.eqb (LOp.leq rfl rfl rfl) hc5) ?_
        refine zm (r := b true) ?_
        refine zm (r := ik .u8 e3) ?_
        refine zl (r := b false) (LOp.eqb (LOp.leq rfl rfl rfl) hc6) ?_
        refine zl (r := b false) (LOp.pick_true rfl rfl rfl) ?_
        refine za (r := b false) ?_
        refine zN ?_
        refine RunC.cond_false rfl rfl ?_
        refine RunC.seq ?_
        obtain ⟨r5, hf8, h34_⟩ := obind_some h34_
        rcases bsel_some h34_ with ⟨hc9, h34_⟩ | ⟨hc9, h34_⟩
        ·obtain ⟨r6, hf10, h34_⟩ := obind_some h34_
         rcases bsel_some h34_ with ⟨hc11, h34_⟩ | ⟨hc11, h34_⟩
         ·refine RunC.regionW ?_
          refine zm (r := ik .u8 e3) ?_
          refine ROps.d (r := ik .u8 r5) (fs := []) (Γ' := []) rfl rfl rfl (TOp.callB (CallAs.func ent124 rfl rfl) (Bors.cons (Bor.pure rfl) Bors.nil) rfl rfl (x_internal_strconv_lower_ok e3 r5 hf8)) rfl ?_
          refine zl (r := b true) (LOp.eqb (LOp.leq rfl rfl rfl) hc9) ?_
          refine zm (r := b true) ?_
          refine zm (r := ik .u8 e3) ?_
          refine ROps.d (r := ik .u8 r6) (fs := []) (Γ' := []) rfl rfl rfl (TOp.callB (CallAs.func ent124 rfl rfl) (Bors.cons (Bor.pure rfl) Bors.nil) rfl rfl (x_internal_strconv_lower_ok e3 r6 hf10)) rfl ?_
          refine zl (r := b true) (LOp.eqb (LOp.leq rfl rfl rfl) hc11) ?_
          refine zl (r := b true) (LOp.pick_true rfl rfl rfl) ?_
          refine za (r := b true) ?_
          refine zN ?_
          refine RunC.wl (τ' := [(1, i64 16), (8, b false), (9, str a0), (10, ik .u64 1152921504606846976), (11, ik .u64 4294967295), (12, b false), (13, ik .u64 v1), (15, ik .u8 e3), (99, sl (bytI a0).length ((bytI a0).map (ik .u8))), (100, i64 ((bytI a0).length : Int)), (101, i64 v2), (110, b false), (116, ik .u8 e3), (117, b false), (121, b true), (126, ik .u8 e3), (127, ik .u8 r6), (128, b true)]) (Γ' := []) ⟨aR, aR, aR, aR, aR, aR, aR, aR, aR, aR, aR, aR, aR, aR, aR, aR, aR, aR, trivial⟩ trivial ?_
          refine RunC.cond_true rfl rfl ?_
          obtain ⟨r7, hf12, h34_⟩ := obind_some h34_
          obtain ⟨x8, hx13, h34_⟩ := olet_some h34_
          obtain ⟨x9, hx14, h34_⟩ := olet_some h34_
          refine RunC.regionW ?_
          refine zm (r := ik .u8 e3) ?_
          refine ROps.d (r := ik .u8 r7) (fs := []) (Γ' := []) rfl rfl rfl (TOp.callB (CallAs.func ent124 rfl rfl) (Bors.cons (Bor.pure rfl) Bors.nil) rfl rfl (x_internal_strconv_lower_ok e3 r7 hf12)) rfl ?_
          refine zl (r := ik .u8 x8) (LOp.eqr (LOp.sub rfl rfl rfl) (congrArg (ik .u8) hx13)) ?_
          refine zl (r := ik .u8 x9) (LOp.eqr (LOp.add rfl rfl rfl) (congrArg (ik .u8) hx14)) ?_
          refine za (r := ik .u8 x9) ?_
          refine zN ?_
          exact ⟨x9, ⟨aR, aR, aR, aR, aR, aR, aR, aR, aR, aR, aR, trivial⟩, trivial, h34_⟩
         ·refine RunC.regionW ?_
          refine zm (r := ik .u8 e3) ?_
          refine ROps.d (r := ik .u8 r5) (fs := []) (Γ' := []) rfl rfl rfl (TOp.callB (CallAs.func ent124 rfl rfl) (Bors.cons (Bor.pure rfl) Bors.nil) rfl rfl (x_internal_strconv_lower_ok e3 r5 hf8)) rfl ?_
          refine zl (r := b true) (LOp.eqb (LOp.leq rfl rfl rfl) hc9) ?_
          refine zm (r := b true) ?_
          refine zm (r := ik .u8 e3) ?_
          refine ROps.d (r := ik .u8 r6) (fs := []) (Γ' := []) rfl rfl rfl (TOp.callB (CallAs.func ent124 rfl rfl) (Bors.cons (Bor.pure rfl) Bors.nil) rfl rfl (x_internal_strconv_lower_ok e3 r6 hf10)) rfl ?_
          refine zl (r := b false) (LOp.eqb (LOp.leq rfl rfl rfl) hc11) ?_
          refine zl (r := b false) (LOp.pick_true rfl rfl rfl) ?_
          refine za (r := b false) ?_
          refine zN ?_
          refine RunC.wl (τ' := [(1, i64 16), (8, b false), (9, str a0), (10, ik .u64 1152921504606846976), (11, ik .u64 4294967295), (12, b false), (13, ik .u64 v1), (15, ik .u8 e3), (99, sl (bytI a0).length ((bytI a0).map (ik .u8))), (100, i64 ((bytI a0).length : Int)), (101, i64 v2), (110, b false), (116, ik .u8 e3), (117, b false), (121, b false), (126, ik .u8 e3), (127, ik .u8 r6), (128, b false)]) (Γ' := []) ⟨aR, aR, aR, aR, aR, aR, aR, aR, aR, aR, aR, aR, aR, aR, aR, aR, aR, aR, trivial⟩ trivial ?_
          refine RunC.cond_false rfl rfl ?_
          refine zQ ?_
          refine zl (r := x (.iface 140 (.int .i64 2))) (LOp.mkif (v := .int .i64 2) und140 rfl rfl) ?_
          refine za (r := ik .u64 0) ?_
          refine za (r := x (.iface 140 (.int .i64 2))) ?_
          refine zN ?_
          cases Option.some.inj h34_
          have hx35_ := hr34 _ rfl
          subst hx35_
          cases Option.some.inj h
        ·refine RunC.regionW ?_
         refine zm (r := ik .u8 e3) ?_
         refine ROps.d (r := ik .u8 r5) (fs := []) (Γ' := []) rfl rfl rfl (TOp.callB (CallAs.func ent124 rfl rfl) (Bors.cons (Bor.pure rfl) Bors.nil) rfl rfl (x_internal_strconv_lower_ok e3 r5 hf8)) rfl ?_
         refine zl (r := b false) (LOp.eqb (LOp.leq rfl rfl rfl) hc9) ?_
         refine zm (r := b false) ?_
         iterate 3 (refine ROps.s rfl rfl rfl ?_)
         refine zl (r := b false) (LOp.pick_false rfl rfl rfl) ?_
         refine za (r := b false) ?_
         refine zN ?_
         refine RunC.wl (τ' := [(1, i64 16), (8, b false), (9, str a0), (10, ik .u64 1152921504606846976), (11, ik .u64 4294967295), (12, b false), (13, ik .u64 v1), (15, ik .u8 e3), (99, sl (bytI a0).length ((bytI a0).map (ik .u8))), (100, i64 ((bytI a0).length : Int)), (101, i64 v2), (110, b false), (116, ik .u8 e3), (117, b false), (121, b false)]) (Γ' := []) ⟨aR, aR, aR, aR, aR, aR, aR, aR, aR, aR, aR, aR, aR, aR, aR, trivial⟩ trivial ?_
         refine RunC.cond_false rfl rfl ?_
         refine zQ ?_
         refine zl (r := x (.iface 140 (.int .i64 2))) (LOp.mkif (v := .int .i64 2) und140 rfl rfl) ?_
         refine za (r := ik .u64 0) ?_
         refine za (r := x (.iface 140 (.int .i64 2))) ?_
         refine zN ?_
         cases Option.some.inj h34_
         have hx36_ := hr34 _ rfl
         subst hx36_
         cases Option.some.inj h
      ·refine RunC.regionW ?_
       refine zm (r := ik .u8 e3) ?_
       refine zl (r := b false) (LOp.eqb (LOp.leq rfl rfl rfl) hc5) ?_
       refine zm (r := b false) ?_
       iterate 2 (refine ROps.s rfl rfl rfl ?_)
       refine zl (r := b false) (LOp.pick_false rfl rfl rfl) ?_
       refine za (r := b false) ?_
       refine zN ?_
       refine RunC.cond_false rfl rfl ?_
       refine RunC.seq ?_
       obtain ⟨r10, hf15, h34_⟩ := obind_some h34_
       rcases bsel_some h34_ with ⟨hc16, h34_⟩ | ⟨hc16, h34_⟩
       ·obtain ⟨r11, hf17, h34_⟩ := obind_some h34_
        rcases bsel_some h34_ with ⟨hc18, h34_⟩ | ⟨hc18, h34_⟩
        ·refine RunC.regionW ?_
         refine zm (r := ik .u8 e3) ?_
         refine ROps.d (r := ik .u8 r10) (fs := []) (Γ' := []) rfl rfl rfl (TOp.callB (CallAs.func ent124 rfl rfl) (Bors.cons (Bor.pure rfl) Bors.nil) rfl rfl (x_internal_strconv_lower_ok e3 r10 hf15)) rfl ?_
         refine zl (r := b true) (LOp.eqb (LOp.leq rfl rfl rfl) hc16) ?_
         refine zm (r := b true) ?_
         refine zm (r := ik .u8 e3) ?_
         refine ROps.d (r := ik .u8 r11) (fs := []) (Γ' := []) rfl rfl rfl (TOp.callB (CallAs.func ent124 rfl rfl) (Bors.cons (Bor.pure rfl) Bors.nil) rfl rfl (x_internal_strconv_lower_ok e3 r11 hf17)) rfl ?_
         refine zl (r := b true) (LOp.eqb (LOp.leq rfl rfl rfl) hc18) ?_
         refine zl (r := b true) (LOp.pick_true rfl rfl rfl) ?_
         refine za (r := b true) ?_
         refine zN ?_
         refine RunC.wl (τ' := [(1, i64 16), (8, b false), (9, str a0), (10, ik .u64 1152921504606846976), (11, ik .u64 4294967295), (12, b false), (13, ik .u64 v1), (15, ik .u8 e3), (99, sl (bytI a0).length ((bytI a0).map (ik .u8))), (100, i64 ((bytI a0).length : Int)), (101, i64 v2), (110, b false), (121, b true), (126, ik .u8 e3), (127, ik .u8 r11), (128, b true)]) (Γ' := []) ⟨aR, aR, aR, aR, aR, aR, aR, aR, aR, aR, aR, aR, aR, aR, aR, aR, trivial⟩ trivial ?_
         refine RunC.cond_true rfl rfl ?_
         obtain ⟨r12, hf19, h34_⟩ := obind_some h34_
         obtain ⟨x13, hx20, h34_⟩ := olet_some h34_
         obtain ⟨x14, hx21, h34_⟩ := olet_some h34_
         refine RunC.regionW ?_
         refine zm (r := ik .u8 e3) ?_
         refine ROps.d (r := ik .u8 r12) (fs := []) (Γ' := []) rfl rfl rfl (TOp.callB (CallAs.func ent124 rfl rfl) (Bors.cons (Bor.pure rfl) Bors.nil) rfl rfl (x_internal_strconv_lower_ok e3 r12 hf19)) rfl ?_
         refine zl (r := ik .u8 x13) (LOp.eqr (LOp.sub rfl rfl rfl) (congrArg (ik .u8) hx20)) ?_
         refine zl (r := ik .u8 x14) (LOp.eqr (LOp.add rfl rfl rfl) (congrArg (ik .u8) hx21)) ?_
         refine za (r := ik .u8 x14) ?_
         refine zN ?_
         exact ⟨x14, ⟨aR, aR, aR, aR, aR, aR, aR, aR, aR, aR, aR, trivial⟩, trivial, h34_⟩
        ·refine RunC.regionW ?_
         refine zm (r := ik .u8 e3) ?_
         refine ROps.d (r := ik .u8 r10) (fs := []) (Γ' := []) rfl rfl rfl (TOp.callB (CallAs.func ent124 rfl rfl) (Bors.cons (Bor.pure rfl) Bors.nil) rfl rfl (x_internal_strconv_lower_ok e3 r10 hf15)) rfl ?_
         refine zl (r := b true) (LOp.eqb (LOp.leq rfl rfl rfl) hc16) ?_
         refine zm (r := b true) ?_
         refine zm (r := ik .u8 e3) ?_
         refine ROps.d (r := ik .u8 r11) (fs := []) (Γ' := []) rfl rfl rfl (TOp.callB (CallAs.func ent124 rfl rfl) (Bors.cons (Bor.pure rfl) Bors.nil) rfl rfl (x_internal_strconv_lower_ok e3 r11 hf17)) rfl ?_
         refine zl (r := b false) (LOp.eqb (LOp.leq rfl rfl rfl) hc18) ?_
         refine zl (r := b false) (LOp.pick_true rfl rfl rfl) ?_
         refine za (r := b false) ?_
         refine zN ?_
         refine RunC.wl (τ' := [(1, i64 16), (8, b false), (9, str a0), (10, ik .u64 1152921504606846976), (11, ik .u64 4294967295), (12, b false), (13, ik .u64 v1), (15, ik .u8 e3), (99, sl (bytI a0).length ((bytI a0).map (ik .u8))), (100, i64 ((bytI a0).length : Int)), (101, i64 v2), (110, b false), (121, b false), (126, ik .u8 e3), (127, ik .u8 r11), (128, b false)]) (Γ' := []) ⟨aR, aR, aR, aR, aR, aR, aR, aR, aR, aR, aR, aR, aR, aR, aR, aR, trivial⟩ trivial ?_
         refine RunC.cond_false rfl rfl ?_
         refine zQ ?_
         refine zl (r := x (.iface 140 (.int .i64 2))) (LOp.mkif (v := .int .i64 2) und140 rfl rfl) ?_
         refine za (r := ik .u64 0) ?_
         refine za (r := x (.iface 140 (.int .i64 2))) ?_
         refine zN ?_
         cases Option.some.inj h34_
         have hx37_ := hr34 _ rfl
         subst hx37_
         cases Option.some.inj h
       ·refine RunC.regionW ?_
        refine zm (r := ik .u8 e3) ?_
        refine ROps.d (r := ik .u8 r10) (fs := []) (Γ' := []) rfl rfl rfl (TOp.callB (CallAs.func ent124 rfl rfl) (Bors.cons (Bor.pure rfl) Bors.nil) rfl rfl (x_internal_strconv_lower_ok e3 r10 hf15)) rfl ?_
        refine zl (r := b false) (LOp.eqb (LOp.leq rfl rfl rfl) hc16) ?_
        refine zm (r := b false) ?_
        iterate 3 (refine ROps.s rfl rfl rfl ?_)
        refine zl (r := b false) (LOp.pick_false rfl rfl rfl) ?_
        refine za (r := b false) ?_
        refine zN ?_
        refine RunC.wl (τ' := [(1, i64 16), (8, b false), (9, str a0), (10, ik .u64 1152921504606846976), (11, ik .u64 4294967295), (12, b false), (13, ik .u64 v1), (15, ik .u8 e3), (99, sl (bytI a0).length ((bytI a0).map (ik .u8))), (100, i64 ((bytI a0).length : Int)), (101, i64 v2), (110, b false), (121, b false)]) (Γ' := []) ⟨aR, aR, aR, aR, aR, aR, aR, aR, aR, aR, aR, aR, aR, trivial⟩ trivial ?_
        refine RunC.cond_false rfl rfl ?_
        refine zQ ?_
        refine zl (r := x (.iface 140 (.int .i64 2))) (LOp.mkif (v := .int .i64 2) und140 rfl rfl) ?_
        refine za (r := ik .u64 0) ?_
        refine za (r := x (.iface 140 (.int .i64 2))) ?_
        refine zN ?_
        cases Option.some.inj h34_
        have hx38_ := hr34 _ rfl
        subst hx38_
        cases Option.some.inj h
     ·refine RunC.regionW ?_
      refine zm (r := ik .u8 e3) ?_
      refine zl (r := b false) (LOp.eqb (LOp.eql rfl rfl rfl) hc4) ?_
      refine zm (r := b false) ?_
      refine ROps.s rfl rfl rfl ?_
      refine zl (r := b false) (LOp.pick_false rfl rfl rfl) ?_
      refine za (r := b false) ?_
      refine zN ?_
      refine RunC.cond_false rfl rfl ?_
      refine RunC.seq ?_
      rcases bsel_some h34_ with ⟨hc22, h34_⟩ | ⟨hc22, h34_⟩
      ·rcases bsel_some h34_ with ⟨hc23, h34_⟩ | ⟨hc23, h34_⟩
       ·refine RunC.regionW ?_
        refine zm (r := ik .u8 e3) ?_
        refine zl (r := b true) (LOp.eqb (LOp.leq rfl rfl rfl) hc22) ?_
        refine zm (r := b true) ?_
        refine zm (r := ik .u8 e3) ?_
        refine zl (r := b true) (LOp.eqb (LOp.leq rfl rfl rfl) hc23) ?_
        refine zl (r := b true) (LOp.pick_true rfl rfl rfl) ?_
        refine za (r := b true) ?_
        refine zN ?_
        refine RunC.cond_true rfl rfl ?_
        obtain ⟨x15, hx24, h34_⟩ := olet_some h34_
        refine RunC.regionW ?_
        refine zm (r := ik .u8 e3) ?_
        refine zl (r := ik .u8 x15) (LOp.eqr (LOp.sub rfl rfl rfl) (congrArg (ik .u8) hx24)) ?_
        refine za (r := ik .u8 x15) ?_
        refine zN ?_
        exact ⟨x15, ⟨aR, aR, aR, aR, aR, aR, aR, aR, aR, aR, aR, trivial⟩, trivial, h34_⟩
       ·refine RunC.regionW ?_
        refine zm (r := ik .u8 e3) ?_
        refine zl (r := b true) (LOp.eqb (LOp.leq rfl rfl rfl) hc22) ?_
        refine zm (r := b true) ?_
        refine zm (r := ik .u8 e3) ?_
        refine zl (r := b false) (LOp.eqb (LOp.leq rfl rfl rfl) hc23) ?_
        refine zl (r := b false) (LOp.pick_true rfl rfl rfl) ?_
        refine za (r := b false) ?_
        refine zN ?_
        refine RunC.cond_false rfl rfl ?_
        refine RunC.seq ?_
        obtain ⟨r16, hf25, h34_⟩ := obind_some h34_
        rcases bsel_some h34_ with ⟨hc26, h34_⟩ | ⟨hc26, h34_⟩
        ·obtain ⟨r17, hf27, h34_⟩ := obind_some h34_
         rcases bsel_some h34_ with ⟨hc28, h34_⟩ | ⟨hc28, h34_⟩
         ·refine RunC.regionW ?_
          refine zm (r := ik .u8 e3) ?_
          refine ROps.d (r := ik .u8 r16) (fs := []) (Γ' := []) rfl rfl rfl (TOp.callB (CallAs.func ent124 rfl rfl) (Bors.cons (Bor.pure rfl) Bors.nil) rfl rfl (x_internal_strconv_lower_ok e3 r16 hf25)) rfl ?_
          refine zl (r := b true) (LOp.eqb (LOp.leq rfl rfl rfl) hc26) ?_
          refine zm (r := b true) ?_
          refine zm (r := ik .u8 e3) ?_
          refine ROps.d (r := ik .u8 r17) (fs := []) (Γ' := []) rfl rfl rfl (TOp.callB (CallAs.func ent124 rfl rfl) (Bors.cons (Bor.pure rfl) Bors.nil) rfl rfl (x_internal_strconv_lower_ok e3 r17 hf27)) rfl ?_
          refine zl (r := b true) (LOp.eqb (LOp.leq rfl rfl rfl) hc28) ?_
          refine zl (r := b true) (LOp.pick_true rfl rfl rfl) ?_
          refine za (r := b true) ?_
          refine zN ?_
          refine RunC.wl (τ' := [(1, i64 16), (8, b false), (9, str a0), (10, ik .u64 1152921504606846976), (11, ik .u64 4294967295), (12, b false), (13, ik .u64 v1), (15, ik .u8 e3), (99, sl (bytI a0).length ((bytI a0).map (ik .u8))), (100, i64 ((bytI a0).length : Int)), (101, i64 v2), (116, ik .u8 e3), (117, b false), (121, b true), (126, ik .u8 e3), (127, ik .u8 r17), (128, b true)]) (Γ' := []) ⟨aR, aR, aR, aR, aR, aR, aR, aR, aR, aR, aR, aR, aR, aR, aR, aR, aR, trivial⟩ trivial ?_
          refine RunC.cond_true rfl rfl ?_
          obtain ⟨r18, hf29, h34_⟩ := obind_some h34_
          obtain ⟨x19, hx30, h34_⟩ := olet_some h34_
          obtain ⟨x20, hx31, h34_⟩ := olet_some h34_
          refine RunC.regionW ?_
          refine zm (r := ik .u8 e3) ?_
          refine ROps.d (r := ik .u8 r18) (fs := []) (Γ' := []) rfl rfl rfl (TOp.callB (CallAs.func ent124 rfl rfl) (Bors.cons (Bor.pure rfl) Bors.nil) rfl rfl (x_internal_strconv_lower_ok e3 r18 hf29)) rfl ?_
          refine zl (r := ik .u8 x19) (LOp.eqr (LOp.sub rfl rfl rfl) (congrArg (ik .u8) hx30)) ?_
          refine zl (r := ik .u8 x20) (LOp.eqr (LOp.add rfl rfl rfl) (congrArg (ik .u8) hx31)) ?_
          refine za (r := ik .u8 x20) ?_
          refine zN ?_
          exact ⟨x20, ⟨aR, aR, aR, aR, aR, aR, aR, aR, aR, aR, aR, trivial⟩, trivial, h34_⟩
         ·refine RunC.regionW ?_
          refine zm (r := ik .u8 e3) ?_
          refine ROps.d (r := ik .u8 r16) (fs := []) (Γ' := []) rfl rfl rfl (TOp.callB (CallAs.func ent124 rfl rfl) (Bors.cons (Bor.pure rfl) Bors.nil) rfl rfl (x_internal_strconv_lower_ok e3 r16 hf25)) rfl ?_
          refine zl (r := b true) (LOp.eqb (LOp.leq rfl rfl rfl) hc26) ?_
          refine zm (r := b true) ?_
          refine zm (r := ik .u8 e3) ?_
          refine ROps.d (r := ik .u8 r17) (fs := []) (Γ' := []) rfl rfl rfl (TOp.callB (CallAs.func ent124 rfl rfl) (Bors.cons (Bor.pure rfl) Bors.nil) rfl rfl (x_internal_strconv_lower_ok e3 r17 hf27)) rfl ?_
          refine zl (r := b false) (LOp.eqb (LOp.leq rfl rfl rfl) hc28) ?_
          refine zl (r := b false) (LOp.pick_true rfl rfl rfl) ?_
          refine za (r := b false) ?_
          refine zN ?_
          refine RunC.wl (τ' := [(1, i64 16), (8, b false), (9, str a0), (10, ik .u64 1152921504606846976), (11, ik .u64 4294967295), (12, b false), (13, ik .u64 v1), (15, ik .u8 e3), (99, sl (bytI a0).length ((bytI a0).map (ik .u8))), (100, i64 ((bytI a0).length : Int)), (101, i64 v2), (116, ik .u8 e3), (117, b false), (121, b false), (126, ik .u8 e3), (127, ik .u8 r17), (128, b false)]) (Γ' := []) ⟨aR, aR, aR, aR, aR, aR, aR, aR, aR, aR, aR, aR, aR, aR, aR, aR, aR, trivial⟩ trivial ?_
          refine RunC.cond_false rfl rfl ?_
          refine zQ ?_
          refine zl (r := x (.iface 140 (.int .i64 2))) (LOp.mkif (v := .int .i64 2) und140 rfl rfl) ?_
          refine za (r := ik .u64 0) ?_
          refine za (r := x (.iface 140 (.int .i64 2))) ?_
          refine zN ?_
          cases Option.some.inj h34_
          have hx39_ := hr34 _ rfl
          subst hx39_
          cases Option.some.inj h
        ·refine RunC.regionW ?_
         refine zm (r := ik .u8 e3) ?_
         refine ROps.d (r := ik .u8 r16) (fs := []) (Γ' := []) rfl rfl rfl (TOp.callB (CallAs.func ent124 rfl rfl) (Bors.cons (Bor.pure rfl) Bors.nil) rfl rfl (x_internal_strconv_lower_ok e3 r16 hf25)) rfl ?_
         refine zl (r := b false) (LOp.eqb (LOp.leq rfl rfl rfl) hc26) ?_
         refine zm (r := b false) ?_
         iterate 3 (refine ROps.s rfl rfl rfl ?_)
         refine zl (r := b false) (LOp.pick_false rfl rfl rfl) ?_
         refine za (r := b false) ?_
         refine zN ?_
         refine RunC.wl (τ' := [(1, i64 16), (8, b false), (9, str a0), (10, ik .u64 1152921504606846976), (11, ik .u64 4294967295), (12, b false), (13, ik .u64 v1), (15, ik .u8 e3), (99, sl (bytI a0).length ((bytI a0).map (ik .u8))), (100, i64 ((bytI a0).length : Int)), (101, i64 v2), (116, ik .u8 e3), (117, b false), (121, b false)]) (Γ' := []) ⟨aR, aR, aR, aR, aR, aR, aR, aR, aR, aR, aR, aR, aR, aR, trivial⟩ trivial ?_
         refine RunC.cond_false rfl rfl ?_
         refine zQ ?_
         refine zl (r := x (.iface 140 (.int .i64 2))) (LOp.mkif (v := .int .i64 2) und140 rfl rfl) ?_
         refine za (r := ik .u64 0) ?_
         refine za (r := x (.iface 140 (.int .i64 2))) ?_
         refine zN ?_
         cases Option.some.inj h34_
         have hx40_ := hr34 _ rfl
         subst hx40_
         cases Option.some.inj h
      ·refine RunC.regionW ?_
       refine zm (r := ik .u8 e3) ?_
       refine zl (r := b false) (LOp.eqb (LOp.leq rfl rfl rfl) hc22) ?_
       refine zm (r := b false) ?_
       iterate 2 (refine ROps.s rfl rfl rfl ?_)
       refine zl (r := b false) (LOp.pick_false rfl rfl rfl) ?_
       refine za (r := b false) ?_
       refine zN ?_
       refine RunC.cond_false rfl rfl ?_
       refine RunC.seq ?_
       obtain ⟨r21, hf32, h34_⟩ := obind_some h34_
       rcases bsel_some h34_ with ⟨hc33, h34_⟩ | ⟨hc33, h34_⟩
       ·obtain ⟨r22, hf34, h34_⟩ := obind_some h34_
        rcases bsel_some h34_ with ⟨hc35, h34_⟩ | ⟨hc35, h34_⟩
        ·refine RunC.regionW ?_
         refine zm (r := ik .u8 e3) ?_
         refine ROps.d (r := ik .u8 r21) (fs := []) (Γ' := []) rfl rfl rfl (TOp.callB (CallAs.func ent124 rfl rfl) (Bors.cons (Bor.pure rfl) Bors.nil) rfl rfl (x_internal_strconv_lower_ok e3 r21 hf32)) rfl ?_
         refine zl (r := b true) (LOp.eqb (LOp.leq rfl rfl rfl) hc33) ?_
         refine zm (r := b true) ?_
         refine zm (r := ik .u8 e3) ?_
         refine ROps.d (r := ik .u8 r22) (fs := []) (Γ' := []) rfl rfl rfl (TOp.callB (CallAs.func ent124 rfl rfl) (Bors.cons (Bor.pure rfl) Bors.nil) rfl rfl (x_internal_strconv_lower_ok e3 r22 hf34)) rfl ?_
         refine zl (r := b true) (LOp.eqb (LOp.leq rfl rfl rfl) hc35) ?_
         refine zl (r := b true) (LOp.pick_true rfl rfl rfl) ?_
         refine za (r := b true) ?_
         refine zN ?_
         refine RunC.wl (τ' := [(1, i64 16), (8, b false), (9, str a0), (10, ik .u64 1152921504606846976), (11, ik .u64 4294967295), (12, b false), (13, ik .u64 v1), (15, ik .u8 e3), (99, sl (bytI a0).length ((bytI a0).map (ik .u8))), (100, i64 ((bytI a0).length : Int)), (101, i64 v2), (121, b true), (126, ik .u8 e3), (127, ik .u8 r22), (128, b true)]) (Γ' := []) ⟨aR, aR, aR, aR, aR, aR, aR, aR, aR, aR, aR, aR, aR, aR, aR, trivial⟩ trivial ?_
         refine RunC.cond_true rfl rfl ?_
         obtain ⟨r23, hf36, h34_⟩ := obind_some h34_
         obtain ⟨x24, hx37, h34_⟩ := olet_some h34_
         obtain ⟨x25, hx38, h34_⟩ := olet_some h34_
         refine RunC.regionW ?_
         refine zm (r := ik .u8 e3) ?_
         refine ROps.d (r := ik .u8 r23) (fs := []) (Γ' := []) rfl rfl rfl (TOp.callB (CallAs.func ent124 rfl rfl) (Bors.cons (Bor.pure rfl) Bors.nil) rfl rfl (x_internal_strconv_lower_ok e3 r23 hf36)) rfl ?_
         refine zl (r := ik .u8 x24) (LOp.eqr (LOp.sub rfl rfl rfl) (congrArg (ik .u8) hx37)) ?_
         refine zl (r := ik .u8 x25) (LOp.eqr (LOp.add rfl rfl rfl) (congrArg (ik .u8) hx38)) ?_
         refine za (r := ik .u8 x25) ?_
         refine zN ?_
         exact ⟨x25, ⟨aR, aR, aR, aR, aR, aR, aR, aR, aR, aR, aR, trivial⟩, trivial, h34_⟩
        ·refine RunC.regionW ?_
         refine zm (r := ik .u8 e3) ?_
         refine ROps.d (r := ik .u8 r21) (fs := []) (Γ' := []) rfl rfl rfl (TOp.callB (CallAs.func ent124 rfl rfl) (Bors.cons (Bor.pure rfl) Bors.nil) rfl rfl (x_internal_strconv_lower_ok e3 r21 hf32)) rfl ?_
         refine zl (r := b true) (LOp.eqb (LOp.leq rfl rfl rfl) hc33) ?_
         refine zm (r := b true) ?_
         refine zm (r := ik .u8 e3) ?_
         refine ROps.d (r := ik .u8 r22) (fs := []) (Γ' := []) rfl rfl rfl (TOp.callB (CallAs.func ent124 rfl rfl) (Bors.cons (Bor.pure rfl) Bors.nil) rfl rfl (x_internal_strconv_lower_ok e3 r22 hf34)) rfl ?_
         refine zl (r := b false) (LOp.eqb (LOp.leq rfl rfl rfl) hc35) ?_
         refine zl (r := b false) (LOp.pick_true rfl rfl rfl) ?_
         refine za (r := b false) ?_
         refine zN ?_
         refine RunC.wl (τ' := [(1, i64 16), (8, b false), (9, str a0), (10, ik .u64 1152921504606846976), (11, ik .u64 4294967295), (12, b false), (13, ik .u64 v1), (15, ik .u8 e3), (99, sl (bytI a0).length ((bytI a0).map (ik .u8))), (100, i64 ((bytI a0).length : Int)), (101, i64 v2), (121, b false), (126, ik .u8 e3), (127, ik .u8 r22), (128, b false)]) (Γ' := []) ⟨aR, aR, aR, aR, aR, aR, aR, aR, aR, aR, aR, aR, aR, aR, aR, trivial⟩ trivial ?_
         refine RunC.cond_false rfl rfl ?_
         refine zQ ?_
         refine zl (r := x (.iface 140 (.int .i64 2))) (LOp.mkif (v := .int .i64 2) und140 rfl rfl) ?_
         refine za (r := ik .u64 0) ?_
         refine za (r := x (.iface 140 (.int .i64 2))) ?_
         refine zN ?_
         cases Option.some.inj h34_
         have hx41_ := hr34 _ rfl
         subst hx41_
         cases Option.some.inj h
       ·refine RunC.regionW ?_
        refine zm (r := ik .u8 e3) ?_
        refine ROps.d (r := ik .u8 r21) (fs := []) (Γ' := []) rfl rfl rfl (TOp.callB (CallAs.func ent124 rfl rfl) (Bors.cons (Bor.pure rfl) Bors.nil) rfl rfl (x_internal_strconv_lower_ok e3 r21 hf32)) rfl ?_
        refine zl (r := b false) (LOp.eqb (LOp.leq rfl rfl rfl) hc33) ?_
        refine zm (r := b false) ?_
        iterate 3 (refine ROps.s rfl rfl rfl ?_)
        refine zl (r := b false) (LOp.pick_false rfl rfl rfl) ?_
        refine za (r := b false) ?_
        refine zN ?_
        refine RunC.wl (τ' := [(1, i64 16), (8, b false), (9, str a0), (10, ik .u64 1152921504606846976), (11, ik .u64 4294967295), (12, b false), (13, ik .u64 v1), (15, ik .u8 e3), (99, sl (bytI a0).length ((bytI a0).map (ik .u8))), (100, i64 ((bytI a0).length : Int)), (101, i64 v2), (121, b false)]) (Γ' := []) ⟨aR, aR, aR, aR, aR, aR, aR, aR, aR, aR, aR, aR, trivial⟩ trivial ?_
        refine RunC.cond_false rfl rfl ?_
        refine zQ ?_
        refine zl (r := x (.iface 140 (.int .i64 2))) (LOp.mkif (v := .int .i64 2) und140 rfl rfl) ?_
        refine za (r := ik .u64 0) ?_
        refine za (r := x (.iface 140 (.int .i64 2))) ?_
        refine zN ?_
        cases Option.some.inj h34_
        have hx42_ := hr34 _ rfl
        subst hx42_
        cases Option.some.inj h
    ·rintro τ43 Γ43 ⟨v26, hw43, hd43, h34_⟩
     refine RunC.wl hw43 hd43 ?_
     unfold x_internal_strconv_ParseUint_k2 at h34_
     iterate 2 (refine RunC.seq ?_)
     rcases bsel_some h34_ with ⟨hc39, h34_⟩ | ⟨hc39, h34_⟩
     ·refine RunC.regionW ?_
      refine zm (r := ik .u8 v26) ?_
      refine zm (r := i64 16) ?_
      refine zl (r := ik .u8 16) ((show LOp _ _ _ (ik .u8 (IntKind.u8.wrap 16)) from LOp.i2i (src := 3) (dst := 5) ⟨_, pun3⟩ pun5 rfl rfl)) ?_
      refine zl (r := b true) (LOp.eqb (LOp.geq rfl rfl rfl) hc39) ?_
      refine zN ?_
      refine RunC.cond_true rfl rfl ?_
      refine zQ ?_
      refine zl (r := x (.iface 140 (.int .i64 2))) (LOp.mkif (v := .int .i64 2) und140 rfl rfl) ?_
      refine za (r := ik .u64 0) ?_
      refine za (r := x (.iface 140 (.int .i64 2))) ?_
      refine zN ?_
      cases Option.some.inj h34_
      have hx44_ := hr34 _ rfl
      subst hx44_
      cases Option.some.inj h
     ·refine RunC.regionW ?_
      refine zm (r := ik .u8 v26) ?_
      refine zm (r := i64 16) ?_
      refine zl (r := ik .u8 16) ((show LOp _ _ _ (ik .u8 (IntKind.u8.wrap 16)) from LOp.i2i (src := 3) (dst := 5) ⟨_, pun3⟩ pun5 rfl rfl)) ?_
      refine zl (r := b false) (LOp.eqb (LOp.geq rfl rfl rfl) hc39) ?_
      refine zN ?_
      refine RunC.cond_false rfl rfl ?_
      refine RunC.skip ?_
      iterate 2 (refine RunC.seq ?_)
      rcases bsel_some h34_ with ⟨hc40, h34_⟩ | ⟨hc40, h34_⟩
      ·refine RunC.regionW ?_
       refine zm (r := ik .u64 v1) ?_
       refine zm (r := ik .u64 1152921504606846976) ?_
       refine zl (r := b true) (LOp.eqb (LOp.geq rfl rfl rfl) hc40) ?_
       refine zN ?_
       refine RunC.cond_true rfl rfl ?_
       refine zQ ?_
       refine zm (r := ik .u64 4294967295) ?_
       refine zl (r := x (.iface 140 (.int .i64 1))) (LOp.mkif (v := .int .i64 1) und140 rfl rfl) ?_
       refine za (r := ik .u64 4294967295) ?_
       refine za (r := x (.iface 140 (.int .i64 1))) ?_
       refine zN ?_
       cases Option.some.inj h34_
       have hx45_ := hr34 _ rfl
       subst hx45_
       cases Option.some.inj h
      ·refine RunC.regionW ?_
       refine zm (r := ik .u64 v1) ?_
       refine zm (r := ik .u64 1152921504606846976) ?_
       refine zl (r := b false) (LOp.eqb (LOp.geq rfl rfl rfl) hc40) ?_
       refine zN ?_
       refine RunC.cond_false rfl rfl ?_
       refine RunC.skip ?_
       refine RunC.seq ?_
       obtain ⟨x27, hx41, h34_⟩ := olet_some h34_
       refine RunC.regionW ?_
       refine zm (r := ik .u64 v1) ?_
       refine zm (r := i64 16) ?_
       refine zl (r := ik .u64 16) ((show LOp _ _ _ (ik .u64 (IntKind.u64.wrap 16)) from LOp.i2i (src := 3) (dst := 90) ⟨_, pun3⟩ pun90 rfl rfl)) ?_
       refine zl (r := ik .u64 x27) (LOp.eqr (LOp.mul rfl rfl rfl) (congrArg (ik .u64) hx41)) ?_
       refine za (r := ik .u64 x27) ?_
       refine zN ?_
       refine RunC.seq ?_
       obtain ⟨x28, hx42, h34_⟩ := olet_some h34_
       obtain ⟨x29, hx43, h34_⟩ := olet_some h34_
       refine RunC.regionW ?_
       refine zm (r := ik .u64 x27) ?_
       refine zm (r := ik .u8 v26) ?_
       refine zl (r := ik .u64 x28) (LOp.eqr (LOp.i2i (src := 5) (dst := 90) ⟨_, pun5⟩ pun90 rfl rfl) (congrArg (ik .u64) hx42)) ?_
       refine zl (r := ik .u64 x29) (LOp.eqr (LOp.add rfl rfl rfl) (congrArg (ik .u64) hx43)) ?_
       refine za (r := ik .u64 x29) ?_
       refine zN ?_
       iterate 2 (refine RunC.seq ?_)
       rcases bsel_some h34_ with ⟨hc44, h34_⟩ | ⟨hc44, h34_⟩
       ·refine RunC.regionW ?_
        refine zm (r := ik .u64 x29) ?_
        refine zm (r := ik .u64 x27) ?_
        refine zl (r := b true) (LOp.eqb (LOp.lss rfl rfl rfl) hc44) ?_
        refine zm (r := b true) ?_
        iterate 3 (refine ROps.s rfl rfl rfl ?_)
        refine zl (r := b true) (LOp.pick_true rfl rfl rfl) ?_
        refine zN ?_
        refine RunC.cond_true rfl rfl ?_
        refine zQ ?_
        refine zm (r := ik .u64 4294967295) ?_
        refine zl (r := x (.iface 140 (.int .i64 1))) (LOp.mkif (v := .int .i64 1) und140 rfl rfl) ?_
        refine za (r := ik .u64 4294967295) ?_
        refine za (r := x (.iface 140 (.int .i64 1))) ?_
        refine zN ?_
        cases Option.some.inj h34_
        have hx46_ := hr34 _ rfl
        subst hx46_
        cases Option.some.inj h
       ·rcases bsel_some h34_ with ⟨hc45, h34_⟩ | ⟨hc45, h34_⟩
        ·refine RunC.regionW ?_
         refine zm (r := ik .u64 x29) ?_
         refine zm (r := ik .u64 x27) ?_
         refine zl (r := b false) (LOp.eqb (LOp.lss rfl rfl rfl) hc44) ?_
         refine zm (r := b false) ?_
         refine zm (r := ik .u64 x29) ?_
         refine zm (r := ik .u64 4294967295) ?_
         refine zl (r := b true) (LOp.eqb (LOp.gtr rfl rfl rfl) hc45) ?_
         refine zl (r := b true) (LOp.pick_false rfl rfl rfl) ?_
         refine zN ?_
         refine RunC.cond_true rfl rfl ?_
         refine zQ ?_
         refine zm (r := ik .u64 4294967295) ?_
         refine zl (r := x (.iface 140 (.int .i64 1))) (LOp.mkif (v := .int .i64 1) und140 rfl rfl) ?_
         refine za (r := ik .u64 4294967295) ?_
         refine za (r := x (.iface 140 (.int .i64 1))) ?_
         refine zN ?_
         cases Option.some.inj h34_
         have hx47_ := hr34 _ rfl
         subst hx47_
         cases Option.some.inj h
        ·refine RunC.regionW ?_
         refine zm (r := ik .u64 x29) ?_
         refine zm (r := ik .u64 x27) ?_
         refine zl (r := b false) (LOp.eqb (LOp.lss rfl rfl rfl) hc44) ?_
         refine zm (r := b false) ?_
         refine zm (r := ik .u64 x29) ?_
         refine zm (r := ik .u64 4294967295) ?_
         refine zl (r := b false) (LOp.eqb (LOp.gtr rfl rfl rfl) hc45) ?_
         refine zl (r := b false) (LOp.pick_false rfl rfl rfl) ?_
         refine zN ?_
         refine RunC.cond_false rfl rfl ?_
         refine RunC.skip ?_
         refine RunC.wl (τ' := [(1, i64 16), (8, b false), (9, str a0), (10, ik .u64 1152921504606846976), (11, ik .u64 4294967295), (12, b false), (17, ik .u64 x29), (99, sl (bytI a0).length ((bytI a0).map (ik .u8))), (100, i64 ((bytI a0).length : Int)), (101, i64 v2), (156, ik .u64 x29), (157, ik .u64 4294967295), (158, b false)]) (Γ' := []) ⟨aR, aR, aR, aR, aR, aR, aR, aR, aR, aR, aR, aR, aR, trivial⟩ trivial ?_
         refine RunC.regionW ?_
         refine zm (r := ik .u64 x29) ?_
         refine za (r := ik .u64 x29) ?_
         refine zN ?_
         obtain ⟨x30, hx46, h34_⟩ := olet_some h34_
         refine RunC.regionW ?_
         refine zl (r := i64 x30) (LOp.eqr (LOp.add rfl rfl rfl) (congrArg (ik .i64) hx46)) ?_
         refine zm (r := i64 x30) ?_
         refine zN ?_
         cases Option.some.inj h34_
         exact ⟨_, rfl, ⟨aR, aR, aR, aR, aR, aR, aR, aR, aR, aR, trivial⟩, trivial⟩
   ·refine RunC.regionW ?_
    refine zl (r := b false) (LOp.eqb (LOp.lss rfl rfl rfl) hc2) ?_
    refine zN ?_
    refine RunC.seq ?_
    refine RunC.cond_false rfl rfl ?_
    refine RunC.exit ?_
    cases Option.some.inj h34_
    have hx := ho34 _ rfl
    exact ⟨v1, ⟨aR, aR, aR, trivial⟩, trivial, hx⟩
  ·rintro τ48 Γ48 ⟨v31, hw48, hd48, rfl⟩
   refine RunC.wl hw48 hd48 ?_
   replace h : x_internal_strconv_ParseUint_k3 v31 = some (Sum.inr (Sum.inr q0)) := h
   unfold x_internal_strconv_ParseUint_k3 at h
   refine RunC.seq ?_
   refine zQ ?_
   iterate 2 (refine zm (r := b false) ?_)
   iterate 3 (refine ROps.s rfl rfl rfl ?_)
   refine zl (r := b false) (LOp.pick_false rfl rfl rfl) ?_
   refine zN ?_
   refine RunC.cond_false rfl rfl ?_
   refine RunC.skip ?_
   refine zQ ?_
   refine zm (r := ik .u64 v31) ?_
   refine za (r := ik .u64 v31) ?_
   refine za (r := x .nilIface) ?_
   refine zN ?_
   refine RunC.ret ?_
   have hq := Option.some.inj h
   have hq := Sum.inr.inj hq
   have hq := Sum.inr.inj hq
   subst q0
   exact bodyQ.pure (.inr rfl) rfl (Res.two rfl (RV.tmp rfl) (RV.tmp rfl))
noncomputable def x_strconv_toError_syntax (a0 a1 : ByteArray) (a2 a3 : Int) : Option Unit :=
 need (decide (a1.size ≤ 281474976710656)) <|
 some ()
def toe_ren : Go.Shelf.Ren :=
{
 f := fun x =>
  match x with
  | 245 => 105
  | 279 => 126
  | 280 => 127
  | 281 => 128
  | 282 => 129
  | 316 => 144
  | 171 => 146
  | 205 => 145
  | 243 => 151
  | 246 => 94
  | 283 => 111
  | 284 => 112
  | 285 => 113
  | 286 => 114
  | 129 => 133
  | 317 => 132
  | 318 => 134
  | 319 => 135
  | 320 => 136
  | 337 => 147
  | 338 => 148
  | n => n,
 t := fun x =>
  match x with
  | 9 => 9
  | 3 => 3
  | 75 => 99
  | 167 => 140
  | 4 => 4
  | 168 => 143
  | 210 => 157
  | 37 => 22
  | 0 => 0
  | 127 => 135
  | 145 => 167
  | 143 => 165
  | 2 => 2
  | 171 => 126
  | 53 => 90
  | 5 => 5
  | 173 => 129
  | 212 => 148
  | 51 => 79
  | 20 => 20
  | 213 => 149
  | 46 => 106
  | 232 => 168
  | 233 => 169
  | 80 => 117
  | n => n,
 g := fun x =>
  match x with
  | 15 => 3
  | 16 => 4
  | 17 => 1
  | 18 => 7
  | 19 => 8
  | n => n }
theorem toe_lays : Go.Proofs.LaysC.n245 Tryz.prog toe_ren :=
 {
  f129 := (Eq.trans Tryz.func133 (congrArg some (by kernel_rfl))),
  f171 := (Eq.trans Tryz.func146 (congrArg some (by kernel_rfl))),
  f205 := (Eq.trans Tryz.func145 (congrArg some (by kernel_rfl))),
  f243 := (Eq.trans Tryz.func151 (congrArg some (by kernel_rfl))),
  f245 := (Eq.trans Tryz.func105 (congrArg some (by kernel_rfl))),
  f246 := (Eq.trans Tryz.func94 (congrArg some (by kernel_rfl))),
  f279 := (Eq.trans Tryz.func126 (congrArg some (by kernel_rfl))),
  f280 := (Eq.trans Tryz.func127 (congrArg some (by kernel_rfl))),
  f281 := (Eq.trans Tryz.func128 (congrArg some (by kernel_rfl))),
  f282 := (Eq.trans Tryz.func129 (congrArg some (by kernel_rfl))),
  f283 := (Eq.trans Tryz.func111 (congrArg some (by kernel_rfl))),
  f284 := (Eq.trans Tryz.func112 (congrArg some (by kernel_rfl))),
  f285 := (Eq.trans Tryz.func113 (congrArg some (by kernel_rfl))),
  f286 := (Eq.trans Tryz.func114 (congrArg some (by kernel_rfl))),
  f316 := (Eq.trans Tryz.func144 (congrArg some (by kernel_rfl))),
  f317 := (Eq.trans Tryz.func132 (congrArg some (by kernel_rfl))),
  f318 := (Eq.trans Tryz.func134 (congrArg some (by kernel_rfl))),
  f319 := (Eq.trans Tryz.func135 (congrArg some (by kernel_rfl))),
  f320 := (Eq.trans Tryz.func136 (congrArg some (by kernel_rfl))),
  f337 := (Eq.trans Tryz.func147 (congrArg some (by kernel_rfl))),
  f338 := (Eq.trans Tryz.func148 (congrArg some (by kernel_rfl))),
  t0 := Tryz.underlying0,
  a0 := Tryz.isAgg0,
  z0 := Tryz.sizeOf0,
  v0 := Tryz.zeroValue0,
  t2 := Tryz.underlying2,
  a2 := Tryz.isAgg2,
  z2 := Tryz.sizeOf2,
  v2 := Tryz.zeroValue2,
  t3 := Tryz.underlying3,
  a3 := Tryz.isAgg3,
  z3 := Tryz.sizeOf3,
  v3 := Tryz.zeroValue3,
  t4 := Tryz.underlying4,
  a4 := Tryz.isAgg4,
  z4 := Tryz.sizeOf4,
  v4 := Tryz.zeroValue4,
  t5 := Tryz.underlying5,
  a5 := Tryz.isAgg5,
  z5 := Tryz.sizeOf5,
  v5 := Tryz.zeroValue5,
  t9 := Tryz.underlying9,
  a9 := Tryz.isAgg9,
  z9 := Tryz.sizeOf9,
  v9 := Tryz.zeroValue9,
  t20 := Tryz.underlying20,
  a20 := Tryz.isAgg20,
  z20 := Tryz.sizeOf20,
  v20 := Tryz.zeroValue20,
  t37 := Tryz.underlying22,
  a37 := Tryz.isAgg22,
  z37 := Tryz.sizeOf22,
  v37 := Tryz.zeroValue22,
  t46 := Tryz.underlying106,
  a46 := Tryz.isAgg106,
  z46 := Tryz.sizeOf106,
  v46 := Tryz.zeroValue106,
  t51 := Tryz.underlying79,
  a51 := Tryz.isAgg79,
  z51 := Tryz.sizeOf79,
  v51 := Tryz.zeroValue79,
  t53 := Tryz.underlying90,
  a53 := Tryz.isAgg90,
  z53 := Tryz.sizeOf90,
  v53 := Tryz.zeroValue90,
  t75 := Tryz.underlying99,
  a75 := Tryz.isAgg99,
  z75 := Tryz.sizeOf99,
  v75 := Tryz.zeroValue99,
  t127 := Tryz.underlying135,
  a127 := Tryz.isAgg135,
  z127 := Tryz.sizeOf135,
  v127 := Tryz.zeroValue135,
  t143 := Tryz.underlying165,
  a143 := Tryz.isAgg165,
  z143 := Tryz.sizeOf165,
  v143 := Tryz.zeroValue165,
  t145 := Tryz.underlying167,
  a145 := Tryz.isAgg167,
  z145 := Tryz.sizeOf167,
  v145 := Tryz.zeroValue167,
  t167 := Tryz.underlying140,
  a167 := Tryz.isAgg140,
  z167 := Tryz.sizeOf140,
  v167 := Tryz.zeroValue140,
  t168 := Tryz.underlying143,
  a168 := Tryz.isAgg143,
  z168 := Tryz.sizeOf143,
  v168 := Tryz.zeroValue143,
  t171 := Tryz.underlying126,
  a171 := Tryz.isAgg126,
  z171 := Tryz.sizeOf126,
  v171 := Tryz.zeroValue126,
  t173 := Tryz.underlying129,
  a173 := Tryz.isAgg129,
  z173 := Tryz.sizeOf129,
  v173 := Tryz.zeroValue129,
  t210 := Tryz.underlying157,
  a210 := Tryz.isAgg157,
  z210 := Tryz.sizeOf157,
  v210 := Tryz.zeroValue157,
  t212 := Tryz.underlying148,
  a212 := Tryz.isAgg148,
  z212 := Tryz.sizeOf148,
  v212 := Tryz.zeroValue148,
  t213 := Tryz.underlying149,
  a213 := Tryz.isAgg149,
  z213 := Tryz.sizeOf149,
  t232 := Tryz.underlying168,
  a232 := Tryz.isAgg168,
  z232 := Tryz.sizeOf168,
  v232 := Tryz.zeroValue168,
  t233 := Tryz.underlying169,
  a233 := Tryz.isAgg169,
  z233 := Tryz.sizeOf169,
  v233 := Tryz.zeroValue169,
  t80 := Tryz.underlying117,
  a80 := Tryz.isAgg117,
  z80 := Tryz.sizeOf117,
  v80 := Tryz.zeroValue117,
  mixed := (by kernel_rfl),
  g15 := (by kernel_rfl),
  g16 := (by kernel_rfl),
  g17 := (by kernel_rfl),
  g18 := (by kernel_rfl),
  g19 := (by kernel_rfl),
  i0 := (by kernel_rfl),
  i2 := (by kernel_rfl),
  i3 := (by kernel_rfl),
  i4 := (by kernel_rfl),
  i5 := (by kernel_rfl),
  i9 := (by kernel_rfl),
  i20 := (by kernel_rfl),
  i37 := (by kernel_rfl),
  i46 := (by kernel_rfl),
  i51 := (by kernel_rfl),
  i53 := (by kernel_rfl),
  i75 := (by kernel_rfl),
  i80 := (by kernel_rfl),
  i127 := (by kernel_rfl),
  i143 := (by kernel_rfl),
  i145 := (by kernel_rfl),
  i167 := (by kernel_rfl),
  i168 := (by kernel_rfl),
  i171 := (by kernel_rfl),
  i173 := (by kernel_rfl),
  i210 := (by kernel_rfl),
  i212 := (by kernel_rfl),
  i232 := (by kernel_rfl),
  i233 := (by kernel_rfl),
  m15 := (by kernel_rfl),
  m16 := (by kernel_rfl),
  m17 := (by kernel_rfl),
  m18 := (by kernel_rfl),
  m19 := (by kernel_rfl),
  c0 := (by kernel_rfl),
  c2 := (by kernel_rfl),
  c3 := (by kernel_rfl),
  c4 := (by kernel_rfl),
  c5 := (by kernel_rfl),
  c9 := (by kernel_rfl),
  c20 := (by kernel_rfl),
  c37 := (by kernel_rfl),
  c46 := (by kernel_rfl),
  c51 := (by kernel_rfl),
  c53 := (by kernel_rfl),
  c75 := (by kernel_rfl),
  c80 := (by kernel_rfl),
  c127 := (by kernel_rfl),
  c143 := (by kernel_rfl),
  c145 := (by kernel_rfl),
  c167 := (by kernel_rfl),
  c168 := (by kernel_rfl),
  c171 := (by kernel_rfl),
  c173 := (by kernel_rfl),
  c210 := (by kernel_rfl),
  c212 := (by kernel_rfl),
  c213 := (by kernel_rfl),
  c232 := (by kernel_rfl),
  c233 := (by kernel_rfl) }
theorem x_strconv_toError_syntax_five {vs : Array Value} {S : Snap} {a0 a1 : ByteArray} {a2 a3 : Int} (ha : VL S [] [str a0, str a1, i64 a2, i64 a3, x (.iface 140 (.int .i64 2))] vs.toList) : vs = #[.string a0, .string a1, .int .i64 a2, .int .i64 a3, .iface 140 (.int .i64 2)] := by
 obtain ⟨vl⟩ := vs
 match vl, ha with
 | [v0, v1, v2, v3, v4], ha =>
  simp only [VL, V] at ha
  obtain ⟨rfl, rfl, rfl, rfl, rfl, _⟩ := ha
  rfl
 | [], ha => simp only [VL] at ha
 | [_], ha => simp only [VL] at ha; exact ha.2.elim
 | [_, _], ha => simp only [VL] at ha; exact ha.2.2.elim
 | [_, _, _], ha => simp only [VL] at ha; exact ha.2.2.2.elim
 | [_, _, _, _], ha => simp only [VL] at ha; exact ha.2.2.2.2.elim
 | _ :: _ :: _ :: _ :: _ :: _ :: _, ha => simp only [VL] at ha; exact ha.2.2.2.2.2.elim
theorem x_strconv_toError_syntax_ok (a0 a1 : ByteArray) (a2 a3 : Int) (h : x_strconv_toError_syntax a0 a1 a2 a3 = some ()) : Ev Tryz.prog 105 [str a0, str a1, i64 a2, i64 a3, x (.iface 140 (.int .i64 2))] [] (nni) [] := by
 unfold x_strconv_toError_syntax at h
 obtain ⟨h1, _⟩ := need_some h
 have h1 := of_decide_eq_true h1
 refine Ev.ofGrow fun S w vs hs ha => ?_
 rw [x_strconv_toError_syntax_five ha]
 obtain ⟨ev, hv, hev⟩ := globs_err hs (g := 3) (by unfold globsI; simp)
 refine (Go.Proofs.Any.strconv_toError_syntax toe_lays a0 a1 a2 a3 ev w h1 hv hev).mono ?_
 rintro e w' ⟨N, rfl, _, _, hB⟩
 exact ⟨_, rfl, by simp only [V]; exact ⟨_, _, rfl⟩, hB.size, fun k hk => hB.block k hk, hB.os, hB.tape, hB.output⟩
noncomputable def x_strconv_toError_range (a0 a1 : ByteArray) (a2 a3 : Int) : Option Unit :=
 need (decide (a1.size ≤ 281474976710656)) <|
 some ()
theorem x_strconv_toError_range_five {vs : Array Value} {S : Snap} {a0 a1 : ByteArray} {a2 a3 : Int} (ha : VL S [] [str a0, str a1, i64 a2, i64 a3, x (.iface 140 (.int .i64 1))] vs.toList) : vs = #[.string a0, .string a1, .int .i64 a2, .int .i64 a3, .iface 140 (.int .i64 1)] := by
 obtain ⟨vl⟩ := vs
 match vl, ha with
 | [v0, v1, v2, v3, v4], ha =>
  simp only [VL, V] at ha
  obtain ⟨rfl, rfl, rfl, rfl, rfl, _⟩ := ha
  rfl
 | [], ha => simp only [VL] at ha
 | [_], ha => simp only [VL] at ha; exact ha.2.elim
 | [_, _], ha => simp only [VL] at ha; exact ha.2.2.elim
 | [_, _, _], ha => simp only [VL] at ha; exact ha.2.2.2.elim
 | [_, _, _, _], ha => simp only [VL] at ha; exact ha.2.2.2.2.elim
 | _ :: _ :: _ :: _ :: _ :: _ :: _, ha => simp only [VL] at ha; exact ha.2.2.2.2.2.elim
theorem x_strconv_toError_range_ok (a0 a1 : ByteArray) (a2 a3 : Int) (h : x_strconv_toError_range a0 a1 a2 a3 = some ()) : Ev Tryz.prog 105 [str a0, str a1, i64 a2, i64 a3, x (.iface 140 (.int .i64 1))] [] (nni) [] := by
 unfold x_strconv_toError_range at h
 obtain ⟨h1, _⟩ := need_some h
 have h1 := of_decide_eq_true h1
 refine Ev.ofGrow fun S w vs hs ha => ?_
 rw [x_strconv_toError_range_five ha]
 obtain ⟨ev, hv, hev⟩ := globs_err hs (g := 4) (by unfold globsI; simp)
 refine (Go.Proofs.Any.strconv_toError_range toe_lays a0 a1 a2 a3 ev w h1 hv hev).mono ?_
 rintro e w' ⟨N, rfl, _, _, hB⟩
 exact ⟨_, rfl, by simp only [V]; exact ⟨_, _, rfl⟩, hB.size, fun k hk => hB.block k hk, hB.os, hB.tape, hB.output⟩
noncomputable def x_strconv_ParseUint (a0 : ByteArray) : Option ((Int) ⊕ (Int)) :=
 obind (x_internal_strconv_ParseUint a0) (fun z => osum z (fun (r1 : Int) =>
  obind (x_strconv_toError_syntax lit_c0869d09 a0 16 32) fun (_u4 : Unit) =>
  some (Sum.inl r1)) (fun z => osum z (fun (r2 : Int) =>
  obind (x_strconv_toError_range lit_c0869d09 a0 16 32) fun (_u5 : Unit) =>
  some (Sum.inl r2)) (fun (r3 : Int) =>
  some (Sum.inr r3))))
theorem x_strconv_ParseUint_ok0 (a0 : ByteArray) (q0 : Int) (h : x_strconv_ParseUint a0 = some (Sum.inl q0)) : Ev Tryz.prog 83 [str a0, i64 16, i64 32] [] (tup [ik .u64 q0, nni]) [] := by
 refine Ev.start Tryz.func83 rfl rfl 0 (τ := [(0, str a0), (1, i64 16), (2, i64 32)]) rfl (Γ' := []) rfl (n := 53) rfl (g := 0) rfl (fun _ => rfl) ?_
 unfold x_strconv_ParseUint at h
 refine zQ ?_
 refine za (r := ik .u64 0) ?_
 refine za (r := x .nilIface) ?_
 refine zN ?_
 refine RunC.seq ?_
 obtain ⟨z1, hf1, h⟩ := obind_some h
 rcases z1 with r1 | z1
 ·replace h := (osum_inl _ _ _).symm.trans h
  refine RunC.regionW ?_
  refine zm (r := str a0) ?_
  refine zm (r := i64 16) ?_
  refine zm (r := i64 32) ?_
  refine ROps.d (r := tup [ik .u64 r1, x (.iface 140 (.int .i64 2))]) (fs := []) (Γ' := []) rfl rfl rfl (TOp.callB (CallAs.func ent104 rfl rfl) (Bors.cons (Bor.pure rfl) (Bors.cons (Bor.pure rfl) (Bors.cons (Bor.pure rfl) Bors.nil))) rfl rfl (x_internal_strconv_ParseUint_ok0 a0 r1 hf1)) rfl ?_
  refine zm (r := tup [ik .u64 r1, x (.iface 140 (.int .i64 2))]) ?_
  refine zl (r := ik .u64 r1) (LOp.extract rfl rfl rfl) ?_
  refine zl (r := x (.iface 140 (.int .i64 2))) (LOp.extract rfl rfl rfl) ?_
  refine za (r := ik .u64 r1) ?_
  refine za (r := x (.iface 140 (.int .i64 2))) ?_
  refine zN ?_
  refine RunC.seq ?_
  refine zQ ?_
  refine zm (r := x (.iface 140 (.int .i64 2))) ?_
  refine zl (r := b true) (LOp.neq_if pun99 rfl rfl rfl) ?_
  refine zN ?_
  refine RunC.cond_true rfl rfl ?_
  refine RunC.seq ?_
  obtain ⟨_u4, hf2, h⟩ := obind_some h
  refine RunC.regionW ?_
  refine zm (r := ik .u64 r1) ?_
  refine zm (r := str a0) ?_
  refine zm (r := i64 16) ?_
  refine zm (r := i64 32) ?_
  refine zm (r := x (.iface 140 (.int .i64 2))) ?_
  refine ROps.d (r := nni) (fs := []) (Γ' := []) rfl rfl rfl (TOp.callB (CallAs.func ent105 rfl rfl) (Bors.cons (Bor.pure rfl) (Bors.cons (Bor.pure rfl) (Bors.cons (Bor.pure rfl) (Bors.cons (Bor.pure rfl) (Bors.cons (Bor.pure rfl) Bors.nil))))) rfl rfl (x_strconv_toError_syntax_ok lit_c0869d09 a0 16 32 hf2)) rfl ?_
  refine za (r := ik .u64 r1) ?_
  refine za (r := nni) ?_
  refine zN ?_
  refine RunC.ret ?_
  have hq := Option.some.inj h
  have hq := Sum.inl.inj hq
  subst q0
  exact bodyQ.pure (.inr rfl) rfl (Res.two rfl (RV.tmp rfl) (RV.tmp rfl))
 ·replace h := (osum_inr _ _ _).symm.trans h
  rcases z1 with r2 | r3
  ·replace h := (osum_inl _ _ _).symm.trans h
   refine RunC.regionW ?_
   refine zm (r := str a0) ?_
   refine zm (r := i64 16) ?_
   refine zm (r := i64 32) ?_
   refine ROps.d (r := tup [ik .u64 r2, x (.iface 140 (.int .i64 1))]) (fs := []) (Γ' := []) rfl rfl rfl (TOp.callB (CallAs.func ent104 rfl rfl) (Bors.cons (Bor.pure rfl) (Bors.cons (Bor.pure rfl) (Bors.cons (Bor.pure rfl) Bors.nil))) rfl rfl (x_internal_strconv_ParseUint_ok1 a0 r2 hf1)) rfl ?_
   refine zm (r := tup [ik .u64 r2, x (.iface 140 (.int .i64 1))]) ?_
   refine zl (r := ik .u64 r2) (LOp.extract rfl rfl rfl) ?_
   refine zl (r := x (.iface 140 (.int .i64 1))) (LOp.extract rfl rfl rfl) ?_
   refine za (r := ik .u64 r2) ?_
   refine za (r := x (.iface 140 (.int .i64 1))) ?_
   refine zN ?_
   refine RunC.seq ?_
   refine zQ ?_
   refine zm (r := x (.iface 140 (.int .i64 1))) ?_
   refine zl (r := b true) (LOp.neq_if pun99 rfl rfl rfl) ?_
   refine zN ?_
   refine RunC.cond_true rfl rfl ?_
   refine RunC.seq ?_
   obtain ⟨_u5, hf3, h⟩ := obind_some h
   refine RunC.regionW ?_
   refine zm (r := ik .u64 r2) ?_
   refine zm (r := str a0) ?_
   refine zm (r := i64 16) ?_
   refine zm (r := i64 32) ?_
   refine zm (r := x (.iface 140 (.int .i64 1))) ?_
   refine ROps.d (r := nni) (fs := []) (Γ' := []) rfl rfl rfl (TOp.callB (CallAs.func ent105 rfl rfl) (Bors.cons (Bor.pure rfl) (Bors.cons (Bor.pure rfl) (Bors.cons (Bor.pure rfl) (Bors.cons (Bor.pure rfl) (Bors.cons (Bor.pure rfl) Bors.nil))))) rfl rfl (x_strconv_toError_range_ok lit_c0869d09 a0 16 32 hf3)) rfl ?_
   refine za (r := ik .u64 r2) ?_
   refine za (r := nni) ?_
   refine zN ?_
   refine RunC.ret ?_
   have hq := Option.some.inj h
   have hq := Sum.inl.inj hq
   subst q0
   exact bodyQ.pure (.inr rfl) rfl (Res.two rfl (RV.tmp rfl) (RV.tmp rfl))
  ·replace h := (osum_inr _ _ _).symm.trans h
   refine RunC.regionW ?_
   refine zm (r := str a0) ?_
   refine zm (r := i64 16) ?_
   refine zm (r := i64 32) ?_
   refine ROps.d (r := tup [ik .u64 r3, x .nilIface]) (fs := []) (Γ' := []) rfl rfl rfl (TOp.callB (CallAs.func ent104 rfl rfl) (Bors.cons (Bor.pure rfl) (Bors.cons (Bor.pure rfl) (Bors.cons (Bor.pure rfl) Bors.nil))) rfl rfl (x_internal_strconv_ParseUint_ok2 a0 r3 hf1)) rfl ?_
   refine zm (r := tup [ik .u64 r3, x .nilIface]) ?_
   refine zl (r := ik .u64 r3) (LOp.extract rfl rfl rfl) ?_
   refine zl (r := x .nilIface) (LOp.extract rfl rfl rfl) ?_
   refine za (r := ik .u64 r3) ?_
   refine za (r := x .nilIface) ?_
   refine zN ?_
   refine RunC.seq ?_
   refine zQ ?_
   refine zm (r := x .nilIface) ?_
   refine zl (r := b false) (LOp.neq_nil_nil pun99 rfl rfl) ?_
   refine zN ?_
   refine RunC.cond_false rfl rfl ?_
   refine RunC.skip ?_
   refine RunC.wl (τ' := [(8, ik .u64 r3)]) (Γ' := []) ⟨aR, trivial⟩ trivial ?_
   refine zQ ?_
   refine zm (r := ik .u64 r3) ?_
   refine za (r := ik .u64 r3) ?_
   refine za (r := x .nilIface) ?_
   refine zN ?_
   cases Option.some.inj h
theorem x_strconv_ParseUint_ok1 (a0 : ByteArray) (q0 : Int) (h : x_strconv_ParseUint a0 = some (Sum.inr q0)) : Ev Tryz.prog 83 [str a0, i64 16, i64 32] [] (tup [ik .u64 q0, x .nilIface]) [] := by
 refine Ev.start Tryz.func83 rfl rfl 0 (τ := [(0, str a0), (1, i64 16), (2, i64 32)]) rfl (Γ' := []) rfl (n := 53) rfl (g := 0) rfl (fun _ => rfl) ?_
 unfold x_strconv_ParseUint at h
 refine zQ ?_
 refine za (r := ik .u64 0) ?_
 refine za (r := x .nilIface) ?_
 refine zN ?_
 refine RunC.seq ?_
 obtain ⟨z2, hf1, h⟩ := obind_some h
 rcases z2 with r1 | z2
 ·replace h := (osum_inl _ _ _).symm.trans h
  refine RunC.regionW ?_
  refine zm (r := str a0) ?_
  refine zm (r := i64 16) ?_
  refine zm (r := i64 32) ?_
  refine ROps.d (r := tup [ik .u64 r1, x (.iface 140 (.int .i64 2))]) (fs := []) (Γ' := []) rfl rfl rfl (TOp.callB (CallAs.func ent104 rfl rfl) (Bors.cons (Bor.pure rfl) (Bors.cons (Bor.pure rfl) (Bors.cons (Bor.pure rfl) Bors.nil))) rfl rfl (x_internal_strconv_ParseUint_ok0 a0 r1 hf1)) rfl ?_
  refine zm (r := tup [ik .u64 r1, x (.iface 140 (.int .i64 2))]) ?_
  refine zl (r := ik .u64 r1) (LOp.extract rfl rfl rfl) ?_
  refine zl (r := x (.iface 140 (.int .i64 2))) (LOp.extract rfl rfl rfl) ?_
  refine za (r := ik .u64 r1) ?_
  refine za (r := x (.iface 140 (.int .i64 2))) ?_
  refine zN ?_
  refine RunC.seq ?_
  refine zQ ?_
  refine zm (r := x (.iface 140 (.int .i64 2))) ?_
  refine zl (r := b true) (LOp.neq_if pun99 rfl rfl rfl) ?_
  refine zN ?_
  refine RunC.cond_true rfl rfl ?_
  refine RunC.seq ?_
  obtain ⟨_u4, hf2, h⟩ := obind_some h
  refine RunC.regionW ?_
  refine zm (r := ik .u64 r1) ?_
  refine zm (r := str a0) ?_
  refine zm (r := i64 16) ?_
  refine zm (r := i64 32) ?_
  refine zm (r := x (.iface 140 (.int .i64 2))) ?_
  refine ROps.d (r := nni) (fs := []) (Γ' := []) rfl rfl rfl (TOp.callB (CallAs.func ent105 rfl rfl) (Bors.cons (Bor.pure rfl) (Bors.cons (Bor.pure rfl) (Bors.cons (Bor.pure rfl) (Bors.cons (Bor.pure rfl) (Bors.cons (Bor.pure rfl) Bors.nil))))) rfl rfl (x_strconv_toError_syntax_ok lit_c0869d09 a0 16 32 hf2)) rfl ?_
  refine za (r := ik .u64 r1) ?_
  refine za (r := nni) ?_
  refine zN ?_
  cases Option.some.inj h
 ·replace h := (osum_inr _ _ _).symm.trans h
  rcases z2 with r2 | r3
  ·replace h := (osum_inl _ _ _).symm.trans h
   refine RunC.regionW ?_
   refine zm (r := str a0) ?_
   refine zm (r := i64 16) ?_
   refine zm (r := i64 32) ?_
   refine ROps.d (r := tup [ik .u64 r2, x (.iface 140 (.int .i64 1))]) (fs := []) (Γ' := []) rfl rfl rfl (TOp.callB (CallAs.func ent104 rfl rfl) (Bors.cons (Bor.pure rfl) (Bors.cons (Bor.pure rfl) (Bors.cons (Bor.pure rfl) Bors.nil))) rfl rfl (x_internal_strconv_ParseUint_ok1 a0 r2 hf1)) rfl ?_
   refine zm (r := tup [ik .u64 r2, x (.iface 140 (.int .i64 1))]) ?_
   refine zl (r := ik .u64 r2) (LOp.extract rfl rfl rfl) ?_
   refine zl (r := x (.iface 140 (.int .i64 1))) (LOp.extract rfl rfl rfl) ?_
   refine za (r := ik .u64 r2) ?_
   refine za (r := x (.iface 140 (.int .i64 1))) ?_
   refine zN ?_
   refine RunC.seq ?_
   refine zQ ?_
   refine zm (r := x (.iface 140 (.int .i64 1))) ?_
   refine zl (r := b true) (LOp.neq_if pun99 rfl rfl rfl) ?_
   refine zN ?_
   refine RunC.cond_true rfl rfl ?_
   refine RunC.seq ?_
   obtain ⟨_u5, hf3, h⟩ := obind_some h
   refine RunC.regionW ?_
   refine zm (r := ik .u64 r2) ?_
   refine zm (r := str a0) ?_
   refine zm (r := i64 16) ?_
   refine zm (r := i64 32) ?_
   refine zm (r := x (.iface 140 (.int .i64 1))) ?_
   refine ROps.d (r := nni) (fs := []) (Γ' := []) rfl rfl rfl (TOp.callB (CallAs.func ent105 rfl rfl) (Bors.cons (Bor.pure rfl) (Bors.cons (Bor.pure rfl) (Bors.cons (Bor.pure rfl) (Bors.cons (Bor.pure rfl) (Bors.cons (Bor.pure rfl) Bors.nil))))) rfl rfl (x_strconv_toError_range_ok lit_c0869d09 a0 16 32 hf3)) rfl ?_
   refine za (r := ik .u64 r2) ?_
   refine za (r := nni) ?_
   refine zN ?_
   cases Option.some.inj h
  ·replace h := (osum_inr _ _ _).symm.trans h
   refine RunC.regionW ?_
   refine zm (r := str a0) ?_
   refine zm (r := i64 16) ?_
   refine zm (r := i64 32) ?_
   refine ROps.d (r := tup [ik .u64 r3, x .nilIface]) (fs := []) (Γ' := []) rfl rfl rfl (TOp.callB (CallAs.func ent104 rfl rfl) (Bors.cons (Bor.pure rfl) (Bors.cons (Bor.pure rfl) (Bors.cons (Bor.pure rfl) Bors.nil))) rfl rfl (x_internal_strconv_ParseUint_ok2 a0 r3 hf1)) rfl ?_
   refine zm (r := tup [ik .u64 r3, x .nilIface]) ?_
   refine zl (r := ik .u64 r3) (LOp.extract rfl rfl rfl) ?_
   refine zl (r := x .nilIface) (LOp.extract rfl rfl rfl) ?_
   refine za (r := ik .u64 r3) ?_
   refine za (r := x .nilIface) ?_
   refine zN ?_
   refine RunC.seq ?_
   refine zQ ?_
   refine zm (r := x .nilIface) ?_
   refine zl (r := b false) (LOp.neq_nil_nil pun99 rfl rfl) ?_
   refine zN ?_
   refine RunC.cond_false rfl rfl ?_
   refine RunC.skip ?_
   refine RunC.wl (τ' := [(8, ik .u64 r3)]) (Γ' := []) ⟨aR, trivial⟩ trivial ?_
   refine zQ ?_
   refine zm (r := ik .u64 r3) ?_
   refine za (r := ik .u64 r3) ?_
   refine za (r := x .nilIface) ?_
   refine zN ?_
   refine RunC.ret ?_
   have hq := Option.some.inj h
   have hq := Sum.inr.inj hq
   subst q0
   exact bodyQ.pure (.inr rfl) rfl (Res.two rfl (RV.tmp rfl) (RV.tmp rfl))
noncomputable def i_fromDigits (a0 : ByteArray) : Option (F × Bool) :=
 obind (x_strconv_ParseUint a0) (fun z => osum z (fun (r1 : Int) =>
  olet (IntKind.u32.wrap r1) fun (x3 : Int) =>
  need ((decide (0 ≤ x3) && decide (x3.toNat < 2 ^ FloatKind.f32.format.width))) <|
  some (some 0, false)) (fun (r2 : Int) =>
  olet (IntKind.u32.wrap r2) fun (x4 : Int) =>
  need ((decide (0 ≤ x4) && decide (x4.toNat < 2 ^ FloatKind.f32.format.width))) <|
  obind (i_digitsOf (ffb .f32 x4)) fun (r5 : ByteArray) =>
  bsel (!eqs r5 a0) (
   some (some 0, false)) (
   some ((ffb .f32 x4), true))))
theorem i_fromDigits_ok (a0 : ByteArray) (q0 : F) (q1 : Bool) (h : i_fromDigits a0 = some (q0, q1)) : Ev Tryz.prog 51 [str a0] [] (tup [f32 q0, b q1]) [] := by
 refine Ev.start Tryz.func51 rfl rfl 0 (τ := [(0, str a0)]) rfl (Γ' := []) rfl (n := 49) rfl (g := 0) rfl (fun _ => rfl) ?_
 unfold i_fromDigits at h
 refine zQ ?_
 refine zl (r := f32 (some 0)) (LOp.le (LOp.assign rfl rfl) (ALe.fl (by kernel_rfl) (by kernel_rfl))) ?_
 refine za (r := b false) ?_
 refine zN ?_
 refine RunC.seq ?_
 obtain ⟨z1, hf1, h⟩ := obind_some h
 rcases z1 with r1 | r2
 ·replace h := (osum_inl _ _ _).symm.trans h
  refine RunC.regionW ?_
  refine zm (r := str a0) ?_
  refine ROps.d (r := tup [ik .u64 r1, nni]) (fs := []) (Γ' := []) rfl rfl rfl (TOp.callB (CallAs.func ent83 rfl rfl) (Bors.cons (Bor.pure rfl) (Bors.cons (Bor.pure rfl) (Bors.cons (Bor.pure rfl) Bors.nil))) rfl rfl (x_strconv_ParseUint_ok0 a0 r1 hf1)) rfl ?_
  refine zm (r := tup [ik .u64 r1, nni]) ?_
  refine zl (r := ik .u64 r1) (LOp.extract rfl rfl rfl) ?_
  refine zl (r := nni) (LOp.extract rfl rfl rfl) ?_
  refine za (r := ik .u64 r1) ?_
  refine za (r := nni) ?_
  refine zN ?_
  refine RunC.seq ?_
  obtain ⟨x3, hx2, h⟩ := olet_some h
  obtain ⟨hz3, h⟩ := need_some h
  refine RunC.regionW ?_
  refine zm (r := ik .u64 r1) ?_
  refine zl (r := ik .u32 x3) (LOp.eqr (LOp.i2i (src := 90) (dst := 79) ⟨_, pun90⟩ pun79 rfl rfl) (congrArg (ik .u32) hx2)) ?_
  refine zl (r := f32 (ffb .f32 x3)) (LOp.ffromx ext56 rfl rfl hz3) ?_
  refine za (r := f32 (ffb .f32 x3)) ?_
  refine zN ?_
  refine RunC.seq ?_
  refine zQ ?_
  refine zm (r := nni) ?_
  refine zl (r := b true) (LOp.neq_nni pun99 rfl rfl rfl) ?_
  refine zm (r := b true) ?_
  iterate 4 (refine ROps.s rfl rfl rfl ?_)
  refine zl (r := b true) (LOp.pick_true rfl rfl rfl) ?_
  refine zN ?_
  refine RunC.wl (τ' := [(6, f32 (ffb .f32 x3)), (22, b true)]) (Γ' := []) ⟨aR, aR, trivial⟩ trivial ?_
  refine RunC.cond_true rfl rfl ?_
  refine zQ ?_
  refine zl (r := f32 (some 0)) (LOp.le (LOp.assign rfl rfl) (ALe.fl (by kernel_rfl) (by kernel_rfl))) ?_
  refine za (r := b false) ?_
  refine zN ?_
  refine RunC.ret ?_
  have hq := Option.some.inj h
  obtain ⟨hq0, hq⟩ := Prod.mk.inj hq
  subst q0
  subst q1
  exact bodyQ.pure (.inr rfl) rfl (Res.two rfl (RV.tmp rfl) (RV.tmp rfl))
 ·replace h := (osum_inr _ _ _).symm.trans h
  refine RunC.regionW ?_
  refine zm (r := str a0) ?_
  refine ROps.d (r := tup [ik .u64 r2, x .nilIface]) (fs := []) (Γ' := []) rfl rfl rfl (TOp.callB (CallAs.func ent83 rfl rfl) (Bors.cons (Bor.pure rfl) (Bors.cons (Bor.pure rfl) (Bors.cons (Bor.pure rfl) Bors.nil))) rfl rfl (x_strconv_ParseUint_ok1 a0 r2 hf1)) rfl ?_
  refine zm (r := tup [ik .u64 r2, x .nilIface]) ?_
  refine zl (r := ik .u64 r2) (LOp.extract rfl rfl rfl) ?_
  refine zl (r := x .nilIface) (LOp.extract rfl rfl rfl) ?_
  refine za (r := ik .u64 r2) ?_
  refine za (r := x .nilIface) ?_
  refine zN ?_
  refine RunC.seq ?_
  obtain ⟨x4, hx4, h⟩ := olet_some h
  obtain ⟨hz5, h⟩ := need_some h
  refine RunC.regionW ?_
  refine zm (r := ik .u64 r2) ?_
  refine zl (r := ik .u32 x4) (LOp.eqr (LOp.i2i (src := 90) (dst := 79) ⟨_, pun90⟩ pun79 rfl rfl) (congrArg (ik .u32) hx4)) ?_
  refine zl (r := f32 (ffb .f32 x4)) (LOp.ffromx ext56 rfl rfl hz5) ?_
  refine za (r := f32 (ffb .f32 x4)) ?_
  refine zN ?_
  iterate 2 (refine RunC.seq ?_)
  obtain ⟨r5, hf6, h⟩ := obind_some h
  rcases bsel_some h with ⟨hc7, h⟩ | ⟨hc7, h⟩
  ·refine RunC.regionW ?_
   refine zm (r := x .nilIface) ?_
   refine zl (r := b false) (LOp.neq_nil_nil pun99 rfl rfl) ?_
   refine zm (r := b false) ?_
   refine zm (r := f32 (ffb .f32 x4)) ?_
   refine ROps.d (r := str r5) (fs := []) (Γ' := []) rfl rfl rfl (TOp.callB (CallAs.func ent48 rfl rfl) (Bors.cons (Bor.pure rfl) Bors.nil) rfl rfl (i_digitsOf_ok (ffb .f32 x4) r5 hf6)) rfl ?_
   refine zm (r := str a0) ?_
   refine zl (r := b true) (LOp.eqb (LOp.neqs rfl rfl rfl) hc7) ?_
   refine zl (r := b true) (LOp.pick_false rfl rfl rfl) ?_
   refine zN ?_
   refine RunC.wl (τ' := [(6, f32 (ffb .f32 x4)), (22, b true)]) (Γ' := []) ⟨aR, aR, trivial⟩ trivial ?_
   refine RunC.cond_true rfl rfl ?_
   refine zQ ?_
   refine zl (r := f32 (some 0)) (LOp.le (LOp.assign rfl rfl) (ALe.fl (by kernel_rfl) (by kernel_rfl))) ?_
   refine za (r := b false) ?_
   refine zN ?_
   refine RunC.ret ?_
   have hq := Option.some.inj h
   obtain ⟨hq0, hq⟩ := Prod.mk.inj hq
   subst q0
   subst q1
   exact bodyQ.pure (.inr rfl) rfl (Res.two rfl (RV.tmp rfl) (RV.tmp rfl))
  ·refine RunC.regionW ?_
   refine zm (r := x .nilIface) ?_
   refine zl (r := b false) (LOp.neq_nil_nil pun99 rfl rfl) ?_
   refine zm (r := b false) ?_
   refine zm (r := f32 (ffb .f32 x4)) ?_
   refine ROps.d (r := str r5) (fs := []) (Γ' := []) rfl rfl rfl (TOp.callB (CallAs.func ent48 rfl rfl) (Bors.cons (Bor.pure rfl) Bors.nil) rfl rfl (i_digitsOf_ok (ffb .f32 x4) r5 hf6)) rfl ?_
   refine zm (r := str a0) ?_
   refine zl (r := b false) (LOp.eqb (LOp.neqs rfl rfl rfl) hc7) ?_
   refine zl (r := b false) (LOp.pick_false rfl rfl rfl) ?_
   refine zN ?_
   refine RunC.wl (τ' := [(6, f32 (ffb .f32 x4)), (22, b false)]) (Γ' := []) ⟨aR, aR, trivial⟩ trivial ?_
   refine RunC.cond_false rfl rfl ?_
   refine RunC.skip ?_
   refine zQ ?_
   refine zm (r := f32 (ffb .f32 x4)) ?_
   refine za (r := f32 (ffb .f32 x4)) ?_
   refine za (r := b true) ?_
   refine zN ?_
   refine RunC.ret ?_
   have hq := Option.some.inj h
   obtain ⟨hq0, hq⟩ := Prod.mk.inj hq
   subst q0
   subst q1
   exact bodyQ.pure (.inr rfl) rfl (Res.two rfl (RV.tmp rfl) (RV.tmp rfl))
noncomputable def i_ReadComplex_b1 (r1 : List ByteArray) (L4 : List (F × F)) (v5 : Int) : Option (LR ((List (F × F)) × Int) ((List (F × F))) (Bool × (List (F × F)))) :=
 bsel (decide (v5 < ((r1.length : Nat) : Int))) (
  obind (at? r1 v5) fun (e6 : ByteArray) =>
  bsel (!decide ((e6.size : Int) = 16)) (
   some (LR.ret (false, ([] : List (F × F))))) (
   bsel (decide (((L4.length : Nat) : Int) = 256)) (
    some (LR.ret (false, ([] : List (F × F))))) (
    obind (subs? e6 0 8) fun (t7 : ByteArray) =>
    obind2 (i_fromDigits t7) fun (r8 : F) (r9 : Bool) =>
    bsel r9 (
     obind (subs? e6 8 (e6.size : Int)) fun (t10 : ByteArray) =>
     obind2 (i_fromDigits t10) fun (r11 : F) (r12 : Bool) =>
     bsel r12 (
      need (apok 8 L4.length 1) <|
      olet (IntKind.i64.wrap (v5 + 1)) fun (x16 : Int) =>
      some (LR.next ((L4 ++ ([(r8, r11)] : List (F × F))), x16))) (
      some (LR.ret (false, ([] : List (F × F)))))) (
     obind (subs? e6 8 (e6.size : Int)) fun (t13 : ByteArray) =>
     obind2 (i_fromDigits t13) fun (r14 : F) (r15 : Bool) =>
     bsel r15 (
      some (LR.ret (false, ([] : List (F × F))))) (
      some (LR.ret (false, ([] : List (F × F))))))))) (
  some (LR.out L4))
noncomputable def i_ReadComplex_s1 (r1 : List ByteArray) : ((List (F × F)) × Int) → Option (LR ((List (F × F)) × Int) ((List (F × F))) (Bool × (List (F × F)))) := fun s => i_ReadComplex_b1 r1 s.1 s.2
noncomputable def i_ReadComplex_k1 (L19 : List (F × F)) : Option (Bool × (List (F × F))) :=
 some (true, L19)
noncomputable def i_ReadComplex (a0 : ByteArray) : Option (Bool × (List (F × F))) :=
 bsel (eqs a0 lit_5ac87db9) (
  some (true, ([] : List (F × F)))) (
  obind (x_strings_Split a0 lit_be717853) fun (r1 : List ByteArray) =>
  obind (loopM (i_ReadComplex_s1 r1) (([] : List (F × F)), 0)) fun z => osum z (fun e => i_ReadComplex_k1 e) (fun r => some r))
theorem i_ReadComplex_ok (a0 : ByteArray) (q0 : Bool) (q1 : List (F × F)) (h : i_ReadComplex a0 = some (q0, q1)) : Ev Tryz.prog 18 [str a0] [] (tup [oref 0 0 0 q1.length, b q0]) [⟨0, some (q1.map (cp .f32))⟩] := by
 refine Ev.start Tryz.func18 rfl rfl 3 (τ := [(0, str a0)]) rfl (Γ' := [⟨0, none⟩, ⟨0, none⟩, ⟨0, none⟩]) rfl (n := 113) rfl (g := 0) rfl (fun _ => rfl) ?_
 unfold i_ReadComplex at h
 refine zQ ?_
 refine za (r := nilsl) ?_
 refine za (r := b false) ?_
 refine zN ?_
 refine zQ ?_
 refine ROps.d (r := oref 0 1 0 0) (fs := [(0, (([] : List (F × F)).map (cp .f32)))]) (Γ' := [⟨1, some (([] : List (F × F)).map (cp .f32))⟩, ⟨0, none⟩, ⟨0, none⟩]) rfl rfl rfl (TOp.buildSlice_o (g := ⟨0, none⟩) (za := cx .f32 (some 0) (some 0)) (qs := []) 0 rfl und25 siz24 zer24 rfl zel24 rfl rfl trivial rfl) rfl ?_
 refine za (r := oref 0 1 0 0) ?_
 refine zN ?_
 iterate 2 (refine RunC.seq ?_)
 rcases bsel_some h with ⟨hc1, h⟩ | ⟨hc1, h⟩
 ·refine RunC.regionW ?_
  refine zm (r := str a0) ?_
  refine zl (r := b true) (LOp.eqb (LOp.eqs rfl rfl rfl) hc1) ?_
  refine zN ?_
  refine RunC.cond_true rfl rfl ?_
  refine zQ ?_
  refine zm (r := oref 0 1 0 0) ?_
  refine za (r := oref 0 1 0 0) ?_
  refine za (r := b true) ?_
  refine zN ?_
  refine RunC.ret ?_
  have hq := Option.some.inj h
  obtain ⟨hq0, hq⟩ := Prod.mk.inj hq
  subst q0
  subst q1
  exact bodyQ.mk (r' := tup [oref 0 1 0 (([] : List (F × F)).length), b true]) [(0, 1)] (.inr rfl) rfl (show List.Nodup [0] from by decide) rfl rfl (Res.eq (Res.two rfl (RV.tmp rfl) (RV.tmp rfl)) (by rw [(show ([] : List (F × F)).length = 0 from rfl)] <;> rfl)) (SelL.arr0 (f := (cp .f32)) (fun _ => rfl) rfl trivial)
 ·refine RunC.regionW ?_
  refine zm (r := str a0) ?_
  refine zl (r := b false) (LOp.eqb (LOp.eqs rfl rfl rfl) hc1) ?_
  refine zN ?_
  refine RunC.cond_false rfl rfl ?_
  refine RunC.skip ?_
  iterate 2 (refine RunC.seq ?_)
  obtain ⟨r1, hf2, h⟩ := obind_some h
  refine RunC.regionW ?_
  refine zm (r := str a0) ?_
  refine ROps.d (r := oref 1 1 0 r1.length) (fs := [(1, (r1.map str))]) (Γ' := [⟨1, some (([] : List (F × F)).map (cp .f32))⟩, ⟨1, some (r1.map str)⟩, ⟨0, none⟩]) rfl rfl rfl (TOp.callBN (ls := [(r1.map str)]) [1] (CallAs.func ent50 rfl rfl) (Bors.cons (Bor.pure rfl) (Bors.cons (Bor.pure rfl) Bors.nil)) rfl (x_strings_Split_ok a0 lit_be717853 r1 hf2) (and_all (lts0_map (f := str) (fun _ => rfl) _) rfl) (and_all (noss_map (f := str) (fun _ => rfl) _) rfl) rfl (by decide) (ns_of ⟨⟨_, rfl⟩, trivial⟩)) rfl ?_
  refine zl (r := i64 ((r1.length : Nat) : Int)) (LOp.len_oref und69 rfl rfl) ?_
  refine zm (r := i64 0) ?_
  refine zN ?_
  obtain ⟨z2, hz_2, h⟩ := obind_some h
  refine RunC.cutN (fun τ Γ => ∃ (L19 : List (F × F)) (u17 : Nat) (u18 : Nat), WeakLe τ [(4, oref 0 u17 0 L19.length)] ∧ DeadLe Γ [⟨u17, some (L19.map (cp .f32))⟩, ⟨1, none⟩, ⟨u18, none⟩] ∧ z2 = .inl L19) ?_ ?_
  ·refine RunC.block (RunC.loop (RunL.loopM (x := z2) (i_ReadComplex_s1 r1) (fun (s : (List (F × F)) × Int) τ Γ => ∃ (u2 : Nat) (u3 : Nat), WeakLe τ [(4, oref 0 u2 0 s.1.length), (16, oref 1 1 0 r1.length), (17, i64 ((r1.length : Nat) : Int)), (18, i64 s.2)] ∧ DeadLe Γ [⟨u2, some (s.1.map (cp .f32))⟩, ⟨1, some (r1.map str)⟩, ⟨u3, none⟩]) ?_ _ _ _ hz_2 ⟨1, 0, ⟨aR, aR, aR, aR, trivial⟩, ⟨⟨rfl, .inr rfl⟩, ⟨rfl, .inr rfl⟩, ⟨rfl, .inl rfl⟩, trivial⟩⟩))
   rintro ⟨L4, v5⟩ τ2 Γ2 y2_ ⟨u2, u3, hw2, hd2⟩ h2_ ho2 hr2
   refine RunC.wl (τ' := [(4, oref 0 u2 0 L4.length), (16, oref 1 1 0 r1.length), (17, i64 ((r1.length : Nat) : Int)), (18, i64 v5)]) (Γ' := [⟨u2, some (L4.map (cp .f32))⟩, ⟨1, some (r1.map str)⟩, ⟨u3, none⟩]) hw2 hd2 ?_
   replace h2_ : i_ReadComplex_b1 r1 L4 v5 = some y2_ := h2_
   unfold i_ReadComplex_b1 at h2_
   refine RunC.seq ?_
   rcases bsel_some h2_ with ⟨hc3, h2_⟩ | ⟨hc3, h2_⟩
   ·refine RunC.regionW ?_
    refine zl (r := b true) (LOp.eqb (LOp.lss rfl rfl rfl) hc3) ?_
    refine zN ?_
    refine RunC.seq ?_
    refine RunC.cond_true rfl rfl ?_
    refine RunC.skip ?_
    refine RunC.seq ?_
    refine RunC.block ?_
    refine RunC.seq ?_
    obtain ⟨e6, he4, h2_⟩ := obind_some h2_
    refine RunC.regionW ?_
    refine ROps.d (r := optr 1 1 v5.toNat) (fs := []) (Γ' := [⟨u2, some (L4.map (cp .f32))⟩, ⟨1, some (r1.map str)⟩, ⟨u3, none⟩]) rfl rfl rfl (TOp.ixo und69 siz9 rfl rfl rfl (at_in he4 rfl) rfl) rfl ?_
    refine ROps.d (r := str e6) (fs := []) (Γ' := [⟨u2, some (L4.map (cp .f32))⟩, ⟨1, some (r1.map str)⟩, ⟨u3, none⟩]) rfl rfl rfl (TOp.load1_o rfl (at_cell he4) agg9 rfl rfl) rfl ?_
    refine za (r := str e6) ?_
    refine zN ?_
    iterate 2 (refine RunC.seq ?_)
    rcases bsel_some h2_ with ⟨hc5, h2_⟩ | ⟨hc5, h2_⟩
    ·refine RunC.regionW ?_
     refine zm (r := str e6) ?_
     refine zl (r := i64 (e6.size : Int)) (LOp.len_str und9 rfl rfl) ?_
     refine zl (r := b true) (LOp.eqb (LOp.neq rfl rfl rfl) hc5) ?_
     refine zm (r := b true) ?_
     iterate 3 (refine ROps.s rfl rfl rfl ?_)
     refine zl (r := b true) (LOp.pick_true rfl rfl rfl) ?_
     refine zN ?_
     refine RunC.cond_true rfl rfl ?_
     refine zQ ?_
     refine za (r := nilsl) ?_
     refine za (r := b false) ?_
     refine zN ?_
     refine RunC.nil_slot (Γ' := [⟨u2, some (L4.map (cp .f32))⟩, ⟨1, some (r1.map str)⟩, ⟨(u3 + 1), some (([] : List (F × F)).map (cp .f32))⟩]) 2 2 rfl rfl rfl ?_
     refine RunC.ret ?_
     cases Option.some.inj h2_
     have hx3_ := hr2 _ rfl
     subst hx3_
     have hq := Option.some.inj h
     obtain ⟨hq0, hq⟩ := Prod.mk.inj hq
     subst q0
     subst q1
     exact bodyQ.mk (r' := tup [oref 2 (u3 + 1) 0 (([] : List (F × F)).length), b false]) [(2, (u3 + 1))] (.inr rfl) rfl (show List.Nodup [2] from by decide) (by simp [ren, rens, sigma]) rfl (Res.eq (Res.two rfl (RV.tmp rfl) (RV.tmp rfl)) (by rw [(show ([] : List (F × F)).length = 0 from rfl)] <;> rfl)) (SelL.arr0 (f := (cp .f32)) (fun _ => rfl) rfl trivial)
    ·rcases bsel_some h2_ with ⟨hc6, h2_⟩ | ⟨hc6, h2_⟩
     ·refine RunC.regionW ?_
      refine zm (r := str e6) ?_
      refine zl (r := i64 (e6.size : Int)) (LOp.len_str und9 rfl rfl) ?_
      refine zl (r := b false) (LOp.eqb (LOp.neq rfl rfl rfl) hc5) ?_
      refine zm (r := b false) ?_
      refine zm (r := oref 0 u2 0 L4.length) ?_
      refine zl (r := i64 ((L4.length : Nat) : Int)) (LOp.len_oref und25 rfl rfl) ?_
      refine zl (r := b true) (LOp.eqb (LOp.eql rfl rfl rfl) hc6) ?_
      refine zl (r := b true) (LOp.pick_false rfl rfl rfl) ?_
      refine zN ?_
      refine RunC.cond_true rfl rfl ?_
      refine zQ ?_
      refine za (r := nilsl) ?_
      refine za (r := b false) ?_
      refine zN ?_
      refine RunC.nil_slot (Γ' := [⟨u2, some (L4.map (cp .f32))⟩, ⟨1, some (r1.map str)⟩, ⟨(u3 + 1), some (([] : List (F × F)).map (cp .f32))⟩]) 2 2 rfl rfl rfl ?_
      refine RunC.ret ?_
      cases Option.some.inj h2_
      have hx4_ := hr2 _ rfl
      subst hx4_
      have hq := Option.some.inj h
      obtain ⟨hq0, hq⟩ := Prod.mk.inj hq
      subst q0
      subst q1
      exact bodyQ.mk (r' := tup [oref 2 (u3 + 1) 0 (([] : List (F × F)).length), b false]) [(2, (u3 + 1))] (.inr rfl) rfl (show List.Nodup [2] from by decide) (by simp [ren, rens, sigma]) rfl (Res.eq (Res.two rfl (RV.tmp rfl) (RV.tmp rfl)) (by rw [(show ([] : List (F × F)).length = 0 from rfl)] <;> rfl)) (SelL.arr0 (f := (cp .f32)) (fun _ => rfl) rfl trivial)
     ·refine RunC.regionW ?_
      refine zm (r := str e6) ?_
      refine zl (r := i64 (e6.size : Int)) (LOp.len_str und9 rfl rfl) ?_
      refine zl (r := b false) (LOp.eqb (LOp.neq rfl rfl rfl) hc5) ?_
      refine zm (r := b false) ?_
      refine zm (r := oref 0 u2 0 L4.length) ?_
      refine zl (r := i64 ((L4.length : Nat) : Int)) (LOp.len_oref und25 rfl rfl) ?_
      refine zl (r := b false) (LOp.eqb (LOp.eql rfl rfl rfl) hc6) ?_
      refine zl (r := b false) (LOp.pick_false rfl rfl rfl) ?_
      refine zN ?_
      refine RunC.cond_false rfl rfl ?_
      refine RunC.skip ?_
      refine RunC.seq ?_
      obtain ⟨t7, hs7, h2_⟩ := obind_some h2_
      obtain ⟨r8, r9, hf8, h2_⟩ := obind2_some h2_
      rcases bsel_some h2_ with ⟨hc9, h2_⟩ | ⟨hc9, h2_⟩
      ·refine RunC.regionW ?_
       refine zm (r := str e6) ?_
       refine zl (r := str t7) (LOp.subs_hi und9 rfl rfl rfl hs7) ?_
       refine ROps.d (r := tup [f32 r8, b r9]) (fs := []) (Γ' := [⟨u2, some (L4.map (cp .f32))⟩, ⟨1, some (r1.map str)⟩, ⟨u3, none⟩]) rfl rfl rfl (TOp.callB (CallAs.func ent51 rfl rfl) (Bors.cons (Bor.pure rfl) Bors.nil) rfl rfl (i_fromDigits_ok t7 r8 r9 hf8)) rfl ?_
       refine zm (r := tup [f32 r8, b r9]) ?_
       refine zl (r := f32 r8) (LOp.extract rfl rfl rfl) ?_
       refine zl (r := b true) (LOp.eqb (LOp.extract rfl rfl rfl) hc9) ?_
       refine za (r := f32 r8) ?_
       refine za (r := b true) ?_
       refine zN ?_
       refine RunC.seq ?_
       obtain ⟨t10, hs10, h2_⟩ := obind_some h2_
       obtain ⟨r11, r12, hf11, h2_⟩ := obind2_some h2_
       rcases bsel_some h2_ with ⟨hc12, h2_⟩ | ⟨hc12, h2_⟩
       ·refine RunC.regionW ?_
        refine zm (r := str e6) ?_
        refine zl (r := str t10) (LOp.subs_lo und9 rfl rfl rfl hs10) ?_
        refine ROps.d (r := tup [f32 r11, b r12]) (fs := []) (Γ' := [⟨u2, some (L4.map (cp .f32))⟩, ⟨1, some (r1.map str)⟩, ⟨u3, none⟩]) rfl rfl rfl (TOp.callB (CallAs.func ent51 rfl rfl) (Bors.cons (Bor.pure rfl) Bors.nil) rfl rfl (i_fromDigits_ok t10 r11 r12 hf11)) rfl ?_
        refine zm (r := tup [f32 r11, b r12]) ?_
        refine zl (r := f32 r11) (LOp.extract rfl rfl rfl) ?_
        refine zl (r := b true) (LOp.eqb (LOp.extract rfl rfl rfl) hc12) ?_
        refine za (r := f32 r11) ?_
        refine za (r := b true) ?_
        refine zN ?_
        refine RunC.wl (τ' := [(4, oref 0 u2 0 L4.length), (7, f32 r8), (8, b true), (9, f32 r11), (10, b true), (16, oref 1 1 0 r1.length), (17, i64 ((r1.length : Nat) : Int)), (18, i64 v5), (26, oref 0 u2 0 L4.length), (27, i64 ((L4.length : Nat) : Int)), (28, b false)]) (Γ' := [⟨u2, some (L4.map (cp .f32))⟩, ⟨1, some (r1.map str)⟩, ⟨u3, none⟩]) ⟨aR, aR, aR, aR, aR, aR, aR, aR, aR, aR, aR, trivial⟩ ⟨⟨rfl, .inr rfl⟩, ⟨rfl, .inr rfl⟩, ⟨rfl, .inl rfl⟩, trivial⟩ ?_
        refine RunC.seq ?_
        refine zQ ?_
        refine zm (r := b true) ?_
        refine zl (r := b false) (LOp.eqb (LOp.not rfl rfl) rfl) ?_
        refine zm (r := b false) ?_
        refine zm (r := b true) ?_
        refine zl (r := b false) (LOp.eqb (LOp.not rfl rfl) rfl) ?_
        refine zl (r := b false) (LOp.pick_false rfl rfl rfl) ?_
        refine zN ?_
        refine RunC.cond_false rfl rfl ?_
        refine RunC.skip ?_
        obtain ⟨hm13, h2_⟩ := need_some h2_
        refine RunC.regionW ?_
        refine zm (r := oref 0 u2 0 L4.length) ?_
        refine zm (r := f32 r8) ?_
        refine zm (r := f32 r11) ?_
        refine zl (r := cx .f32 r8 r11) (LOp.complex rfl (OpF.tmp rfl) (OpF.tmp rfl)) ?_
        refine ROps.d (r := oref 2 (u3 + 1) 0 1) (fs := [(2, (([(r8, r11)] : List (F × F)).map (cp .f32)))]) (Γ' := [⟨u2, some (L4.map (cp .f32))⟩, ⟨1, some (r1.map str)⟩, ⟨(u3 + 1), some (([(r8, r11)] : List (F × F)).map (cp .f32))⟩]) rfl rfl rfl (TOp.buildSlice_o (g := ⟨u3, none⟩) (za := cx .f32 (some 0) (some 0)) (qs := [(0, [cx .f32 r8 r11])]) 2 rfl und25 siz24 zer24 rfl zel24 rfl rfl ⟨rfl, ⟨_, ALe.refl _, rfl⟩, trivial⟩ rfl) rfl ?_
        refine ROps.app (f := (cp .f32)) (xs := L4) (ys := ([(r8, r11)] : List (F × F))) (Γ' := [⟨(u2 + 1), some ((L4 ++ ([(r8, r11)] : List (F × F))).map (cp .f32))⟩, ⟨1, some (r1.map str)⟩, ⟨(u3 + 1), some (([(r8, r11)] : List (F × F)).map (cp .f32))⟩]) rfl pun25 inf24 rfl rfl rfl rfl rfl rfl rfl rfl rfl (by simp) (ReadAs.own rfl (by simp)) (ones_map (fun _ => rfl)) (ap_by hm13) (ap_mx hm13) rfl ?_
        refine za (r := oref 0 (u2 + 1) 0 (L4.length + 1)) ?_
        refine zN ?_
        refine RunC.wl (τ' := [(4, oref 0 (u2 + 1) 0 (L4.length + 1)), (16, oref 1 1 0 r1.length), (17, i64 ((r1.length : Nat) : Int)), (18, i64 v5), (26, oref 0 u2 0 L4.length), (27, i64 ((L4.length : Nat) : Int)), (28, b false), (45, b true), (46, b false)]) (Γ' := [⟨(u2 + 1), some ((L4 ++ ([(r8, r11)] : List (F × F))).map (cp .f32))⟩, ⟨1, some (r1.map str)⟩, ⟨(u3 + 1), none⟩]) ⟨aR, aR, aR, aR, aR, aR, aR, aR, aR, trivial⟩ ⟨⟨rfl, .inr rfl⟩, ⟨rfl, .inr rfl⟩, ⟨rfl, .inl rfl⟩, trivial⟩ ?_
        obtain ⟨x16, hx17, h2_⟩ := olet_some h2_
        refine RunC.regionW ?_
        refine zl (r := i64 x16) (LOp.eqr (LOp.add rfl rfl rfl) (congrArg (ik .i64) hx17)) ?_
        refine zm (r := i64 x16) ?_
        refine zN ?_
        cases Option.some.inj h2_
        exact ⟨_, rfl, (u2 + 1), (u3 + 1), ⟨(ALe.eq (by rw [(app_len rfl rfl)] <;> rfl)), aR, aR, aR, trivial⟩, ⟨⟨rfl, .inr rfl⟩, ⟨rfl, .inr rfl⟩, ⟨rfl, .inl rfl⟩, trivial⟩⟩
       ·refine RunC.regionW ?_
        refine zm (r := str e6) ?_
        refine zl (r := str t10) (LOp.subs_lo und9 rfl rfl rfl hs10) ?_
        refine ROps.d (r := tup [f32 r11, b r12]) (fs := []) (Γ' := [⟨u2, some (L4.map (cp .f32))⟩, ⟨1, some (r1.map str)⟩, ⟨u3, none⟩]) rfl rfl rfl (TOp.callB (CallAs.func ent51 rfl rfl) (Bors.cons (Bor.pure rfl) Bors.nil) rfl rfl (i_fromDigits_ok t10 r11 r12 hf11)) rfl ?_
        refine zm (r := tup [f32 r11, b r12]) ?_
        refine zl (r := f32 r11) (LOp.extract rfl rfl rfl) ?_
        refine zl (r := b false) (LOp.eqb (LOp.extract rfl rfl rfl) hc12) ?_
        refine za (r := f32 r11) ?_
        refine za (r := b false) ?_
        refine zN ?_
        refine RunC.wl (τ' := [(4, oref 0 u2 0 L4.length), (7, f32 r8), (8, b true), (9, f32 r11), (10, b false), (16, oref 1 1 0 r1.length), (17, i64 ((r1.length : Nat) : Int)), (18, i64 v5), (26, oref 0 u2 0 L4.length), (27, i64 ((L4.length : Nat) : Int)), (28, b false)]) (Γ' := [⟨u2, some (L4.map (cp .f32))⟩, ⟨1, some (r1.map str)⟩, ⟨u3, none⟩]) ⟨aR, aR, aR, aR, aR, aR, aR, aR, aR, aR, aR, trivial⟩ ⟨⟨rfl, .inr rfl⟩, ⟨rfl, .inr rfl⟩, ⟨rfl, .inl rfl⟩, trivial⟩ ?_
        refine RunC.seq ?_
        refine zQ ?_
        refine zm (r := b true) ?_
        refine zl (r := b false) (LOp.eqb (LOp.not rfl rfl) rfl) ?_
        iterate 2 (refine zm (r := b false) ?_)
        refine zl (r := b true) (LOp.eqb (LOp.not rfl rfl) rfl) ?_
        refine zl (r := b true) (LOp.pick_false rfl rfl rfl) ?_
        refine zN ?_
        refine RunC.cond_true rfl rfl ?_
        refine zQ ?_
        refine za (r := nilsl) ?_
        refine za (r := b false) ?_
        refine zN ?_
        refine RunC.nil_slot (Γ' := [⟨u2, some (L4.map (cp .f32))⟩, ⟨1, some (r1.map str)⟩, ⟨(u3 + 1), some (([] : List (F × F)).map (cp .f32))⟩]) 2 2 rfl rfl rfl ?_
        refine RunC.ret ?_
        cases Option.some.inj h2_
        have hx5_ := hr2 _ rfl
        subst hx5_
        have hq := Option.some.inj h
        obtain ⟨hq0, hq⟩ := Prod.mk.inj hq
        subst q0
        subst q1
        exact bodyQ.mk (r' := tup [oref 2 (u3 + 1) 0 (([] : List (F × F)).length), b false]) [(2, (u3 + 1))] (.inr rfl) rfl (show List.Nodup [2] from by decide) (by simp [ren, rens, sigma]) rfl (Res.eq (Res.two rfl (RV.tmp rfl) (RV.tmp rfl)) (by rw [(show ([] : List (F × F)).length = 0 from rfl)] <;> rfl)) (SelL.arr0 (f := (cp .f32)) (fun _ => rfl) rfl trivial)
      ·refine RunC.regionW ?_
       refine zm (r := str e6) ?_
       refine zl (r := str t7) (LOp.subs_hi und9 rfl rfl rfl hs7) ?_
       refine ROps.d (r := tup [f32 r8, b r9]) (fs := []) (Γ' := [⟨u2, some (L4.map (cp .f32))⟩, ⟨1, some (r1.map str)⟩, ⟨u3, none⟩]) rfl rfl rfl (TOp.callB (CallAs.func ent51 rfl rfl) (Bors.cons (Bor.pure rfl) Bors.nil) rfl rfl (i_fromDigits_ok t7 r8 r9 hf8)) rfl ?_
       refine zm (r := tup [f32 r8, b r9]) ?_
       refine zl (r := f32 r8) (LOp.extract rfl rfl rfl) ?_
       refine zl (r := b false) (LOp.eqb (LOp.extract rfl rfl rfl) hc9) ?_
       refine za (r := f32 r8) ?_
       refine za (r := b false) ?_
       refine zN ?_
       refine RunC.seq ?_
       obtain ⟨t13, hs14, h2_⟩ := obind_some h2_
       obtain ⟨r14, r15, hf15, h2_⟩ := obind2_some h2_
       rcases bsel_some h2_ with ⟨hc16, h2_⟩ | ⟨hc16, h2_⟩
       ·refine RunC.regionW ?_
        refine zm (r := str e6) ?_
        refine zl (r := str t13) (LOp.subs_lo und9 rfl rfl rfl hs14) ?_
        refine ROps.d (r := tup [f32 r14, b r15]) (fs := []) (Γ' := [⟨u2, some (L4.map (cp .f32))⟩, ⟨1, some (r1.map str)⟩, ⟨u3, none⟩]) rfl rfl rfl (TOp.callB (CallAs.func ent51 rfl rfl) (Bors.cons (Bor.pure rfl) Bors.nil) rfl rfl (i_fromDigits_ok t13 r14 r15 hf15)) rfl ?_
        refine zm (r := tup [f32 r14, b r15]) ?_
        refine zl (r := f32 r14) (LOp.extract rfl rfl rfl) ?_
        refine zl (r := b true) (LOp.eqb (LOp.extract rfl rfl rfl) hc16) ?_
        refine za (r := f32 r14) ?_
        refine za (r := b true) ?_
        refine zN ?_
        refine RunC.wl (τ' := [(4, oref 0 u2 0 L4.length), (7, f32 r8), (8, b false), (9, f32 r14), (10, b true), (16, oref 1 1 0 r1.length), (17, i64 ((r1.length : Nat) : Int)), (18, i64 v5), (26, oref 0 u2 0 L4.length), (27, i64 ((L4.length : Nat) : Int)), (28, b false)]) (Γ' := [⟨u2, some (L4.map (cp .f32))⟩, ⟨1, some (r1.map str)⟩, ⟨u3, none⟩]) ⟨aR, aR, aR, aR, aR, aR, aR, aR, aR, aR, aR, trivial⟩ ⟨⟨rfl, .inr rfl⟩, ⟨rfl, .inr rfl⟩, ⟨rfl, .inl rfl⟩, trivial⟩ ?_
        refine RunC.seq ?_
        refine zQ ?_
        refine zm (r := b false) ?_
        refine zl (r := b true) (LOp.eqb (LOp.not rfl rfl) rfl) ?_
        refine zm (r := b true) ?_
        iterate 2 (refine ROps.s rfl rfl rfl ?_)
        refine zl (r := b true) (LOp.pick_true rfl rfl rfl) ?_
        refine zN ?_
        refine RunC.cond_true rfl rfl ?_
        refine zQ ?_
        refine za (r := nilsl) ?_
        refine za (r := b false) ?_
        refine zN ?_
        refine RunC.nil_slot (Γ' := [⟨u2, some (L4.map (cp .f32))⟩, ⟨1, some (r1.map str)⟩, ⟨(u3 + 1), some (([] : List (F × F)).map (cp .f32))⟩]) 2 2 rfl rfl rfl ?_
        refine RunC.ret ?_
        cases Option.some.inj h2_
        have hx6_ := hr2 _ rfl
        subst hx6_
        have hq := Option.some.inj h
        obtain ⟨hq0, hq⟩ := Prod.mk.inj hq
        subst q0
        subst q1
        exact bodyQ.mk (r' := tup [oref 2 (u3 + 1) 0 (([] : List (F × F)).length), b false]) [(2, (u3 + 1))] (.inr rfl) rfl (show List.Nodup [2] from by decide) (by simp [ren, rens, sigma]) rfl (Res.eq (Res.two rfl (RV.tmp rfl) (RV.tmp rfl)) (by rw [(show ([] : List (F × F)).length = 0 from rfl)] <;> rfl)) (SelL.arr0 (f := (cp .f32)) (fun _ => rfl) rfl trivial)
       ·refine RunC.regionW ?_
        refine zm (r := str e6) ?_
        refine zl (r := str t13) (LOp.subs_lo und9 rfl rfl rfl hs14) ?_
        refine ROps.d (r := tup [f32 r14, b r15]) (fs := []) (Γ' := [⟨u2, some (L4.map (cp .f32))⟩, ⟨1, some (r1.map str)⟩, ⟨u3, none⟩]) rfl rfl rfl (TOp.callB (CallAs.func ent51 rfl rfl) (Bors.cons (Bor.pure rfl) Bors.nil) rfl rfl (i_fromDigits_ok t13 r14 r15 hf15)) rfl ?_
        refine zm (r := tup [f32 r14, b r15]) ?_
        refine zl (r := f32 r14) (LOp.extract rfl rfl rfl) ?_
        refine zl (r := b false) (LOp.eqb (LOp.extract rfl rfl rfl) hc16) ?_
        refine za (r := f32 r14) ?_
        refine za (r := b false) ?_
        refine zN ?_
        refine RunC.wl (τ' := [(4, oref 0 u2 0 L4.length), (7, f32 r8), (8, b false), (9, f32 r14), (10, b false), (16, oref 1 1 0 r1.length), (17, i64 ((r1.length : Nat) : Int)), (18, i64 v5), (26, oref 0 u2 0 L4.length), (27, i64 ((L4.length : Nat) : Int)), (28, b false)]) (Γ' := [⟨u2, some (L4.map (cp .f32))⟩, ⟨1, some (r1.map str)⟩, ⟨u3, none⟩]) ⟨aR, aR, aR, aR, aR, aR, aR, aR, aR, aR, aR, trivial⟩ ⟨⟨rfl, .inr rfl⟩, ⟨rfl, .inr rfl⟩, ⟨rfl, .inl rfl⟩, trivial⟩ ?_
        refine RunC.seq ?_
        refine zQ ?_
        refine zm (r := b false) ?_
        refine zl (r := b true) (LOp.eqb (LOp.not rfl rfl) rfl) ?_
        refine zm (r := b true) ?_
        iterate 2 (refine ROps.s rfl rfl rfl ?_)
        refine zl (r := b true) (LOp.pick_true rfl rfl rfl) ?_
        refine zN ?_
        refine RunC.cond_true rfl rfl ?_
        refine zQ ?_
        refine za (r := nilsl) ?_
        refine za (r := b false) ?_
        refine zN ?_
        refine RunC.nil_slot (Γ' := [⟨u2, some (L4.map (cp .f32))⟩, ⟨1, some (r1.map str)⟩, ⟨(u3 + 1), some (([] : List (F × F)).map (cp .f32))⟩]) 2 2 rfl rfl rfl ?_
        refine RunC.ret ?_
        cases Option.some.inj h2_
        have hx7_ := hr2 _ rfl
        subst hx7_
        have hq := Option.some.inj h
        obtain ⟨hq0, hq⟩ := Prod.mk.inj hq
        subst q0
        subst q1
        exact bodyQ.mk (r' := tup [oref 2 (u3 + 1) 0 (([] : List (F × F)).length), b false]) [(2, (u3 + 1))] (.inr rfl) rfl (show List.Nodup [2] from by decide) (by simp [ren, rens, sigma]) rfl (Res.eq (Res.two rfl (RV.tmp rfl) (RV.tmp rfl)) (by rw [(show ([] : List (F × F)).length = 0 from rfl)] <;> rfl)) (SelL.arr0 (f := (cp .f32)) (fun _ => rfl) rfl trivial)
   ·refine RunC.regionW ?_
    refine zl (r := b false) (LOp.eqb (LOp.lss rfl rfl rfl) hc3) ?_
    refine zN ?_
    refine RunC.seq ?_
    refine RunC.cond_false rfl rfl ?_
    refine RunC.exit ?_
    cases Option.some.inj h2_
    have hx := ho2 _ rfl
    exact ⟨L4, u2, u3, ⟨aR, trivial⟩, ⟨⟨rfl, .inr rfl⟩, ⟨rfl, .inl rfl⟩, ⟨rfl, .inl rfl⟩, trivial⟩, hx⟩
  ·rintro τ8 Γ8 ⟨L19, u17, u18, hw8, hd8, rfl⟩
   refine RunC.wl hw8 hd8 ?_
   replace h : i_ReadComplex_k1 L19 = some (q0, q1) := h
   unfold i_ReadComplex_k1 at h
   refine zQ ?_
   refine zm (r := oref 0 u17 0 L19.length) ?_
   refine za (r := oref 0 u17 0 L19.length) ?_
   refine za (r := b true) ?_
   refine zN ?_
   refine RunC.ret ?_
   have hq := Option.some.inj h
   obtain ⟨hq0, hq⟩ := Prod.mk.inj hq
   subst q0
   subst q1
   exact bodyQ.mk (r' := tup [oref 0 u17 0 L19.length, b true]) [(0, u17)] (.inr rfl) rfl (show List.Nodup [0] from by decide) (by simp [ren, rens, sigma]) rfl (Res.two rfl (RV.tmp rfl) (RV.tmp rfl)) (SelL.arr0 (f := (cp .f32)) (fun _ => rfl) rfl trivial)
noncomputable def s_B10Number (a0 : List Int) : Option (F) :=
 obind3 (s_l00From a0) fun (r1 : List Int) (r2 : Int) (r3 : Int) =>
 obind3 (s_l00Src_one_0p0_C0 2 r1 r2 r3) fun (r4 : Bool) (r5 : Int) (r6 : Int) =>
 bsel r4 (
  obind3 (s_l00Src_pick_0p0_C0 65536 r1 r5 r6) fun (r7 : Int) (r8 : Int) (r9 : Int) =>
  olet (IntKind.i64.wrap (r7 * 65536)) fun (x10 : Int) =>
  obind3 (s_l00Src_pick_0p0_C0 65536 r1 r8 r9) fun (r11 : Int) (r12 : Int) (r13 : Int) =>
  olet (IntKind.i64.wrap (x10 + r11)) fun (x14 : Int) =>
  obind (s_l01From x14) fun (r15 : F) =>
  some r15) (
  obind3 (s_l01DrawFloat_0p0_C0 r1 r5 r6) fun (r16 : F) (r17 : Int) (r18 : Int) =>
  some r16)
theorem s_B10Number_ok (a0 : List Int) (q0 : F) (h : s_B10Number a0 = some q0) : Ev Tryz.prog 19 [sl a0.length (a0.map (ik .u8))] [] (f32 q0) [] := by
 refine Ev.start Tryz.func19 rfl rfl 1 (τ := [(0, sl a0.length (a0.map (ik .u8)))]) rfl (Γ' := [⟨0, none⟩]) rfl (n := 39) rfl (g := 0) rfl (fun _ => rfl) ?_
 unfold s_B10Number at h
 refine zQ ?_
 refine zl (r := f32 (some 0)) (LOp.le (LOp.assign rfl rfl) (ALe.fl (by kernel_rfl) (by kernel_rfl))) ?_
 refine zN ?_
 refine RunC.seq ?_
 obtain ⟨r1, r2, r3, hf1, h⟩ := obind3_some h
 refine RunC.regionW ?_
 refine zm (r := sl a0.length (a0.map (ik .u8))) ?_
 refine ROps.d (r := optr 0 1 0) (fs := [(0, [sl r1.length (r1.map (ik .u8)), i64 r2, ik .u64 r3])]) (Γ' := [⟨1, some [sl r1.length (r1.map (ik .u8)), i64 r2, ik .u64 r3]⟩]) rfl rfl rfl (TOp.callN (A := [sl a0.length (a0.map (ik .u8))]) (ls := [[sl r1.length (r1.map (ik .u8)), i64 r2, ik .u64 r3]]) [0] (by exact (CallAs.func ent38 rfl rfl)) (lts_cons (lt_sl (fun _ => rfl)) lts_nil) (s_l00From_ok a0 r1 r2 r3 hf1) (and_all (lts_cons (lt_sl (fun _ => rfl)) (lts_cons rfl (lts_cons rfl lts_nil))) rfl) rfl (by decide) (ns_of ⟨⟨_, rfl⟩, trivial⟩)) rfl ?_
 refine za (r := optr 0 1 0) ?_
 refine zN ?_
 iterate 2 (refine RunC.seq ?_)
 obtain ⟨r4, r5, r6, hf2, h⟩ := obind3_some h
 refine RunC.regionW ?_
 refine zm (r := optr 0 1 0) ?_
 refine ROps.callO (A := [optr 0 1 0, i64 2]) (args := [optr 0 0 0, i64 2]) (Γc := [⟨0, some [sl r1.length (r1.map (ik .u8)), i64 r2, ik .u64 r3]⟩]) (Γc' := [⟨0, some [sl r1.length (r1.map (ik .u8)), i64 r5, ik .u64 r6]⟩]) (r' := b r4) (Γ' := [⟨1, some [sl r1.length (r1.map (ik .u8)), i64 r5, ik .u64 r6]⟩]) [(0, 1)] [] rfl (CallAs.func ent52 rfl rfl) rfl rfl (SelOk.of (show List.Nodup [0] from by decide) (SelL.cells0 rfl (by simp [ren, rens, sigma, rens_f32, rens_f64, rens_i64, rens_ik, rens_str, rens_cp]) (lts_cons (lt_slk (fun _ => rfl)) (lts_cons rfl (lts_cons rfl lts_nil))) trivial)) (live_of ⟨⟨_, _, rfl⟩, trivial⟩) (by simp [ren, rens, sigma, rens_f32, rens_f64, rens_i64, rens_ik, rens_str, rens_cp]) rfl (s_l00Src_one_0p0_C0_ok 2 r1 r2 r3 r4 r5 r6 hf2) rfl (news_of trivial) (show List.Nodup [0] from by decide) (by simp [ren, rens, sigma]) (by simp [backOb, sigma, ren, rens, rens_f32, rens_f64, rens_i64, rens_ik, rens_str, rens_cp]) ?_
 refine zN ?_
 rcases bsel_some h with ⟨hc3, h⟩ | ⟨hc3, h⟩
 ·refine RunC.cond_true rfl hc3 ?_
  refine RunC.seq ?_
  obtain ⟨r7, r8, r9, hf4, h⟩ := obind3_some h
  obtain ⟨x10, hx5, h⟩ := olet_some h
  refine RunC.regionW ?_
  refine zm (r := optr 0 1 0) ?_
  refine ROps.callO (A := [optr 0 1 0, i64 65536]) (args := [optr 0 0 0, i64 65536]) (Γc := [⟨0, some [sl r1.length (r1.map (ik .u8)), i64 r5, ik .u64 r6]⟩]) (Γc' := [⟨0, some [sl r1.length (r1.map (ik .u8)), i64 r8, ik .u64 r9]⟩]) (r' := i64 r7) (Γ' := [⟨1, some [sl r1.length (r1.map (ik .u8)), i64 r8, ik .u64 r9]⟩]) [(0, 1)] [] rfl (CallAs.func ent39 rfl rfl) rfl rfl (SelOk.of (show List.Nodup [0] from by decide) (SelL.cells0 rfl (by simp [ren, rens, sigma, rens_f32, rens_f64, rens_i64, rens_ik, rens_str, rens_cp]) (lts_cons (lt_slk (fun _ => rfl)) (lts_cons rfl (lts_cons rfl lts_nil))) trivial)) (live_of ⟨⟨_, _, rfl⟩, trivial⟩) (by simp [ren, rens, sigma, rens_f32, rens_f64, rens_i64, rens_ik, rens_str, rens_cp]) rfl (s_l00Src_pick_0p0_C0_ok 65536 r1 r5 r6 r7 r8 r9 hf4) rfl (news_of trivial) (show List.Nodup [0] from by decide) (by simp [ren, rens, sigma]) (by simp [backOb, sigma, ren, rens, rens_f32, rens_f64, rens_i64, rens_ik, rens_str, rens_cp]) ?_
  refine zl (r := i64 x10) (LOp.eqr (LOp.mul rfl rfl rfl) (congrArg (ik .i64) hx5)) ?_
  refine za (r := i64 x10) ?_
  refine zN ?_
  refine RunC.seq ?_
  obtain ⟨r11, r12, r13, hf6, h⟩ := obind3_some h
  obtain ⟨x14, hx7, h⟩ := olet_some h
  obtain ⟨r15, hf8, h⟩ := obind_some h
  refine RunC.regionW ?_
  refine zm (r := i64 x10) ?_
  refine zm (r := optr 0 1 0) ?_
  refine ROps.callO (A := [optr 0 1 0, i64 65536]) (args := [optr 0 0 0, i64 65536]) (Γc := [⟨0, some [sl r1.length (r1.map (ik .u8)), i64 r8, ik .u64 r9]⟩]) (Γc' := [⟨0, some [sl r1.length (r1.map (ik .u8)), i64 r12, ik .u64 r13]⟩]) (r' := i64 r11) (Γ' := [⟨1, some [sl r1.length (r1.map (ik .u8)), i64 r12, ik .u64 r13]⟩]) [(0, 1)] [] rfl (CallAs.func ent39 rfl rfl) rfl rfl (SelOk.of (show List.Nodup [0] from by decide) (SelL.cells0 rfl (by simp [ren, rens, sigma, rens_f32, rens_f64, rens_i64, rens_ik, rens_str, rens_cp]) (lts_cons (lt_slk (fun _ => rfl)) (lts_cons rfl (lts_cons rfl lts_nil))) trivial)) (live_of ⟨⟨_, _, rfl⟩, trivial⟩) (by simp [ren, rens, sigma, rens_f32, rens_f64, rens_i64, rens_ik, rens_str, rens_cp]) rfl (s_l00Src_pick_0p0_C0_ok 65536 r1 r8 r9 r11 r12 r13 hf6) rfl (news_of trivial) (show List.Nodup [0] from by decide) (by simp [ren, rens, sigma]) (by simp [backOb, sigma, ren, rens, rens_f32, rens_f64, rens_i64, rens_ik, rens_str, rens_cp]) ?_
  refine zl (r := i64 x14) (LOp.eqr (LOp.add rfl rfl rfl) (congrArg (ik .i64) hx7)) ?_
  refine ROps.d (r := f32 r15) (fs := []) (Γ' := [⟨1, some [sl r1.length (r1.map (ik .u8)), i64 r12, ik .u64 r13]⟩]) rfl rfl rfl (TOp.callB (CallAs.func ent53 rfl rfl) (Bors.cons (Bor.pure rfl) Bors.nil) rfl rfl (s_l01From_ok x14 r15 hf8)) rfl ?_
  refine za (r := f32 r15) ?_
  refine zN ?_
  refine RunC.ret ?_
  have hq := Option.some.inj h
  subst q0
  exact bodyQ.pure (.inr rfl) rfl (Res.one rfl (RV.tmp rfl))
 ·refine RunC.cond_false rfl hc3 ?_
  refine RunC.skip ?_
  refine RunC.seq ?_
  obtain ⟨r16, r17, r18, hf9, h⟩ := obind3_some h
  refine RunC.regionW ?_
  refine zm (r := optr 0 1 0) ?_
  refine ROps.callO (A := [optr 0 1 0]) (args := [optr 0 0 0]) (Γc := [⟨0, some [sl r1.length (r1.map (ik .u8)), i64 r5, ik .u64 r6]⟩]) (Γc' := [⟨0, some [sl r1.length (r1.map (ik .u8)), i64 r17, ik .u64 r18]⟩]) (r' := f32 r16) (Γ' := [⟨1, some [sl r1.length (r1.map (ik .u8)), i64 r17, ik .u64 r18]⟩]) [(0, 1)] [] rfl (CallAs.func ent54 rfl rfl) rfl rfl (SelOk.of (show List.Nodup [0] from by decide) (SelL.cells0 rfl (by simp [ren, rens, sigma, rens_f32, rens_f64, rens_i64, rens_ik, rens_str, rens_cp]) (lts_cons (lt_slk (fun _ => rfl)) (lts_cons rfl (lts_cons rfl lts_nil))) trivial)) (live_of ⟨⟨_, _, rfl⟩, trivial⟩) (by simp [ren, rens, sigma, rens_f32, rens_f64, rens_i64, rens_ik, rens_str, rens_cp]) rfl (s_l01DrawFloat_0p0_C0_ok r1 r5 r6 r16 r17 r18 hf9) rfl (news_of trivial) (show List.Nodup [0] from by decide) (by simp [ren, rens, sigma]) (by simp [backOb, sigma, ren, rens, rens_f32, rens_f64, rens_i64, rens_ik, rens_str, rens_cp]) ?_
  refine za (r := f32 r16) ?_
  refine zN ?_
  refine RunC.ret ?_
  have hq := Option.some.inj h
  subst q0
  exact bodyQ.pure (.inr rfl) rfl (Res.one rfl (RV.tmp rfl))
noncomputable def i_inRange (a0 : Int) (a1 : Int) (a2 : Int) : Option (Bool) :=
 bsel (decide (a1 ≤ a0)) (
  some (decide (a0 ≤ a2))) (
  some false)
theorem i_inRange_ok (a0 : Int) (a1 : Int) (a2 : Int) (q0 : Bool) (h : i_inRange a0 a1 a2 = some q0) : Ev Tryz.prog 55 [i64 a0, i64 a1, i64 a2] [] (b q0) [] := by
 refine Ev.start Tryz.func55 rfl rfl 0 (τ := [(0, i64 a0), (1, i64 a1), (2, i64 a2)]) rfl (Γ' := []) rfl (n := 31) rfl (g := 0) rfl (fun _ => rfl) ?_
 unfold i_inRange at h
 refine zQ ?_
 refine za (r := b false) ?_
 refine zN ?_
 refine RunC.seq ?_
 rcases bsel_some h with ⟨hc1, h⟩ | ⟨hc1, h⟩
 ·refine RunC.regionW ?_
  refine zm (r := i64 a1) ?_
  refine zm (r := i64 a0) ?_
  refine zl (r := b true) (LOp.eqb (LOp.leq rfl rfl rfl) hc1) ?_
  refine zm (r := b true) ?_
  refine zm (r := i64 a0) ?_
  refine zm (r := i64 a2) ?_
  refine zl (r := b (decide (a0 ≤ a2))) (LOp.leq rfl rfl rfl) ?_
  refine zl (r := b (decide (a0 ≤ a2))) (LOp.pick_true rfl rfl rfl) ?_
  refine za (r := b (decide (a0 ≤ a2))) ?_
  refine zN ?_
  refine RunC.ret ?_
  have hq := Option.some.inj h
  subst q0
  exact bodyQ.pure (.inr rfl) rfl (Res.one rfl (RV.tmp rfl))
 ·refine RunC.regionW ?_
  refine zm (r := i64 a1) ?_
  refine zm (r := i64 a0) ?_
  refine zl (r := b false) (LOp.eqb (LOp.leq rfl rfl rfl) hc1) ?_
  refine zm (r := b false) ?_
  iterate 3 (refine ROps.s rfl rfl rfl ?_)
  refine zl (r := b false) (LOp.pick_false rfl rfl rfl) ?_
  refine za (r := b false) ?_
  refine zN ?_
  refine RunC.ret ?_
  have hq := Option.some.inj h
  subst q0
  exact bodyQ.pure (.inr rfl) rfl (Res.one rfl (RV.tmp rfl))
noncomputable def i_FromBits (a0 : Int) : Option (F × Bool) :=
 obind (i_inRange a0 0 4294967295) fun (r1 : Bool) =>
 bsel r1 (
  olet (IntKind.u32.wrap a0) fun (x2 : Int) =>
  need ((decide (0 ≤ x2) && decide (x2.toNat < 2 ^ FloatKind.f32.format.width))) <|
  some ((ffb .f32 x2), true)) (
  some (some 0, false))
theorem i_FromBits_ok (a0 : Int) (q0 : F) (q1 : Bool) (h : i_FromBits a0 = some (q0, q1)) : Ev Tryz.prog 20 [i64 a0] [] (tup [f32 q0, b q1]) [] := by
 refine Ev.start Tryz.func20 rfl rfl 0 (τ := [(0, i64 a0)]) rfl (Γ' := []) rfl (n := 21) rfl (g := 0) rfl (fun _ => rfl) ?_
 unfold i_FromBits at h
 refine zQ ?_
 refine zl (r := f32 (some 0)) (LOp.le (LOp.assign rfl rfl) (ALe.fl (by kernel_rfl) (by kernel_rfl))) ?_
 refine za (r := b false) ?_
 refine zN ?_
 iterate 2 (refine RunC.seq ?_)
 obtain ⟨r1, hf1, h⟩ := obind_some h
 rcases bsel_some h with ⟨hc2, h⟩ | ⟨hc2, h⟩
 ·refine RunC.regionW ?_
  refine zm (r := i64 a0) ?_
  refine ROps.d (r := b true) (fs := []) (Γ' := []) rfl rfl rfl (TOp.eqb (TOp.callB (CallAs.func ent55 rfl rfl) (Bors.cons (Bor.pure rfl) (Bors.cons (Bor.pure rfl) (Bors.cons (Bor.pure rfl) Bors.nil))) rfl rfl (i_inRange_ok a0 0 4294967295 r1 hf1)) hc2) rfl ?_
  refine zl (r := b false) (LOp.eqb (LOp.not rfl rfl) rfl) ?_
  refine zN ?_
  refine RunC.cond_false rfl rfl ?_
  refine RunC.skip ?_
  refine RunC.seq ?_
  obtain ⟨x2, hx3, h⟩ := olet_some h
  obtain ⟨hz4, h⟩ := need_some h
  refine RunC.regionW ?_
  refine zm (r := i64 a0) ?_
  refine zl (r := ik .u32 x2) (LOp.eqr (LOp.i2i (src := 2) (dst := 79) ⟨_, pun2⟩ pun79 rfl rfl) (congrArg (ik .u32) hx3)) ?_
  refine zl (r := f32 (ffb .f32 x2)) (LOp.ffromx ext56 rfl rfl hz4) ?_
  refine za (r := f32 (ffb .f32 x2)) ?_
  refine za (r := b true) ?_
  refine zN ?_
  refine RunC.ret ?_
  have hq := Option.some.inj h
  obtain ⟨hq0, hq⟩ := Prod.mk.inj hq
  subst q0
  subst q1
  exact bodyQ.pure (.inr rfl) rfl (Res.two rfl (RV.tmp rfl) (RV.tmp rfl))
 ·refine RunC.regionW ?_
  refine zm (r := i64 a0) ?_
  refine ROps.d (r := b false) (fs := []) (Γ' := []) rfl rfl rfl (TOp.eqb (TOp.callB (CallAs.func ent55 rfl rfl) (Bors.cons (Bor.pure rfl) (Bors.cons (Bor.pure rfl) (Bors.cons (Bor.pure rfl) Bors.nil))) rfl rfl (i_inRange_ok a0 0 4294967295 r1 hf1)) hc2) rfl ?_
  refine zl (r := b true) (LOp.eqb (LOp.not rfl rfl) rfl) ?_
  refine zN ?_
  refine RunC.cond_true rfl rfl ?_
  refine zQ ?_
  refine zl (r := f32 (some 0)) (LOp.le (LOp.assign rfl rfl) (ALe.fl (by kernel_rfl) (by kernel_rfl))) ?_
  refine za (r := b false) ?_
  refine zN ?_
  refine RunC.ret ?_
  have hq := Option.some.inj h
  obtain ⟨hq0, hq⟩ := Prod.mk.inj hq
  subst q0
  subst q1
  exact bodyQ.pure (.inr rfl) rfl (Res.two rfl (RV.tmp rfl) (RV.tmp rfl))
noncomputable def s_B10Complex (a0 : List Int) : Option (F × F) :=
 obind3 (s_l00From a0) fun (r1 : List Int) (r2 : Int) (r3 : Int) =>
 obind3 (s_l00Src_one_0p0_C0 4 r1 r2 r3) fun (r4 : Bool) (r5 : Int) (r6 : Int) =>
 bsel r4 (
  obind4 (s_l01DrawComplex_0p0_C0 r1 r5 r6) fun (r7 : F) (r8 : F) (r9 : Int) (r10 : Int) =>
  some (r7, r8)) (
  obind4 (s_l01DrawFine_0p0_C0 r1 r5 r6) fun (r11 : F) (r12 : F) (r13 : Int) (r14 : Int) =>
  some (r11, r12))
theorem s_B10Complex_ok (a0 : List Int) (q0 : F) (q1 : F) (h : s_B10Complex a0 = some (q0, q1)) : Ev Tryz.prog 22 [sl a0.length (a0.map (ik .u8))] [] (cx .f32 q0 q1) [] := by
 refine Ev.start Tryz.func22 rfl rfl 1 (τ := [(0, sl a0.length (a0.map (ik .u8)))]) rfl (Γ' := [⟨0, none⟩]) rfl (n := 25) rfl (g := 0) rfl (fun _ => rfl) ?_
 unfold s_B10Complex at h
 refine zQ ?_
 refine zl (r := cx .f32 (some 0) (some 0)) (LOp.le (LOp.assign rfl rfl) (ALe.cpx (by kernel_rfl) (by kernel_rfl) (by kernel_rfl) (by kernel_rfl))) ?_
 refine zN ?_
 refine RunC.seq ?_
 obtain ⟨r1, r2, r3, hf1, h⟩ := obind3_some h
 refine RunC.regionW ?_
 refine zm (r := sl a0.length (a0.map (ik .u8))) ?_
 refine ROps.d (r := optr 0 1 0) (fs := [(0, [sl r1.length (r1.map (ik .u8)), i64 r2, ik .u64 r3])]) (Γ' := [⟨1, some [sl r1.length (r1.map (ik .u8)), i64 r2, ik .u64 r3]⟩]) rfl rfl rfl (TOp.callN (A := [sl a0.length (a0.map (ik .u8))]) (ls := [[sl r1.length (r1.map (ik .u8)), i64 r2, ik .u64 r3]]) [0] (by exact (CallAs.func ent38 rfl rfl)) (lts_cons (lt_sl (fun _ => rfl)) lts_nil) (s_l00From_ok a0 r1 r2 r3 hf1) (and_all (lts_cons (lt_sl (fun _ => rfl)) (lts_cons rfl (lts_cons rfl lts_nil))) rfl) rfl (by decide) (ns_of ⟨⟨_, rfl⟩, trivial⟩)) rfl ?_
 refine za (r := optr 0 1 0) ?_
 refine zN ?_
 iterate 2 (refine RunC.seq ?_)
 obtain ⟨r4, r5, r6, hf2, h⟩ := obind3_some h
 refine RunC.regionW ?_
 refine zm (r := optr 0 1 0) ?_
 refine ROps.callO (A := [optr 0 1 0, i64 4]) (args := [optr 0 0 0, i64 4]) (Γc := [⟨0, some [sl r1.length (r1.map (ik .u8)), i64 r2, ik .u64 r3]⟩]) (Γc' := [⟨0, some [sl r1.length (r1.map (ik .u8)), i64 r5, ik .u64 r6]⟩]) (r' := b r4) (Γ' := [⟨1, some [sl r1.length (r1.map (ik .u8)), i64 r5, ik .u64 r6]⟩]) [(0, 1)] [] rfl (CallAs.func ent52 rfl rfl) rfl rfl (SelOk.of (show List.Nodup [0] from by decide) (SelL.cells0 rfl (by simp [ren, rens, sigma, rens_f32, rens_f64, rens_i64, rens_ik, rens_str, rens_cp]) (lts_cons (lt_slk (fun _ => rfl)) (lts_cons rfl (lts_cons rfl lts_nil))) trivial)) (live_of ⟨⟨_, _, rfl⟩, trivial⟩) (by simp [ren, rens, sigma, rens_f32, rens_f64, rens_i64, rens_ik, rens_str, rens_cp]) rfl (s_l00Src_one_0p0_C0_ok 4 r1 r2 r3 r4 r5 r6 hf2) rfl (news_of trivial) (show List.Nodup [0] from by decide) (by simp [ren, rens, sigma]) (by simp [backOb, sigma, ren, rens, rens_f32, rens_f64, rens_i64, rens_ik, rens_str, rens_cp]) ?_
 refine zN ?_
 rcases bsel_some h with ⟨hc3, h⟩ | ⟨hc3, h⟩
 ·refine RunC.cond_true rfl hc3 ?_
  refine RunC.seq ?_
  obtain ⟨r7, r8, r9, r10, hf4, h⟩ := obind4_some h
  refine RunC.regionW ?_
  refine zm (r := optr 0 1 0) ?_
  refine ROps.callO (A := [optr 0 1 0]) (args := [optr 0 0 0]) (Γc := [⟨0, some [sl r1.length (r1.map (ik .u8)), i64 r5, ik .u64 r6]⟩]) (Γc' := [⟨0, some [sl r1.length (r1.map (ik .u8)), i64 r9, ik .u64 r10]⟩]) (r' := cx .f32 r7 r8) (Γ' := [⟨1, some [sl r1.length (r1.map (ik .u8)), i64 r9, ik .u64 r10]⟩]) [(0, 1)] [] rfl (CallAs.func ent58 rfl rfl) rfl rfl (SelOk.of (show List.Nodup [0] from by decide) (SelL.cells0 rfl (by simp [ren, rens, sigma, rens_f32, rens_f64, rens_i64, rens_ik, rens_str, rens_cp]) (lts_cons (lt_slk (fun _ => rfl)) (lts_cons rfl (lts_cons rfl lts_nil))) trivial)) (live_of ⟨⟨_, _, rfl⟩, trivial⟩) (by simp [ren, rens, sigma, rens_f32, rens_f64, rens_i64, rens_ik, rens_str, rens_cp]) rfl (s_l01DrawComplex_0p0_C0_ok r1 r5 r6 r7 r8 r9 r10 hf4) rfl (news_of trivial) (show List.Nodup [0] from by decide) (by simp [ren, rens, sigma]) (by simp [backOb, sigma, ren, rens, rens_f32, rens_f64, rens_i64, rens_ik, rens_str, rens_cp]) ?_
  refine za (r := cx .f32 r7 r8) ?_
  refine zN ?_
  refine RunC.ret ?_
  have hq := Option.some.inj h
  obtain ⟨hq0, hq⟩ := Prod.mk.inj hq
  subst q0
  subst q1
  exact bodyQ.pure (.inr rfl) rfl (Res.one rfl (RV.tmp rfl))
 ·refine RunC.cond_false rfl hc3 ?_
  refine RunC.skip ?_
  refine RunC.seq ?_
  obtain ⟨r11, r12, r13, r14, hf5, h⟩ := obind4_some h
  refine RunC.regionW ?_
  refine zm (r := optr 0 1 0) ?_
  refine ROps.callO (A := [optr 0 1 0]) (args := [optr 0 0 0]) (Γc := [⟨0, some [sl r1.length (r1.map (ik .u8)), i64 r5, ik .u64 r6]⟩]) (Γc' := [⟨0, some [sl r1.length (r1.map (ik .u8)), i64 r13, ik .u64 r14]⟩]) (r' := cx .f32 r11 r12) (Γ' := [⟨1, some [sl r1.length (r1.map (ik .u8)), i64 r13, ik .u64 r14]⟩]) [(0, 1)] [] rfl (CallAs.func ent59 rfl rfl) rfl rfl (SelOk.of (show List.Nodup [0] from by decide) (SelL.cells0 rfl (by simp [ren, rens, sigma, rens_f32, rens_f64, rens_i64, rens_ik, rens_str, rens_cp]) (lts_cons (lt_slk (fun _ => rfl)) (lts_cons rfl (lts_cons rfl lts_nil))) trivial)) (live_of ⟨⟨_, _, rfl⟩, trivial⟩) (by simp [ren, rens, sigma, rens_f32, rens_f64, rens_i64, rens_ik, rens_str, rens_cp]) rfl (s_l01DrawFine_0p0_C0_ok r1 r5 r6 r11 r12 r13 r14 hf5) rfl (news_of trivial) (show List.Nodup [0] from by decide) (by simp [ren, rens, sigma]) (by simp [backOb, sigma, ren, rens, rens_f32, rens_f64, rens_i64, rens_ik, rens_str, rens_cp]) ?_
  refine za (r := cx .f32 r11 r12) ?_
  refine zN ?_
  refine RunC.ret ?_
  have hq := Option.some.inj h
  obtain ⟨hq0, hq⟩ := Prod.mk.inj hq
  subst q0
  subst q1
  exact bodyQ.pure (.inr rfl) rfl (Res.one rfl (RV.tmp rfl))
noncomputable def s_l01CSame (a0 : F) (a1 : F) (a2 : F) (a3 : F) : Option (Bool) :=
 obind (s_l01Same a0 a2) fun (r1 : Bool) =>
 bsel r1 (
  obind (s_l01Same a1 a3) fun (r2 : Bool) =>
  some r2) (
  some false)
theorem s_l01CSame_ok (a0 : F) (a1 : F) (a2 : F) (a3 : F) (q0 : Bool) (h : s_l01CSame a0 a1 a2 a3 = some q0) : Ev Tryz.prog 86 [cx .f32 a0 a1, cx .f32 a2 a3] [] (b q0) [] := by
 refine Ev.start Tryz.func86 rfl rfl 0 (τ := [(0, cx .f32 a0 a1), (1, cx .f32 a2 a3)]) rfl (Γ' := []) rfl (n := 35) rfl (g := 0) rfl (fun _ => rfl) ?_
 unfold s_l01CSame at h
 refine zQ ?_
 refine za (r := b false) ?_
 refine zN ?_
 refine RunC.seq ?_
 obtain ⟨r1, hf1, h⟩ := obind_some h
 rcases bsel_some h with ⟨hc2, h⟩ | ⟨hc2, h⟩
 ·obtain ⟨r2, hf3, h⟩ := obind_some h
  refine RunC.regionW ?_
  refine zm (r := cx .f32 a0 a1) ?_
  refine zl (r := f32 a0) (LOp.real rfl rfl) ?_
  refine zm (r := cx .f32 a2 a3) ?_
  refine zl (r := f32 a2) (LOp.real rfl rfl) ?_
  refine ROps.d (r := b true) (fs := []) (Γ' := []) rfl rfl rfl (TOp.eqb (TOp.callB (CallAs.func ent42 rfl rfl) (Bors.cons (Bor.pure rfl) (Bors.cons (Bor.pure rfl) Bors.nil)) rfl rfl (s_l01Same_ok a0 a2 r1 hf1)) hc2) rfl ?_
  refine zm (r := b true) ?_
  refine zm (r := cx .f32 a0 a1) ?_
  refine zl (r := f32 a1) (LOp.imag rfl rfl) ?_
  refine zm (r := cx .f32 a2 a3) ?_
  refine zl (r := f32 a3) (LOp.imag rfl rfl) ?_
  refine ROps.d (r := b r2) (fs := []) (Γ' := []) rfl rfl rfl (TOp.callB (CallAs.func ent42 rfl rfl) (Bors.cons (Bor.pure rfl) (Bors.cons (Bor.pure rfl) Bors.nil)) rfl rfl (s_l01Same_ok a1 a3 r2 hf3)) rfl ?_
  refine zl (r := b r2) (LOp.pick_true rfl rfl rfl) ?_
  refine za (r := b r2) ?_
  refine zN ?_
  refine RunC.ret ?_
  have hq := Option.some.inj h
  subst q0
  exact bodyQ.pure (.inr rfl) rfl (Res.one rfl (RV.tmp rfl))
 ·refine RunC.regionW ?_
  refine zm (r := cx .f32 a0 a1) ?_
  refine zl (r := f32 a0) (LOp.real rfl rfl) ?_
  refine zm (r := cx .f32 a2 a3) ?_
  refine zl (r := f32 a2) (LOp.real rfl rfl) ?_
  refine ROps.d (r := b false) (fs := []) (Γ' := []) rfl rfl rfl (TOp.eqb (TOp.callB (CallAs.func ent42 rfl rfl) (Bors.cons (Bor.pure rfl) (Bors.cons (Bor.pure rfl) Bors.nil)) rfl rfl (s_l01Same_ok a0 a2 r1 hf1)) hc2) rfl ?_
  refine zm (r := b false) ?_
  iterate 5 (refine ROps.s rfl rfl rfl ?_)
  refine zl (r := b false) (LOp.pick_false rfl rfl rfl) ?_
  refine za (r := b false) ?_
  refine zN ?_
  refine RunC.ret ?_
  have hq := Option.some.inj h
  subst q0
  exact bodyQ.pure (.inr rfl) rfl (Res.one rfl (RV.tmp rfl))
noncomputable def s_SameComplex (a0 : F) (a1 : F) (a2 : F) (a3 : F) : Option (Bool) :=
 obind (s_l01CSame a0 a1 a2 a3) fun (r1 : Bool) =>
 some r1
theorem s_SameComplex_ok (a0 : F) (a1 : F) (a2 : F) (a3 : F) (q0 : Bool) (h : s_SameComplex a0 a1 a2 a3 = some q0) : Ev Tryz.prog 60 [cx .f32 a0 a1, cx .f32 a2 a3] [] (b q0) [] := by
 refine Ev.start Tryz.func60 rfl rfl 0 (τ := [(0, cx .f32 a0 a1), (1, cx .f32 a2 a3)]) rfl (Γ' := []) rfl (n := 17) rfl (g := 0) rfl (fun _ => rfl) ?_
 unfold s_SameComplex at h
 refine zQ ?_
 refine za (r := b false) ?_
 refine zN ?_
 refine RunC.seq ?_
 obtain ⟨r1, hf1, h⟩ := obind_some h
 refine RunC.regionW ?_
 refine zm (r := cx .f32 a0 a1) ?_
 refine zm (r := cx .f32 a2 a3) ?_
 refine ROps.d (r := b r1) (fs := []) (Γ' := []) rfl rfl rfl (TOp.callB (CallAs.func ent86 rfl rfl) (Bors.cons (Bor.pure rfl) (Bors.cons (Bor.pure rfl) Bors.nil)) rfl rfl (s_l01CSame_ok a0 a1 a2 a3 r1 hf1)) rfl ?_
 refine za (r := b r1) ?_
 refine zN ?_
 refine RunC.ret ?_
 have hq := Option.some.inj h
 subst q0
 exact bodyQ.pure (.inr rfl) rfl (Res.one rfl (RV.tmp rfl))
noncomputable def w_b10Same_b1 (a0 : List (F × F)) (a1 : List (F × F)) (v1 : Int) : Option (LR (Int) (Unit) (Bool)) :=
 bsel (decide (v1 < (a0.length : Int))) (
  obind (at? a0 v1) fun (e2 : (F × F)) =>
  obind (at? a1 v1) fun (e3 : (F × F)) =>
  obind (s_SameComplex e2.1 e2.2 e3.1 e3.2) fun (r4 : Bool) =>
  bsel r4 (
   olet (IntKind.i64.wrap (v1 + 1)) fun (x5 : Int) =>
   some (LR.next x5)) (
   some (LR.ret false))) (
  some (LR.out ()))
noncomputable def w_b10Same_s1 (a0 : List (F × F)) (a1 : List (F × F)) : (Int) → Option (LR (Int) (Unit) (Bool)) := fun s => w_b10Same_b1 a0 a1 s
noncomputable def w_b10Same_k1  : Option (Bool) :=
 some true
noncomputable def w_b10Same (a0 : List (F × F)) (a1 : List (F × F)) : Option (Bool) :=
 bsel (!decide ((a0.length : Int) = (a1.length : Int))) (
  some false) (
  obind (loopM (w_b10Same_s1 a0 a1) 0) fun z => osum z (fun _ => w_b10Same_k1) (fun r => some r))
theorem w_b10Same_ok (a0 : List (F × F)) (a1 : List (F × F)) (q0 : Bool) (h : w_b10Same a0 a1 = some q0) : Ev Tryz.prog 23 [sl a0.length (a0.map (cp .f32)), sl a1.length (a1.map (cp .f32))] [] (b q0) [] := by
 refine Ev.start Tryz.func23 rfl rfl 0 (τ := [(0, sl a0.length (a0.map (cp .f32))), (1, sl a1.length (a1.map (cp .f32)))]) rfl (Γ' := []) rfl (n := 55) rfl (g := 0) rfl (fun _ => rfl) ?_
 unfold w_b10Same at h
 refine zQ ?_
 refine za (r := b false) ?_
 refine zN ?_
 iterate 2 (refine RunC.seq ?_)
 rcases bsel_some h with ⟨hc1, h⟩ | ⟨hc1, h⟩
 ·refine RunC.regionW ?_
  refine zm (r := sl a0.length (a0.map (cp .f32))) ?_
  refine zl (r := i64 (a0.length : Int)) (LOp.len_sl und25 rfl rfl) ?_
  refine zm (r := sl a1.length (a1.map (cp .f32))) ?_
  refine zl (r := i64 (a1.length : Int)) (LOp.len_sl und25 rfl rfl) ?_
  refine zl (r := b true) (LOp.eqb (LOp.neq rfl rfl rfl) hc1) ?_
  refine zN ?_
  refine RunC.cond_true rfl rfl ?_
  refine zQ ?_
  refine za (r := b false) ?_
  refine zN ?_
  refine RunC.ret ?_
  have hq := Option.some.inj h
  subst q0
  exact bodyQ.pure (.inr rfl) rfl (Res.one rfl (RV.tmp rfl))
 ·refine RunC.regionW ?_
  refine zm (r := sl a0.length (a0.map (cp .f32))) ?_
  refine zl (r := i64 (a0.length : Int)) (LOp.len_sl und25 rfl rfl) ?_
  refine zm (r := sl a1.length (a1.map (cp .f32))) ?_
  refine zl (r := i64 (a1.length : Int)) (LOp.len_sl und25 rfl rfl) ?_
  refine zl (r := b false) (LOp.eqb (LOp.neq rfl rfl rfl) hc1) ?_
  refine zN ?_
  refine RunC.cond_false rfl rfl ?_
  refine RunC.skip ?_
  refine RunC.seq ?_
  refine zQ ?_
  refine zm (r := sl a0.length (a0.map (cp .f32))) ?_
  refine zl (r := i64 (a0.length : Int)) (LOp.len_sl und25 rfl rfl) ?_
  refine zm (r := i64 0) ?_
  refine zN ?_
  obtain ⟨z2, hz_2, h⟩ := obind_some h
  refine RunC.cutN (fun τ Γ => WeakLe τ [] ∧ DeadLe Γ [] ∧ z2 = .inl ()) ?_ ?_
  ·refine RunC.block (RunC.loop (RunL.loopM (x := z2) (w_b10Same_s1 a0 a1) (fun (s : Int) τ Γ => WeakLe τ [(0, sl a0.length (a0.map (cp .f32))), (1, sl a1.length (a1.map (cp .f32))), (12, i64 (a0.length : Int)), (13, i64 s)] ∧ DeadLe Γ []) ?_ _ _ _ hz_2 ⟨⟨aR, aR, aR, aR, trivial⟩, trivial⟩))
   rintro v1 τ2 Γ2 y2_ ⟨hw2, hd2⟩ h2_ ho2 hr2
   refine RunC.wl (τ' := [(0, sl a0.length (a0.map (cp .f32))), (1, sl a1.length (a1.map (cp .f32))), (12, i64 (a0.length : Int)), (13, i64 v1)]) (Γ' := []) hw2 hd2 ?_
   replace h2_ : w_b10Same_b1 a0 a1 v1 = some y2_ := h2_
   unfold w_b10Same_b1 at h2_
   refine RunC.seq ?_
   rcases bsel_some h2_ with ⟨hc2, h2_⟩ | ⟨hc2, h2_⟩
   ·refine RunC.regionW ?_
    refine zl (r := b true) (LOp.eqb (LOp.lss rfl rfl rfl) hc2) ?_
    refine zN ?_
    refine RunC.seq ?_
    refine RunC.cond_true rfl rfl ?_
    refine RunC.skip ?_
    refine RunC.seq ?_
    refine RunC.block ?_
    refine zQ ?_
    refine zm (r := i64 v1) ?_
    refine za (r := i64 v1) ?_
    refine zN ?_
    refine RunC.seq ?_
    obtain ⟨e2, he3, h2_⟩ := obind_some h2_
    obtain ⟨e3, he4, h2_⟩ := obind_some h2_
    obtain ⟨r4, hf5, h2_⟩ := obind_some h2_
    rcases bsel_some h2_ with ⟨hc6, h2_⟩ | ⟨hc6, h2_⟩
    ·refine RunC.region_draw (Γ' := []) 10 mixed 
      (TR.l (r := sl a0.length (a0.map (cp .f32))) rfl rfl (LOp.move rfl rfl) <|
      (TR.l (r := i64 v1) rfl rfl (LOp.move rfl rfl) <|
      (TR.l (r := ptr [cx .f32 e2.1 e2.2]) rfl rfl (LOp.le (LOp.ix (f := (cp .f32)) und25 siz24 rfl rfl rfl rfl he3) ALe.ptr) <|
      (TR.l (r := cx .f32 e2.1 e2.2) rfl rfl (LOp.load1 agg24 rfl rfl) <|
      (TR.l (r := sl a1.length (a1.map (cp .f32))) rfl rfl (LOp.move rfl rfl) <|
      (TR.l (r := i64 v1) rfl rfl (LOp.move rfl rfl) <|
      (TR.l (r := ptr [cx .f32 e3.1 e3.2]) rfl rfl (LOp.le (LOp.ix (f := (cp .f32)) und25 siz24 rfl rfl rfl rfl he4) ALe.ptr) <|
      (TR.l (r := cx .f32 e3.1 e3.2) rfl rfl (LOp.load1 agg24 rfl rfl) <|
      (TR.d (r := b true) (fs := []) rfl rfl (TOp.eqb (TOp.callB (CallAs.func ent60 rfl rfl) (Bors.cons (Bor.pure rfl) (Bors.cons (Bor.pure rfl) Bors.nil)) rfl rfl (s_SameComplex_ok e2.1 e2.2 e3.1 e3.2 r4 hf5)) hc6) <|
      (TR.l (r := b false) rfl rfl (LOp.eqb (LOp.not rfl rfl) rfl) <|
      TR.nil)))))))))) rfl (by kernel_rfl) rfl fills_nil rfl ?_
     iterate 10 refine ROps.dropS ?_
     refine ROps.drop0 ?_
     refine zN ?_
     refine RunC.cond_false rfl rfl ?_
     refine RunC.skip ?_
     refine RunC.wl (τ' := [(0, sl a0.length (a0.map (cp .f32))), (1, sl a1.length (a1.map (cp .f32))), (12, i64 (a0.length : Int)), (13, i64 v1)]) (Γ' := []) ⟨aR, aR, aR, aR, trivial⟩ trivial ?_
     obtain ⟨x5, hx7, h2_⟩ := olet_some h2_
     refine RunC.regionW ?_
     refine zl (r := i64 x5) (LOp.eqr (LOp.add rfl rfl rfl) (congrArg (ik .i64) hx7)) ?_
     refine zm (r := i64 x5) ?_
     refine zN ?_
     cases Option.some.inj h2_
     exact ⟨_, rfl, ⟨aR, aR, aR, aR, trivial⟩, trivial⟩
    ·refine RunC.region_draw (Γ' := []) 10 mixed 
      (TR.l (r := sl a0.length (a0.map (cp .f32))) rfl rfl (LOp.move rfl rfl) <|
      (TR.l (r := i64 v1) rfl rfl (LOp.move rfl rfl) <|
      (TR.l (r := ptr [cx .f32 e2.1 e2.2]) rfl rfl (LOp.le (LOp.ix (f := (cp .f32)) und25 siz24 rfl rfl rfl rfl he3) ALe.ptr) <|
      (TR.l (r := cx .f32 e2.1 e2.2) rfl rfl (LOp.load1 agg24 rfl rfl) <|
      (TR.l (r := sl a1.length (a1.map (cp .f32))) rfl rfl (LOp.move rfl rfl) <|
      (TR.l (r := i64 v1) rfl rfl (LOp.move rfl rfl) <|
      (TR.l (r := ptr [cx .f32 e3.1 e3.2]) rfl rfl (LOp.le (LOp.ix (f := (cp .f32)) und25 siz24 rfl rfl rfl rfl he4) ALe.ptr) <|
      (TR.l (r := cx .f32 e3.1 e3.2) rfl rfl (LOp.load1 agg24 rfl rfl) <|
      (TR.d (r := b false) (fs := []) rfl rfl (TOp.eqb (TOp.callB (CallAs.func ent60 rfl rfl) (Bors.cons (Bor.pure rfl) (Bors.cons (Bor.pure rfl) Bors.nil)) rfl rfl (s_SameComplex_ok e2.1 e2.2 e3.1 e3.2 r4 hf5)) hc6) <|
      (TR.l (r := b true) rfl rfl (LOp.eqb (LOp.not rfl rfl) rfl) <|
      TR.nil)))))))))) rfl (by kernel_rfl) rfl fills_nil rfl ?_
     iterate 10 refine ROps.dropS ?_
     refine ROps.drop0 ?_
     refine zN ?_
     refine RunC.cond_true rfl rfl ?_
     refine zQ ?_
     refine za (r := b false) ?_
     refine zN ?_
     refine RunC.ret ?_
     cases Option.some.inj h2_
     have hx3_ := hr2 _ rfl
     subst hx3_
     have hq := Option.some.inj h
     subst q0
     exact bodyQ.pure (.inr rfl) rfl (Res.one rfl (RV.tmp rfl))
   ·refine RunC.regionW ?_
    refine zl (r := b false) (LOp.eqb (LOp.lss rfl rfl rfl) hc2) ?_
    refine zN ?_
    refine RunC.seq ?_
    refine RunC.cond_false rfl rfl ?_
    refine RunC.exit ?_
    cases Option.some.inj h2_
    have hx := ho2 _ rfl
    exact ⟨trivial, trivial, hx⟩
  ·rintro τ4 Γ4 ⟨hw4, hd4, rfl⟩
   refine RunC.wl hw4 hd4 ?_
   replace h : w_b10Same_k1 = some q0 := h
   unfold w_b10Same_k1 at h
   refine zQ ?_
   refine za (r := b true) ?_
   refine zN ?_
   refine RunC.ret ?_
   have hq := Option.some.inj h
   subst q0
   exact bodyQ.pure (.inr rfl) rfl (Res.one rfl (RV.tmp rfl))
noncomputable def i_NarrowComplex (a0 : F) (a1 : F) : Option (F × F) :=
 obind (fnarrow a0) fun (y1 : F) =>
 obind (fnarrow a1) fun (y2 : F) =>
 some (y1, y2)
theorem i_NarrowComplex_ok (a0 : F) (a1 : F) (q0 : F) (q1 : F) (h : i_NarrowComplex a0 a1 = some (q0, q1)) : Ev Tryz.prog 25 [cx .f64 a0 a1] [] (cx .f32 q0 q1) [] := by
 refine Ev.start Tryz.func25 rfl rfl 0 (τ := [(0, cx .f64 a0 a1)]) rfl (Γ' := []) rfl (n := 21) rfl (g := 0) rfl (fun _ => rfl) ?_
 unfold i_NarrowComplex at h
 refine zQ ?_
 refine zl (r := cx .f32 (some 0) (some 0)) (LOp.le (LOp.assign rfl rfl) (ALe.cpx (by kernel_rfl) (by kernel_rfl) (by kernel_rfl) (by kernel_rfl))) ?_
 refine zN ?_
 refine RunC.seq ?_
 obtain ⟨y1, hy1, h⟩ := obind_some h
 obtain ⟨y2, hy2, h⟩ := obind_some h
 refine RunC.regionW ?_
 refine zm (r := cx .f64 a0 a1) ?_
 refine zl (r := f64 a0) (LOp.real rfl rfl) ?_
 refine ROps.d (r := f32 y1) (fs := []) (Γ' := []) rfl rfl rfl (TOp.narrow (src := 46) (dst := 28) ⟨_, pun46⟩ pun28 rfl (OpF.tmp rfl) hy1) rfl ?_
 refine zm (r := cx .f64 a0 a1) ?_
 refine zl (r := f64 a1) (LOp.imag rfl rfl) ?_
 refine ROps.d (r := f32 y2) (fs := []) (Γ' := []) rfl rfl rfl (TOp.narrow (src := 46) (dst := 28) ⟨_, pun46⟩ pun28 rfl (OpF.tmp rfl) hy2) rfl ?_
 refine zl (r := cx .f32 y1 y2) (LOp.complex rfl (OpF.tmp rfl) (OpF.tmp rfl)) ?_
 refine za (r := cx .f32 y1 y2) ?_
 refine zN ?_
 refine RunC.ret ?_
 have hq := Option.some.inj h
 obtain ⟨hq0, hq⟩ := Prod.mk.inj hq
 subst q0
 subst q1
 exact bodyQ.pure (.inr rfl) rfl (Res.one rfl (RV.tmp rfl))
noncomputable def x_math_Signbit (a0 : F) : Option (Bool) :=
 obind (a0) fun (b1 : Nat) =>
 olet (IntKind.i64.wrap (b1 : Int)) fun (x2 : Int) =>
 some (decide (x2 < 0))
theorem x_math_Signbit_ok (a0 : F) (q0 : Bool) (h : x_math_Signbit a0 = some q0) : Ev Tryz.prog 87 [f64 a0] [] (b q0) [] := by
 refine Ev.start Tryz.func87 rfl rfl 0 (τ := [(0, f64 a0)]) rfl (Γ' := []) rfl (n := 15) rfl (g := 0) rfl (fun _ => rfl) ?_
 unfold x_math_Signbit at h
 refine zQ ?_
 refine za (r := b false) ?_
 refine zN ?_
 refine RunC.seq ?_
 obtain ⟨b1, he1, h⟩ := obind_some h
 obtain ⟨x2, hx2, h⟩ := olet_some h
 refine RunC.regionW ?_
 refine zm (r := f64 a0) ?_
 refine zl (r := ik .u64 (b1 : Int)) (LOp.fbx ext90 rfl (OpF.tmp rfl) he1) ?_
 refine zl (r := i64 x2) (LOp.eqr (LOp.i2i (src := 90) (dst := 2) ⟨_, pun90⟩ pun2 rfl rfl) (congrArg (ik .i64) hx2)) ?_
 refine zl (r := b (decide (x2 < 0))) (LOp.lss rfl rfl rfl) ?_
 refine za (r := b (decide (x2 < 0))) ?_
 refine zN ?_
 refine RunC.ret ?_
 have hq := Option.some.inj h
 subst q0
 exact bodyQ.pure (.inr rfl) rfl (Res.one rfl (RV.tmp rfl))
noncomputable def i_SameNumber (a0 : F) (a1 : F) : Option (Bool) :=
 bsel (!feq .f32 a0 a0) (
  some (!feq .f32 a1 a1)) (
  bsel (!feq .f32 a1 a1) (
   some false) (
   bsel (feq .f32 a0 a1) (
    olet (fwiden a0) fun (x1 : F) =>
    obind (x_math_Signbit x1) fun (r2 : Bool) =>
    olet (fwiden a1) fun (x3 : F) =>
    obind (x_math_Signbit x3) fun (r4 : Bool) =>
    some (r2 == r4)) (
    some false)))
theorem i_SameNumber_ok (a0 : F) (a1 : F) (q0 : Bool) (h : i_SameNumber a0 a1 = some q0) : Ev Tryz.prog 61 [f32 a0, f32 a1] [] (b q0) [] := by
 refine Ev.start Tryz.func61 rfl rfl 0 (τ := [(0, f32 a0), (1, f32 a1)]) rfl (Γ' := []) rfl (n := 67) rfl (g := 0) rfl (fun _ => rfl) ?_
 unfold i_SameNumber at h
 refine zQ ?_
 refine za (r := b false) ?_
 refine zN ?_
 iterate 2 (refine RunC.seq ?_)
 rcases bsel_some h with ⟨hc1, h⟩ | ⟨hc1, h⟩
 ·refine RunC.regionW ?_
  iterate 2 (refine zm (r := f32 a0) ?_)
  refine zl (r := b true) (LOp.eqb (LOp.fne rfl (OpF.tmp rfl) (OpF.tmp rfl)) hc1) ?_
  refine zm (r := b true) ?_
  iterate 3 (refine ROps.s rfl rfl rfl ?_)
  refine zl (r := b true) (LOp.pick_true rfl rfl rfl) ?_
  refine zN ?_
  refine RunC.cond_true rfl rfl ?_
  refine zQ ?_
  iterate 2 (refine zm (r := f32 a0) ?_)
  refine zl (r := b true) (LOp.eqb (LOp.fne rfl (OpF.tmp rfl) (OpF.tmp rfl)) hc1) ?_
  refine zm (r := b true) ?_
  iterate 2 (refine zm (r := f32 a1) ?_)
  refine zl (r := b (!feq .f32 a1 a1)) (LOp.fne rfl (OpF.tmp rfl) (OpF.tmp rfl)) ?_
  refine zl (r := b (!feq .f32 a1 a1)) (LOp.pick_true rfl rfl rfl) ?_
  refine za (r := b (!feq .f32 a1 a1)) ?_
  refine zN ?_
  refine RunC.ret ?_
  have hq := Option.some.inj h
  subst q0
  exact bodyQ.pure (.inr rfl) rfl (Res.one rfl (RV.tmp rfl))
 ·rcases bsel_some h with ⟨hc2, h⟩ | ⟨hc2, h⟩
  ·refine RunC.regionW ?_
   iterate 2 (refine zm (r := f32 a0) ?_)
   refine zl (r := b false) (LOp.eqb (LOp.fne rfl (OpF.tmp rfl) (OpF.tmp rfl)) hc1) ?_
   refine zm (r := b false) ?_
   iterate 2 (refine zm (r := f32 a1) ?_)
   refine zl (r := b true) (LOp.eqb (LOp.fne rfl (OpF.tmp rfl) (OpF.tmp rfl)) hc2) ?_
   refine zl (r := b true) (LOp.pick_false rfl rfl rfl) ?_
   refine zN ?_
   refine RunC.cond_true rfl rfl ?_
   refine zQ ?_
   iterate 2 (refine zm (r := f32 a0) ?_)
   refine zl (r := b false) (LOp.eqb (LOp.fne rfl (OpF.tmp rfl) (OpF.tmp rfl)) hc1) ?_
   refine zm (r := b false) ?_
   iterate 3 (refine ROps.s rfl rfl rfl ?_)
   refine zl (r := b false) (LOp.pick_false rfl rfl rfl) ?_
   refine za (r := b false) ?_
   refine zN ?_
   refine RunC.ret ?_
   have hq := Option.some.inj h
   subst q0
   exact bodyQ.pure (.inr rfl) rfl (Res.one rfl (RV.tmp rfl))
  ·refine RunC.regionW ?_
   iterate 2 (refine zm (r := f32 a0) ?_)
   refine zl (r := b false) (LOp.eqb (LOp.fne rfl (OpF.tmp rfl) (OpF.tmp rfl)) hc1) ?_
   refine zm (r := b false) ?_
   iterate 2 (refine zm (r := f32 a1) ?_)
   refine zl (r := b false) (LOp.eqb (LOp.fne rfl (OpF.tmp rfl) (OpF.tmp rfl)) hc2) ?_
   refine zl (r := b false) (LOp.pick_false rfl rfl rfl) ?_
   refine zN ?_
   refine RunC.cond_false rfl rfl ?_
   refine RunC.skip ?_
   refine RunC.seq ?_
   rcases bsel_some h with ⟨hc3, h⟩ | ⟨hc3, h⟩
   ·obtain ⟨x1, hx4, h⟩ := olet_some h
    obtain ⟨r2, hf5, h⟩ := obind_some h
    obtain ⟨x3, hx6, h⟩ := olet_some h
    obtain ⟨r4, hf7, h⟩ := obind_some h
    refine RunC.regionW ?_
    refine zm (r := f32 a0) ?_
    refine zm (r := f32 a1) ?_
    refine zl (r := b true) (LOp.eqb (LOp.feq rfl (OpF.tmp rfl) (OpF.tmp rfl)) hc3) ?_
    refine zm (r := b true) ?_
    refine zm (r := f32 a0) ?_
    refine ROps.d (r := f64 x1) (fs := []) (Γ' := []) rfl rfl rfl (TOp.eqr (TOp.widen (src := 28) (dst := 46) ⟨_, pun28⟩ pun46 rfl (OpF.tmp rfl)) (congrArg (f .f64) hx4)) rfl ?_
    refine ROps.d (r := b r2) (fs := []) (Γ' := []) rfl rfl rfl (TOp.callB (CallAs.func ent87 rfl rfl) (Bors.cons (Bor.pure rfl) Bors.nil) rfl rfl (x_math_Signbit_ok x1 r2 hf5)) rfl ?_
    refine zm (r := f32 a1) ?_
    refine ROps.d (r := f64 x3) (fs := []) (Γ' := []) rfl rfl rfl (TOp.eqr (TOp.widen (src := 28) (dst := 46) ⟨_, pun28⟩ pun46 rfl (OpF.tmp rfl)) (congrArg (f .f64) hx6)) rfl ?_
    refine ROps.d (r := b r4) (fs := []) (Γ' := []) rfl rfl rfl (TOp.callB (CallAs.func ent87 rfl rfl) (Bors.cons (Bor.pure rfl) Bors.nil) rfl rfl (x_math_Signbit_ok x3 r4 hf7)) rfl ?_
    refine zl (r := b (r2 == r4)) (LOp.eqlb pun4 rfl rfl rfl) ?_
    refine zl (r := b (r2 == r4)) (LOp.pick_true rfl rfl rfl) ?_
    refine za (r := b (r2 == r4)) ?_
    refine zN ?_
    refine RunC.ret ?_
    have hq := Option.some.inj h
    subst q0
    exact bodyQ.pure (.inr rfl) rfl (Res.one rfl (RV.tmp rfl))
   ·refine RunC.regionW ?_
    refine zm (r := f32 a0) ?_
    refine zm (r := f32 a1) ?_
    refine zl (r := b false) (LOp.eqb (LOp.feq rfl (OpF.tmp rfl) (OpF.tmp rfl)) hc3) ?_
    refine zm (r := b false) ?_
    iterate 7 (refine ROps.s rfl rfl rfl ?_)
    refine zl (r := b false) (LOp.pick_false rfl rfl rfl) ?_
    refine za (r := b false) ?_
    refine zN ?_
    refine RunC.ret ?_
    have hq := Option.some.inj h
    subst q0
    exact bodyQ.pure (.inr rfl) rfl (Res.one rfl (RV.tmp rfl))
noncomputable def i_SameComplex (a0 : F) (a1 : F) (a2 : F) (a3 : F) : Option (Bool) :=
 obind (i_SameNumber a0 a2) fun (r1 : Bool) =>
 bsel r1 (
  obind (i_SameNumber a1 a3) fun (r2 : Bool) =>
  some r2) (
  some false)
theorem i_SameComplex_ok (a0 : F) (a1 : F) (a2 : F) (a3 : F) (q0 : Bool) (h : i_SameComplex a0 a1 a2 a3 = some q0) : Ev Tryz.prog 24 [cx .f32 a0 a1, cx .f32 a2 a3] [] (b q0) [] := by
 refine Ev.start Tryz.func24 rfl rfl 0 (τ := [(0, cx .f32 a0 a1), (1, cx .f32 a2 a3)]) rfl (Γ' := []) rfl (n := 35) rfl (g := 0) rfl (fun _ => rfl) ?_
 unfold i_SameComplex at h
 refine zQ ?_
 refine za (r := b false) ?_
 refine zN ?_
 refine RunC.seq ?_
 obtain ⟨r1, hf1, h⟩ := obind_some h
 rcases bsel_some h with ⟨hc2, h⟩ | ⟨hc2, h⟩
 ·obtain ⟨r2, hf3, h⟩ := obind_some h
  refine RunC.regionW ?_
  refine zm (r := cx .f32 a0 a1) ?_
  refine zl (r := f32 a0) (LOp.real rfl rfl) ?_
  refine zm (r := cx .f32 a2 a3) ?_
  refine zl (r := f32 a2) (LOp.real rfl rfl) ?_
  refine ROps.d (r := b true) (fs := []) (Γ' := []) rfl rfl rfl (TOp.eqb (TOp.callB (CallAs.func ent61 rfl rfl) (Bors.cons (Bor.pure rfl) (Bors.cons (Bor.pure rfl) Bors.nil)) rfl rfl (i_SameNumber_ok a0 a2 r1 hf1)) hc2) rfl ?_
  refine zm (r := b true) ?_
  refine zm (r := cx .f32 a0 a1) ?_
  refine zl (r := f32 a1) (LOp.imag rfl rfl) ?_
  refine zm (r := cx .f32 a2 a3) ?_
  refine zl (r := f32 a3) (LOp.imag rfl rfl) ?_
  refine ROps.d (r := b r2) (fs := []) (Γ' := []) rfl rfl rfl (TOp.callB (CallAs.func ent61 rfl rfl) (Bors.cons (Bor.pure rfl) (Bors.cons (Bor.pure rfl) Bors.nil)) rfl rfl (i_SameNumber_ok a1 a3 r2 hf3)) rfl ?_
  refine zl (r := b r2) (LOp.pick_true rfl rfl rfl) ?_
  refine za (r := b r2) ?_
  refine zN ?_
  refine RunC.ret ?_
  have hq := Option.some.inj h
  subst q0
  exact bodyQ.pure (.inr rfl) rfl (Res.one rfl (RV.tmp rfl))
 ·refine RunC.regionW ?_
  refine zm (r := cx .f32 a0 a1) ?_
  refine zl (r := f32 a0) (LOp.real rfl rfl) ?_
  refine zm (r := cx .f32 a2 a3) ?_
  refine zl (r := f32 a2) (LOp.real rfl rfl) ?_
  refine ROps.d (r := b false) (fs := []) (Γ' := []) rfl rfl rfl (TOp.eqb (TOp.callB (CallAs.func ent61 rfl rfl) (Bors.cons (Bor.pure rfl) (Bors.cons (Bor.pure rfl) Bors.nil)) rfl rfl (i_SameNumber_ok a0 a2 r1 hf1)) hc2) rfl ?_
  refine zm (r := b false) ?_
  iterate 5 (refine ROps.s rfl rfl rfl ?_)
  refine zl (r := b false) (LOp.pick_false rfl rfl rfl) ?_
  refine za (r := b false) ?_
  refine zN ?_
  refine RunC.ret ?_
  have hq := Option.some.inj h
  subst q0
  exact bodyQ.pure (.inr rfl) rfl (Res.one rfl (RV.tmp rfl))
noncomputable def x_math_IsNaN (a0 : F) : Option (Bool) :=
 some (!feq .f64 a0 a0)
theorem x_math_IsNaN_ok (a0 : F) (q0 : Bool) (h : x_math_IsNaN a0 = some q0) : Ev Tryz.prog 106 [f64 a0] [] (b q0) [] := by
 refine Ev.start Tryz.func106 rfl rfl 0 (τ := [(0, f64 a0)]) rfl (Γ' := []) rfl (n := 13) rfl (g := 0) rfl (fun _ => rfl) ?_
 unfold x_math_IsNaN at h
 refine zQ ?_
 refine za (r := b false) ?_
 refine zN ?_
 refine zQ ?_
 iterate 2 (refine zm (r := f64 a0) ?_)
 refine zl (r := b (!feq .f64 a0 a0)) (LOp.fne rfl (OpF.tmp rfl) (OpF.tmp rfl)) ?_
 refine za (r := b (!feq .f64 a0 a0)) ?_
 refine zN ?_
 refine RunC.ret ?_
 have hq := Option.some.inj h
 subst q0
 exact bodyQ.pure (.inr rfl) rfl (Res.one rfl (RV.tmp rfl))
noncomputable def x_math_Abs (a0 : F) : Option (F) :=
 olet (fabs a0) fun (x1 : F) =>
 some x1
theorem x_math_Abs_ok (a0 : F) (q0 : F) (h : x_math_Abs a0 = some q0) : Ev Tryz.prog 69 [f64 a0] [] (f64 q0) [] := by
 refine Ev.start Tryz.func69 rfl rfl 0 (τ := [(0, f64 a0)]) rfl (Γ' := []) rfl (n := 15) rfl (g := 0) rfl (fun _ => rfl) ?_
 unfold x_math_Abs at h
 refine zQ ?_
 refine zl (r := f64 (some 0)) (LOp.le (LOp.assign rfl rfl) (ALe.fl (by kernel_rfl) (by kernel_rfl))) ?_
 refine zN ?_
 refine RunC.seq ?_
 obtain ⟨x1, hx1, h⟩ := olet_some h
 refine RunC.regionW ?_
 refine zm (r := f64 a0) ?_
 refine zl (r := bt .f64 .u64 a0) (LOp.fbits ext90 rfl (OpF.tmp rfl)) ?_
 refine zl (r := bt .f64 .u64 x1) (LOp.eqr (LOp.andNot_bt rfl rfl rfl) (congrArg (bt .f64 .u64) hx1)) ?_
 refine zl (r := f64 x1) (LOp.ffrom ext89 rfl rfl) ?_
 refine za (r := f64 x1) ?_
 refine zN ?_
 refine RunC.ret ?_
 have hq := Option.some.inj h
 subst q0
 exact bodyQ.pure (.inr rfl) rfl (Res.one rfl (RV.tmp rfl))
noncomputable def x_math_IsInf_k1 (y3 : F) : Option (Bool) :=
 some (flt .f64 (some 9218868437227405311) y3)
noncomputable def x_math_IsInf (a0 : F) (a1 : Int) : Option (Bool) :=
 bsel (decide (a1 = 0)) (
  obind (x_math_Abs a0) fun (r1 : F) =>
  x_math_IsInf_k1 r1) (
  bsel (decide (a1 < 0)) (
   olet (fneg .f64 a0) fun (x2 : F) =>
   x_math_IsInf_k1 x2) (
   x_math_IsInf_k1 a0))
theorem x_math_IsInf_ok (a0 : F) (a1 : Int) (q0 : Bool) (h : x_math_IsInf a0 a1 = some q0) : Ev Tryz.prog 107 [f64 a0, i64 a1] [] (b q0) [] := by
 refine Ev.start Tryz.func107 rfl rfl 0 (τ := [(0, f64 a0), (1, i64 a1)]) rfl (Γ' := []) rfl (n := 31) rfl (g := 0) rfl (fun _ => rfl) ?_
 unfold x_math_IsInf at h
 refine zQ ?_
 refine za (r := b false) ?_
 refine zN ?_
 refine RunC.seq ?_
 refine RunC.cutN (fun τ Γ => ∃ (y3 : F), WeakLe τ [(0, f64 y3)] ∧ DeadLe Γ [] ∧ x_math_IsInf_k1 y3 = some q0) ?_ ?_
 ·refine RunC.seq ?_
  rcases bsel_some h with ⟨hc1, h⟩ | ⟨hc1, h⟩
  ·refine RunC.regionW ?_
   refine zm (r := i64 a1) ?_
   refine zl (r := b true) (LOp.eqb (LOp.eql rfl rfl rfl) hc1) ?_
   refine zN ?_
   refine RunC.cond_true rfl rfl ?_
   obtain ⟨r1, hf2, h⟩ := obind_some h
   refine RunC.regionW ?_
   refine zm (r := f64 a0) ?_
   refine ROps.d (r := f64 r1) (fs := []) (Γ' := []) rfl rfl rfl (TOp.callB (CallAs.func ent69 rfl rfl) (Bors.cons (Bor.pure rfl) Bors.nil) rfl rfl (x_math_Abs_ok a0 r1 hf2)) rfl ?_
   refine za (r := f64 r1) ?_
   refine zN ?_
   exact ⟨r1, ⟨aR, trivial⟩, trivial, h⟩
  ·refine RunC.regionW ?_
   refine zm (r := i64 a1) ?_
   refine zl (r := b false) (LOp.eqb (LOp.eql rfl rfl rfl) hc1) ?_
   refine zN ?_
   refine RunC.cond_false rfl rfl ?_
   refine RunC.seq ?_
   rcases bsel_some h with ⟨hc3, h⟩ | ⟨hc3, h⟩
   ·refine RunC.regionW ?_
    refine zm (r := i64 a1) ?_
    refine zl (r := b true) (LOp.eqb (LOp.lss rfl rfl rfl) hc3) ?_
    refine zN ?_
    refine RunC.cond_true rfl rfl ?_
    obtain ⟨x2, hx4, h⟩ := olet_some h
    refine RunC.regionW ?_
    refine zm (r := f64 a0) ?_
    refine zl (r := f64 x2) (LOp.eqr (LOp.fneg rfl (OpF.tmp rfl)) (congrArg (f .f64) hx4)) ?_
    refine za (r := f64 x2) ?_
    refine zN ?_
    exact ⟨x2, ⟨aR, trivial⟩, trivial, h⟩
   ·refine RunC.regionW ?_
    refine zm (r := i64 a1) ?_
    refine zl (r := b false) (LOp.eqb (LOp.lss rfl rfl rfl) hc3) ?_
    refine zN ?_
    refine RunC.cond_false rfl rfl ?_
    refine RunC.skip ?_
    exact ⟨a0, ⟨aR, trivial⟩, trivial, h⟩
 ·rintro τ2 Γ2 ⟨y3, hw2, hd2, h⟩
  refine RunC.wl hw2 hd2 ?_
  unfold x_math_IsInf_k1 at h
  refine zQ ?_
  refine zm (r := f64 y3) ?_
  refine zl (r := b (flt .f64 (some 9218868437227405311) y3)) (LOp.fgt rfl (OpF.tmp rfl) (OpF.const rfl (by kernel_rfl) (by kernel_rfl))) ?_
  refine za (r := b (flt .f64 (some 9218868437227405311) y3)) ?_
  refine zN ?_
  refine RunC.ret ?_
  have hq := Option.some.inj h
  subst q0
  exact bodyQ.pure (.inr rfl) rfl (Res.one rfl (RV.tmp rfl))
noncomputable def i_isFinite64 (a0 : F) : Option (Bool) :=
 obind (x_math_IsNaN a0) fun (r1 : Bool) =>
 bsel r1 (
  some false) (
  obind (x_math_IsInf a0 0) fun (r2 : Bool) =>
  some (!r2))
theorem i_isFinite64_ok (a0 : F) (q0 : Bool) (h : i_isFinite64 a0 = some q0) : Ev Tryz.prog 88 [f64 a0] [] (b q0) [] := by
 refine Ev.start Tryz.func88 rfl rfl 0 (τ := [(0, f64 a0)]) rfl (Γ' := []) rfl (n := 23) rfl (g := 0) rfl (fun _ => rfl) ?_
 unfold i_isFinite64 at h
 refine zQ ?_
 refine za (r := b false) ?_
 refine zN ?_
 refine RunC.seq ?_
 obtain ⟨r1, hf1, h⟩ := obind_some h
 rcases bsel_some h with ⟨hc2, h⟩ | ⟨hc2, h⟩
 ·refine RunC.regionW ?_
  refine zm (r := f64 a0) ?_
  refine ROps.d (r := b true) (fs := []) (Γ' := []) rfl rfl rfl (TOp.eqb (TOp.callB (CallAs.func ent106 rfl rfl) (Bors.cons (Bor.pure rfl) Bors.nil) rfl rfl (x_math_IsNaN_ok a0 r1 hf1)) hc2) rfl ?_
  refine zl (r := b false) (LOp.eqb (LOp.not rfl rfl) rfl) ?_
  refine zm (r := b false) ?_
  iterate 3 (refine ROps.s rfl rfl rfl ?_)
  refine zl (r := b false) (LOp.pick_false rfl rfl rfl) ?_
  refine za (r := b false) ?_
  refine zN ?_
  refine RunC.ret ?_
  have hq := Option.some.inj h
  subst q0
  exact bodyQ.pure (.inr rfl) rfl (Res.one rfl (RV.tmp rfl))
 ·obtain ⟨r2, hf3, h⟩ := obind_some h
  refine RunC.regionW ?_
  refine zm (r := f64 a0) ?_
  refine ROps.d (r := b false) (fs := []) (Γ' := []) rfl rfl rfl (TOp.eqb (TOp.callB (CallAs.func ent106 rfl rfl) (Bors.cons (Bor.pure rfl) Bors.nil) rfl rfl (x_math_IsNaN_ok a0 r1 hf1)) hc2) rfl ?_
  refine zl (r := b true) (LOp.eqb (LOp.not rfl rfl) rfl) ?_
  refine zm (r := b true) ?_
  refine zm (r := f64 a0) ?_
  refine ROps.d (r := b r2) (fs := []) (Γ' := []) rfl rfl rfl (TOp.callB (CallAs.func ent107 rfl rfl) (Bors.cons (Bor.pure rfl) (Bors.cons (Bor.pure rfl) Bors.nil)) rfl rfl (x_math_IsInf_ok a0 0 r2 hf3)) rfl ?_
  refine zl (r := b (!r2)) (LOp.not rfl rfl) ?_
  refine zl (r := b (!r2)) (LOp.pick_true rfl rfl rfl) ?_
  refine za (r := b (!r2)) ?_
  refine zN ?_
  refine RunC.ret ?_
  have hq := Option.some.inj h
  subst q0
  exact bodyQ.pure (.inr rfl) rfl (Res.one rfl (RV.tmp rfl))
noncomputable def i_IsFinite (a0 : F) : Option (Bool) :=
 olet (fwiden a0) fun (x1 : F) =>
 obind (i_isFinite64 x1) fun (r2 : Bool) =>
 some r2
theorem i_IsFinite_ok (a0 : F) (q0 : Bool) (h : i_IsFinite a0 = some q0) : Ev Tryz.prog 62 [f32 a0] [] (b q0) [] := by
 refine Ev.start Tryz.func62 rfl rfl 0 (τ := [(0, f32 a0)]) rfl (Γ' := []) rfl (n := 13) rfl (g := 0) rfl (fun _ => rfl) ?_
 unfold i_IsFinite at h
 refine zQ ?_
 refine za (r := b false) ?_
 refine zN ?_
 refine RunC.seq ?_
 obtain ⟨x1, hx1, h⟩ := olet_some h
 obtain ⟨r2, hf2, h⟩ := obind_some h
 refine RunC.regionW ?_
 refine zm (r := f32 a0) ?_
 refine ROps.d (r := f64 x1) (fs := []) (Γ' := []) rfl rfl rfl (TOp.eqr (TOp.widen (src := 28) (dst := 46) ⟨_, pun28⟩ pun46 rfl (OpF.tmp rfl)) (congrArg (f .f64) hx1)) rfl ?_
 refine ROps.d (r := b r2) (fs := []) (Γ' := []) rfl rfl rfl (TOp.callB (CallAs.func ent88 rfl rfl) (Bors.cons (Bor.pure rfl) Bors.nil) rfl rfl (i_isFinite64_ok x1 r2 hf2)) rfl ?_
 refine za (r := b r2) ?_
 refine zN ?_
 refine RunC.ret ?_
 have hq := Option.some.inj h
 subst q0
 exact bodyQ.pure (.inr rfl) rfl (Res.one rfl (RV.tmp rfl))
noncomputable def i_IsFiniteComplex (a0 : F) (a1 : F) : Option (Bool) :=
 obind (i_IsFinite a0) fun (r1 : Bool) =>
 bsel r1 (
  obind (i_IsFinite a1) fun (r2 : Bool) =>
  some r2) (
  some false)
theorem i_IsFiniteComplex_ok (a0 : F) (a1 : F) (q0 : Bool) (h : i_IsFiniteComplex a0 a1 = some q0) : Ev Tryz.prog 26 [cx .f32 a0 a1] [] (b q0) [] := by
 refine Ev.start Tryz.func26 rfl rfl 0 (τ := [(0, cx .f32 a0 a1)]) rfl (Γ' := []) rfl (n := 23) rfl (g := 0) rfl (fun _ => rfl) ?_
 unfold i_IsFiniteComplex at h
 refine zQ ?_
 refine za (r := b false) ?_
 refine zN ?_
 refine RunC.seq ?_
 obtain ⟨r1, hf1, h⟩ := obind_some h
 rcases bsel_some h with ⟨hc2, h⟩ | ⟨hc2, h⟩
 ·obtain ⟨r2, hf3, h⟩ := obind_some h
  refine RunC.regionW ?_
  refine zm (r := cx .f32 a0 a1) ?_
  refine zl (r := f32 a0) (LOp.real rfl rfl) ?_
  refine ROps.d (r := b true) (fs := []) (Γ' := []) rfl rfl rfl (TOp.eqb (TOp.callB (CallAs.func ent62 rfl rfl) (Bors.cons (Bor.pure rfl) Bors.nil) rfl rfl (i_IsFinite_ok a0 r1 hf1)) hc2) rfl ?_
  refine zm (r := b true) ?_
  refine zm (r := cx .f32 a0 a1) ?_
  refine zl (r := f32 a1) (LOp.imag rfl rfl) ?_
  refine ROps.d (r := b r2) (fs := []) (Γ' := []) rfl rfl rfl (TOp.callB (CallAs.func ent62 rfl rfl) (Bors.cons (Bor.pure rfl) Bors.nil) rfl rfl (i_IsFinite_ok a1 r2 hf3)) rfl ?_
  refine zl (r := b r2) (LOp.pick_true rfl rfl rfl) ?_
  refine za (r := b r2) ?_
  refine zN ?_
  refine RunC.ret ?_
  have hq := Option.some.inj h
  subst q0
  exact bodyQ.pure (.inr rfl) rfl (Res.one rfl (RV.tmp rfl))
 ·refine RunC.regionW ?_
  refine zm (r := cx .f32 a0 a1) ?_
  refine zl (r := f32 a0) (LOp.real rfl rfl) ?_
  refine ROps.d (r := b false) (fs := []) (Γ' := []) rfl rfl rfl (TOp.eqb (TOp.callB (CallAs.func ent62 rfl rfl) (Bors.cons (Bor.pure rfl) Bors.nil) rfl rfl (i_IsFinite_ok a0 r1 hf1)) hc2) rfl ?_
  refine zm (r := b false) ?_
  iterate 3 (refine ROps.s rfl rfl rfl ?_)
  refine zl (r := b false) (LOp.pick_false rfl rfl rfl) ?_
  refine za (r := b false) ?_
  refine zN ?_
  refine RunC.ret ?_
  have hq := Option.some.inj h
  subst q0
  exact bodyQ.pure (.inr rfl) rfl (Res.one rfl (RV.tmp rfl))
noncomputable def s_l01Finite (a0 : F) : Option (Bool) :=
 olet (fop .sub .f32 a0 a0) fun (x1 : F) =>
 some (feq .f32 x1 (some 0))
theorem s_l01Finite_ok (a0 : F) (q0 : Bool) (h : s_l01Finite a0 = some q0) : Ev Tryz.prog 63 [f32 a0] [] (b q0) [] := by
 refine Ev.start Tryz.func63 rfl rfl 0 (τ := [(0, f32 a0)]) rfl (Γ' := []) rfl (n := 15) rfl (g := 0) rfl (fun _ => rfl) ?_
 unfold s_l01Finite at h
 refine zQ ?_
 refine za (r := b false) ?_
 refine zN ?_
 refine RunC.seq ?_
 obtain ⟨x1, hx1, h⟩ := olet_some h
 refine RunC.regionW ?_
 iterate 2 (refine zm (r := f32 a0) ?_)
 refine ROps.d (r := f32 x1) (fs := []) (Γ' := []) rfl rfl rfl (TOp.eqr (TOp.fop (.inr (.inl rfl)) rfl (OpF.tmp rfl) (OpF.tmp rfl)) (congrArg (f .f32) hx1)) rfl ?_
 refine zl (r := b (feq .f32 x1 (some 0))) (LOp.feq rfl (OpF.tmp rfl) (OpF.const rfl (by kernel_rfl) (by kernel_rfl))) ?_
 refine za (r := b (feq .f32 x1 (some 0))) ?_
 refine zN ?_
 refine RunC.ret ?_
 have hq := Option.some.inj h
 subst q0
 exact bodyQ.pure (.inr rfl) rfl (Res.one rfl (RV.tmp rfl))
noncomputable def s_IsFinite (a0 : F) : Option (Bool) :=
 obind (s_l01Finite a0) fun (r1 : Bool) =>
 some r1
theorem s_IsFinite_ok (a0 : F) (q0 : Bool) (h : s_IsFinite a0 = some q0) : Ev Tryz.prog 27 [f32 a0] [] (b q0) [] := by
 refine Ev.start Tryz.func27 rfl rfl 0 (τ := [(0, f32 a0)]) rfl (Γ' := []) rfl (n := 11) rfl (g := 0) rfl (fun _ => rfl) ?_
 unfold s_IsFinite at h
 refine zQ ?_
 refine za (r := b false) ?_
 refine zN ?_
 refine RunC.seq ?_
 obtain ⟨r1, hf1, h⟩ := obind_some h
 refine RunC.regionW ?_
 refine zm (r := f32 a0) ?_
 refine ROps.d (r := b r1) (fs := []) (Γ' := []) rfl rfl rfl (TOp.callB (CallAs.func ent63 rfl rfl) (Bors.cons (Bor.pure rfl) Bors.nil) rfl rfl (s_l01Finite_ok a0 r1 hf1)) rfl ?_
 refine za (r := b r1) ?_
 refine zN ?_
 refine RunC.ret ?_
 have hq := Option.some.inj h
 subst q0
 exact bodyQ.pure (.inr rfl) rfl (Res.one rfl (RV.tmp rfl))
end Go.Proofs.YtcjbfpoaidjpaaaGreatDoor
