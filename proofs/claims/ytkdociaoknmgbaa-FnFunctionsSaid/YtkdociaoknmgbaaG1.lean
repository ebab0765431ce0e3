/- Generated. -/
import Derived.Test.YtkdociaoknmgbaaG0
namespace Go.Proofs.Ytkdociaoknmgbaa
open Go Go.AM Go.AM.AV
set_option maxRecDepth 20000
set_option maxHeartbeats 4000000
set_option linter.unusedVariables false
set_option linter.unusedSimpArgs false
noncomputable section
def i_ExpMatrix_b1 (v5 : Int) (v6 : Int) (l7 : List F) (v8 : Int) : Option (LR (Int × Int × (List F) × Int) (Int × Int × (List F) × Int) ((Int × Int × Bool × (List F)) ⊕ (Int × Int × (List F) × Bool))) :=
 obind2 (i_RowNorm v5 v6 l7) fun (r9 : F) (r10 : Bool) =>
 bsel r10 (
  bsel (flt .f32 (some 1056964608) r9) (
   bsel (decide (v8 = 64)) (
    some (LR.out (v5, v6, l7, v8))) (
    obind3 (i_made_2Fi_ExpMatrix_1 v5 v5 v5 v6 l7) fun (r11 : Int) (r12 : Int) (r13 : List F) =>
    olet (IntKind.i64.wrap (v8 + 1)) fun (x14 : Int) =>
    some (LR.next (r11, r12, r13, x14)))) (
   some (LR.out (v5, v6, l7, v8)))) (
  some (LR.ret (Sum.inl (0, 0, false, ([] : List F)))))
def i_ExpMatrix_s1  : (Int × Int × (List F) × Int) → Option (LR (Int × Int × (List F) × Int) (Int × Int × (List F) × Int) ((Int × Int × Bool × (List F)) ⊕ (Int × Int × (List F) × Bool))) := fun s => i_ExpMatrix_b1 s.1 s.2.1 s.2.2.1 s.2.2.2
def i_ExpMatrix_b2 (a3 : Int) (v17 : Int) (v18 : Int) (l19 : List F) (v31 : Int) (v32 : Int) (l33 : List F) (v34 : Int) (v35 : Int) (l36 : List F) (v37 : Int) : Option (LR (Int × Int × (List F) × Int × Int × (List F) × Int) (Int × Int × (List F)) ((Int × Int × Bool × (List F)) ⊕ (Int × Int × (List F) × Bool))) :=
 bsel (decide (v37 ≤ a3)) (
  obind4 (i_MulMatrices v34 v35 l36 v17 v18 l19) fun (r38 : Int) (r39 : Int) (r40 : Bool) (r41 : List F) =>
  bsel r40 (
   obind3 (i_made_2Fi_ExpMatrix_2 v17 v17 r38 r39 r41 v37) fun (r42 : Int) (r43 : Int) (r44 : List F) =>
   obind3 (i_made_2Fi_ExpMatrix_3 v17 v17 v31 v32 l33 r42 r43 r44) fun (r45 : Int) (r46 : Int) (r47 : List F) =>
   obind (i_ValidMatrix r45 r46 r47) fun (r48 : Bool) =>
   bsel r48 (
    olet (IntKind.i64.wrap (v37 + 1)) fun (x49 : Int) =>
    some (LR.next (r45, r46, r47, r42, r43, r44, x49))) (
    some (LR.ret (Sum.inl (0, 0, false, ([] : List F)))))) (
   some (LR.ret (Sum.inl (0, 0, false, ([] : List F)))))) (
  some (LR.out (v31, v32, l33)))
def i_ExpMatrix_s2 (a3 : Int) (v17 : Int) (v18 : Int) (l19 : List F) : (Int × Int × (List F) × Int × Int × (List F) × Int) → Option (LR (Int × Int × (List F) × Int × Int × (List F) × Int) (Int × Int × (List F)) ((Int × Int × Bool × (List F)) ⊕ (Int × Int × (List F) × Bool))) := fun s => i_ExpMatrix_b2 a3 v17 v18 l19 s.1 s.2.1 s.2.2.1 s.2.2.2.1 s.2.2.2.2.1 s.2.2.2.2.2.1 s.2.2.2.2.2.2
def i_ExpMatrix_b3 (v20 : Int) (v58 : Int) (v59 : Int) (l60 : List F) (v61 : Int) : Option (LR (Int × Int × (List F) × Int) (Int × Int × (List F)) ((Int × Int × Bool × (List F)) ⊕ (Int × Int × (List F) × Bool))) :=
 bsel (decide (v61 < v20)) (
  obind4 (i_MulMatrices v58 v59 l60 v58 v59 l60) fun (r62 : Int) (r63 : Int) (r64 : Bool) (r65 : List F) =>
  bsel r64 (
   olet (IntKind.i64.wrap (v61 + 1)) fun (x66 : Int) =>
   some (LR.next (r62, r63, r65, x66))) (
   some (LR.ret (Sum.inl (0, 0, false, ([] : List F)))))) (
  some (LR.out (v58, v59, l60)))
def i_ExpMatrix_s3 (v20 : Int) : (Int × Int × (List F) × Int) → Option (LR (Int × Int × (List F) × Int) (Int × Int × (List F)) ((Int × Int × Bool × (List F)) ⊕ (Int × Int × (List F) × Bool))) := fun s => i_ExpMatrix_b3 v20 s.1 s.2.1 s.2.2.1 s.2.2.2
def i_ExpMatrix_k3 (v68 : Int) (v69 : Int) (l70 : List F) : Option ((Int × Int × Bool × (List F)) ⊕ (Int × Int × (List F) × Bool)) :=
 some (Sum.inr (v68, v69, l70, true))
def i_ExpMatrix_k2 (v20 : Int) (v54 : Int) (v55 : Int) (l56 : List F) : Option ((Int × Int × Bool × (List F)) ⊕ (Int × Int × (List F) × Bool)) :=
 obind (loopM (i_ExpMatrix_s3 v20) (v54, v55, l56, 0)) fun z => osum z (fun e => i_ExpMatrix_k3 e.1 e.2.1 e.2.2) (fun r => some r)
def i_ExpMatrix_k1 (a3 : Int) (v17 : Int) (v18 : Int) (l19 : List F) (v20 : Int) : Option ((Int × Int × Bool × (List F)) ⊕ (Int × Int × (List F) × Bool)) :=
 obind3 (i_unit v17) fun (r21 : Int) (r22 : Int) (r23 : List F) =>
 obind3 (i_unit v17) fun (r24 : Int) (r25 : Int) (r26 : List F) =>
 obind (loopM (i_ExpMatrix_s2 a3 v17 v18 l19) (r21, r22, r23, r24, r25, r26, 1)) fun z => osum z (fun e => i_ExpMatrix_k2 v20 e.1 e.2.1 e.2.2) (fun r => some r)
def i_ExpMatrix (a0 : Int) (a1 : Int) (a2 : List F) (a3 : Int) : Option ((Int × Int × Bool × (List F)) ⊕ (Int × Int × (List F) × Bool)) :=
 obind (i_isSquare a0 a1 a2) fun (r1 : Bool) =>
 bsel r1 (
  obind (i_inRange a3 1 32) fun (r2 : Bool) =>
  bsel r2 (
   obind (loopM (i_ExpMatrix_s1) (a0, a1, a2, 0)) fun z => osum z (fun e => i_ExpMatrix_k1 a3 e.1 e.2.1 e.2.2.1 e.2.2.2) (fun r => some r)) (
   some (Sum.inl (0, 0, false, ([] : List F))))) (
  some (Sum.inl (0, 0, false, ([] : List F))))
theorem i_ExpMatrix_ok0 (a0 : Int) (a1 : Int) (a2 : List F) (a3 : Int) (q0 : Int) (q1 : Int) (q2 : Bool) (q3 : List F) (h : i_ExpMatrix a0 a1 a2 a3 = some (Sum.inl (q0, q1, q2, q3))) : Ev Try.prog 37 [agg (mXc a0 a1 a2), i64 a3] [] (tup [agg (oXc q0 q1 0 0 q3.length), b q2]) [⟨0, some (q3.map f32)⟩] := by
 refine yE Try.func37 8 209 0 [(0, agg (mXc a0 a1 a2)), (1, i64 a3)] [⟨0, none⟩, ⟨0, none⟩, ⟨0, none⟩, ⟨0, none⟩, ⟨0, none⟩, ⟨0, none⟩, ⟨0, none⟩, ⟨0, none⟩] rfl ?_
 unfold i_ExpMatrix at h
 refine zQ<|ye rfl (optr 0 1 0) [⟨1, some (mXc a0 a1 a2)⟩, ⟨0, none⟩, ⟨0, none⟩, ⟨0, none⟩, ⟨0, none⟩, ⟨0, none⟩, ⟨0, none⟩, ⟨0, none⟩] (TOp.box_o (g := ⟨0, none⟩) 0 rfl rfl rfl rfl)<|ye rfl (optr 1 1 0) [⟨1, some (mXc a0 a1 a2)⟩, ⟨1, some zMx⟩, ⟨0, none⟩, ⟨0, none⟩, ⟨0, none⟩, ⟨0, none⟩, ⟨0, none⟩, ⟨0, none⟩] (TOp.alloc_o (g := ⟨0, none⟩) 1 rfl zer33 zok33 rfl)<|ya rfl (b false)<|zN ?_
 refine yS<|yS ?_
 obtain ⟨r1, hf1, h⟩ := oS h
 rcases oB h with ⟨hc2, h⟩ | ⟨hc2, h⟩
 ·obtain ⟨r2, hf3, h⟩ := oS h
  rcases oB h with ⟨hc4, h⟩ | ⟨hc4, h⟩
  ·refine yW<|yd rfl (agg (mXc a0 a1 a2)) (TOp.loadAgg_o rfl agg33 siz33 rfl rfl rfl rfl)<|yd rfl (b true) (TOp.eqb (TOp.callB (CallAs.func ent91 rfl rfl) (Bors.cons (Bor.agg (bP (bP (bS bN)))) bN) rfl rfl (i_isSquare_ok a0 a1 a2 r1 hf1)) hc2)<|yl rfl (b false) y1<|ym rfl (b false)<|ym rfl (i64 a3)<|yd rfl (b true) (TOp.eqb (yc ent85 rfl rfl (bP (bP bN0)) (i_inRange_ok a3 1 32 r2 hf3)) hc4)<|yl rfl (b false) y1<|yl rfl (b false) yp<|zN ?_
   refine yF<|RunC.skip<|zQ<|ya rfl (i64 0)<|zN ?_
   refine yS ?_
   obtain ⟨z4, hz_4, h⟩ := oS h
   refine RunC.cutN (fun τ Γ => ∃ (v17 : Int) (v18 : Int) (l19 : List F) (v20 : Int) (u15 : Nat) (u16 : Nat), Le 209 τ Γ [(1, i64 a3), (2, optr 0 1 0), (4, optr 1 1 0), (6, i64 v20)] [⟨1, some (mXc v17 v18 l19)⟩, ⟨1, some zMx⟩, ⟨u15, none⟩, ⟨u16, none⟩, ⟨0, none⟩, ⟨0, none⟩, ⟨0, none⟩, ⟨0, none⟩] ∧ z4 = .inl (v17, v18, l19, v20)) ?_ ?_
   ·refine RunC.block (RunC.loop (RunL.loopM (x := z4) (i_ExpMatrix_s1) (fun (s : Int × Int × (List F) × Int) τ Γ => ∃ (u3 : Nat) (u4 : Nat), Le 209 τ Γ [(1, i64 a3), (2, optr 0 1 0), (4, optr 1 1 0), (6, i64 s.2.2.2)] [⟨1, some [i64 s.1, i64 s.2.1, sl s.2.2.1.length (s.2.2.1.map f32)]⟩, ⟨1, some zMx⟩, ⟨u3, none⟩, ⟨u4, none⟩, ⟨0, none⟩, ⟨0, none⟩, ⟨0, none⟩, ⟨0, none⟩]) ?_ _ _ _ hz_4 ⟨0, 0, (Le.of ⟨aR, aR, aR, aR, trivial⟩ ⟨⟨rfl, .inr rfl⟩, ⟨rfl, .inr rfl⟩, ⟨rfl, .inl rfl⟩, ⟨rfl, .inl rfl⟩, ⟨rfl, .inr rfl⟩, ⟨rfl, .inr rfl⟩, ⟨rfl, .inr rfl⟩, ⟨rfl, .inr rfl⟩, trivial⟩)⟩))
    rintro ⟨v5, v6, l7, v8⟩ τ4 Γ4 y4_ ⟨u3, u4, hw4⟩ h4_ ho4 hr4
    refine RunC.le (τ' := [(1, i64 a3), (2, optr 0 1 0), (4, optr 1 1 0), (6, i64 v8)]) (Γ' := [⟨1, some (mXc v5 v6 l7)⟩, ⟨1, some zMx⟩, ⟨u3, none⟩, ⟨u4, none⟩, ⟨0, none⟩, ⟨0, none⟩, ⟨0, none⟩, ⟨0, none⟩]) hw4 ?_
    replace h4_ : i_ExpMatrix_b1 v5 v6 l7 v8 = some y4_ := h4_
    unfold i_ExpMatrix_b1 at h4_
    refine RunC.block<|yS ?_
    obtain ⟨r9, r10, hf5, h4_⟩ := obind2_some h4_
    rcases oB h4_ with ⟨hc6, h4_⟩ | ⟨hc6, h4_⟩
    ·refine yW<|yd rfl (agg (mXc v5 v6 l7)) (TOp.loadAgg_o rfl agg33 siz33 rfl rfl rfl rfl)<|yd rfl (tup [f32 r9, b r10]) (TOp.callB (CallAs.func ent97 rfl rfl) (Bors.cons (Bor.agg (bP (bP (bS bN)))) bN) rfl rfl (i_RowNorm_ok v5 v6 l7 r9 r10 hf5))<|ym rfl (tup [f32 r9, b r10])<|yl rfl (f32 r9) y3<|yl rfl (b true) (LOp.eqb y3 hc6)<|ya rfl (f32 r9)<|ya rfl (b true)<|zN ?_
     refine yS<|zQ<|ym rfl (b true)<|yl rfl (b false) y1<|zN ?_
     refine yF<|RunC.skip<|yS<|yS ?_
     rcases oB h4_ with ⟨hc7, h4_⟩ | ⟨hc7, h4_⟩
     ·rcases oB h4_ with ⟨hc8, h4_⟩ | ⟨hc8, h4_⟩
      ·refine yW<|ym rfl (f32 r9)<|yl rfl (b true) (LOp.eqb (LOp.fgt rfl (OpF.tmp rfl) (OpF.const rfl (by kernel_rfl) (by kernel_rfl))) hc7)<|yl rfl (b false) y1<|ym rfl (b false)<|ym rfl (i64 v8)<|yl rfl (b true) (LOp.eqb (LOp.eql rfl rfl rfl) hc8)<|yl rfl (b true) yp<|zN ?_
       refine RunC.wl (τ' := [(1, i64 a3), (2, optr 0 1 0), (4, optr 1 1 0), (6, i64 v8), (39, i64 v8), (40, b true), (41, b true)]) (Γ' := [⟨1, some (mXc v5 v6 l7)⟩, ⟨1, some zMx⟩, ⟨u3, none⟩, ⟨u4, none⟩, ⟨0, none⟩, ⟨0, none⟩, ⟨0, none⟩, ⟨0, none⟩]) ⟨aR, aR, aR, aR, aR, aR, aR, trivial⟩ ⟨⟨rfl, .inr rfl⟩, ⟨rfl, .inr rfl⟩, ⟨rfl, .inl rfl⟩, ⟨rfl, .inl rfl⟩, ⟨rfl, .inr rfl⟩, ⟨rfl, .inr rfl⟩, ⟨rfl, .inr rfl⟩, ⟨rfl, .inr rfl⟩, trivial⟩<|yT<|RunC.exit ?_
       cases oI h4_
       have hx := ho4 _ rfl
       exact ⟨v5, v6, l7, v8, u3, u4, (Le.of ⟨aR, aR, aR, aR, trivial⟩ ⟨⟨rfl, .inr rfl⟩, ⟨rfl, .inr rfl⟩, ⟨rfl, .inl rfl⟩, ⟨rfl, .inl rfl⟩, ⟨rfl, .inr rfl⟩, ⟨rfl, .inr rfl⟩, ⟨rfl, .inr rfl⟩, ⟨rfl, .inr rfl⟩, trivial⟩), hx⟩
      ·refine yW<|ym rfl (f32 r9)<|yl rfl (b true) (LOp.eqb (LOp.fgt rfl (OpF.tmp rfl) (OpF.const rfl (by kernel_rfl) (by kernel_rfl))) hc7)<|yl rfl (b false) y1<|ym rfl (b false)<|ym rfl (i64 v8)<|yl rfl (b false) (LOp.eqb (LOp.eql rfl rfl rfl) hc8)<|yl rfl (b false) yp<|zN ?_
       refine RunC.wl (τ' := [(1, i64 a3), (2, optr 0 1 0), (4, optr 1 1 0), (6, i64 v8), (39, i64 v8), (40, b false), (41, b false)]) (Γ' := [⟨1, some (mXc v5 v6 l7)⟩, ⟨1, some zMx⟩, ⟨u3, none⟩, ⟨u4, none⟩, ⟨0, none⟩, ⟨0, none⟩, ⟨0, none⟩, ⟨0, none⟩]) ⟨aR, aR, aR, aR, aR, aR, aR, trivial⟩ ⟨⟨rfl, .inr rfl⟩, ⟨rfl, .inr rfl⟩, ⟨rfl, .inl rfl⟩, ⟨rfl, .inl rfl⟩, ⟨rfl, .inr rfl⟩, ⟨rfl, .inr rfl⟩, ⟨rfl, .inr rfl⟩, ⟨rfl, .inr rfl⟩, trivial⟩<|yF<|RunC.skip<|zQ<|yd rfl (agg (mXc v5 v6 l7)) (TOp.loadAgg_o rfl agg33 siz33 rfl rfl rfl rfl)<|ye rfl (optr 2 (u3 + 1) 0) [⟨1, some (mXc v5 v6 l7)⟩, ⟨1, some zMx⟩, ⟨(u3 + 1), some zMx⟩, ⟨u4, none⟩, ⟨0, none⟩, ⟨0, none⟩, ⟨0, none⟩, ⟨0, none⟩] (TOp.alloc_o (g := ⟨u3, none⟩) 2 rfl zer33 zok33 rfl)<|ys (agg (mXc v5 v6 l7)) (mXc v5 v6 l7) [⟨1, some (mXc v5 v6 l7)⟩, ⟨1, some zMx⟩, ⟨(u3 + 1), some (mXc v5 v6 l7)⟩, ⟨u4, none⟩, ⟨0, none⟩, ⟨0, none⟩, ⟨0, none⟩, ⟨0, none⟩] siz33<|zN ?_
       refine yS ?_
       obtain ⟨r11, r12, r13, hf9, h4_⟩ := obind3_some h4_
       refine yW<|yl rfl (optr 0 1 0) (LOp.fao und33 rfl siz2 rfl rfl rfl)<|yd rfl (i64 v5) (TOp.load1_o rfl rfl agg2 rfl rfl)<|yl rfl (optr 0 1 0) (LOp.fao und33 rfl siz2 rfl rfl rfl)<|yd rfl (i64 v5) (TOp.load1_o rfl rfl agg2 rfl rfl)<|yl rfl (fn (.func 98) [] [optr 2 (u3 + 1) 0]) (LOp.makeFunc rfl rfl)<|ye rfl (agg [i64 r11, i64 r12, oref 3 (u4 + 1) 0 r13.length]) [⟨1, some (mXc v5 v6 l7)⟩, ⟨1, some zMx⟩, ⟨(u3 + 1), some (mXc v5 v6 l7)⟩, ⟨(u4 + 1), some (r13.map f32)⟩, ⟨0, none⟩, ⟨0, none⟩, ⟨0, none⟩, ⟨0, none⟩] (TOp.eqr (TOp.callBN (ls := [(r13.map f32)]) [3] (CallAs.func ent64 rfl rfl) (bP (bP (Bors.cons (Bor.fn bN (Bors.cons (Bor.optr rfl (Bors.p (bP (bP (bS bN)))) rfl) bN)) bN))) rfl (i_made_2Fi_ExpMatrix_1_ok v5 v5 v5 v6 l7 r11 r12 r13 hf9) (and_all (lts0_map (f := f32) (fun _ => rfl) _) rfl) (and_all (noss_map (f := f32) (fun _ => rfl) _) rfl) rfl (by decide) (ns_of ⟨⟨_, rfl⟩, trivial⟩)) (by simp [ren, rens, sigma, newNames]))<|ys (agg [i64 r11, i64 r12, oref 3 (u4 + 1) 0 r13.length]) [i64 r11, i64 r12, oref 3 (u4 + 1) 0 r13.length] ([⟨1, some [i64 r11, i64 r12, oref 3 (u4 + 1) 0 r13.length]⟩, ⟨1, some zMx⟩, ⟨(u3 + 1), some (mXc v5 v6 l7)⟩, ⟨(u4 + 1), some (r13.map f32)⟩, ⟨0, none⟩, ⟨0, none⟩, ⟨0, none⟩, ⟨0, none⟩]) siz33<|zN ?_
       refine RunC.wl (τ' := [(1, i64 a3), (2, optr 0 1 0), (4, optr 1 1 0), (6, i64 v8), (39, i64 v8), (40, b false)]) (Γ' := [⟨1, some [i64 r11, i64 r12, oref 3 (u4 + 1) 0 r13.length]⟩, ⟨1, some zMx⟩, ⟨(u3 + 1), none⟩, ⟨(u4 + 1), some (r13.map f32)⟩, ⟨0, none⟩, ⟨0, none⟩, ⟨0, none⟩, ⟨0, none⟩]) ⟨aR, aR, aR, aR, aR, aR, trivial⟩ ⟨⟨rfl, .inr rfl⟩, ⟨rfl, .inr rfl⟩, ⟨rfl, .inl rfl⟩, ⟨rfl, .inr rfl⟩, ⟨rfl, .inr rfl⟩, ⟨rfl, .inr rfl⟩, ⟨rfl, .inr rfl⟩, ⟨rfl, .inr rfl⟩, trivial⟩ ?_
       obtain ⟨x14, hx10, h4_⟩ := oL h4_
       refine yW<|ym rfl (i64 v8)<|yl rfl (i64 x14) (LOp.eqr (LOp.add rfl rfl rfl) (congrArg (ik .i64) hx10))<|ya rfl (i64 x14)<|zN ?_
       cases oI h4_
       exact ⟨_, rfl, (u3 + 1), (u4 + 1), (Le.trans (Le.settleG 3 [(1, i64 a3), (2, optr 0 1 0), (4, optr 1 1 0), (6, i64 x14)] [⟨1, some (mXc r11 r12 r13)⟩, ⟨1, some zMx⟩, ⟨(u3 + 1), none⟩, ⟨(u4 + 1), none⟩, ⟨0, none⟩, ⟨0, none⟩, ⟨0, none⟩, ⟨0, none⟩] rfl rfl rfl ⟨.inr ⟨rfl, .inr ⟨_, _, rfl, rfl, ⟨.inl rfl, .inl rfl, .inr (Bor.own (f := f32) (fun _ => rfl) rfl rfl), trivial⟩⟩⟩, ⟨.inl rfl, ⟨.inl rfl, ⟨.inr ⟨rfl, .inl rfl⟩, ⟨.inl rfl, ⟨.inl rfl, ⟨.inl rfl, ⟨.inl rfl, trivial⟩⟩⟩⟩⟩⟩⟩⟩ ⟨.inl rfl, .inl rfl, .inl rfl, .inl rfl, trivial⟩) (Le.of ⟨aR, aR, aR, aR, trivial⟩ ⟨⟨rfl, .inr rfl⟩, ⟨rfl, .inr rfl⟩, ⟨rfl, .inl rfl⟩, ⟨rfl, .inl rfl⟩, ⟨rfl, .inr rfl⟩, ⟨rfl, .inr rfl⟩, ⟨rfl, .inr rfl⟩, ⟨rfl, .inr rfl⟩, trivial⟩))⟩
     ·refine yW<|ym rfl (f32 r9)<|yl rfl (b false) (LOp.eqb (LOp.fgt rfl (OpF.tmp rfl) (OpF.const rfl (by kernel_rfl) (by kernel_rfl))) hc7)<|yl rfl (b true) y0<|ym rfl (b true)<|ROps.s rfl rfl rfl<|ROps.s rfl rfl rfl<|yl rfl (b true) yq<|zN ?_
      refine RunC.wl (τ' := [(1, i64 a3), (2, optr 0 1 0), (4, optr 1 1 0), (6, i64 v8), (41, b true)]) (Γ' := [⟨1, some (mXc v5 v6 l7)⟩, ⟨1, some zMx⟩, ⟨u3, none⟩, ⟨u4, none⟩, ⟨0, none⟩, ⟨0, none⟩, ⟨0, none⟩, ⟨0, none⟩]) ⟨aR, aR, aR, aR, aR, trivial⟩ ⟨⟨rfl, .inr rfl⟩, ⟨rfl, .inr rfl⟩, ⟨rfl, .inl rfl⟩, ⟨rfl, .inl rfl⟩, ⟨rfl, .inr rfl⟩, ⟨rfl, .inr rfl⟩, ⟨rfl, .inr rfl⟩, ⟨rfl, .inr rfl⟩, trivial⟩<|yT<|RunC.exit ?_
      cases oI h4_
      have hx := ho4 _ rfl
      exact ⟨v5, v6, l7, v8, u3, u4, (Le.of ⟨aR, aR, aR, aR, trivial⟩ ⟨⟨rfl, .inr rfl⟩, ⟨rfl, .inr rfl⟩, ⟨rfl, .inl rfl⟩, ⟨rfl, .inl rfl⟩, ⟨rfl, .inr rfl⟩, ⟨rfl, .inr rfl⟩, ⟨rfl, .inr rfl⟩, ⟨rfl, .inr rfl⟩, trivial⟩), hx⟩
    ·refine yW<|yd rfl (agg (mXc v5 v6 l7)) (TOp.loadAgg_o rfl agg33 siz33 rfl rfl rfl rfl)<|yd rfl (tup [f32 r9, b r10]) (TOp.callB (CallAs.func ent97 rfl rfl) (Bors.cons (Bor.agg (bP (bP (bS bN)))) bN) rfl rfl (i_RowNorm_ok v5 v6 l7 r9 r10 hf5))<|ym rfl (tup [f32 r9, b r10])<|yl rfl (f32 r9) y3<|yl rfl (b false) (LOp.eqb y3 hc6)<|ya rfl (f32 r9)<|ya rfl (b false)<|zN ?_
     refine yS<|zQ<|ym rfl (b false)<|yl rfl (b true) y0<|zN ?_
     refine yT<|zQ<|yl rfl (agg zMx) (LOp.build (qs := []) zer33 zok33 und33 plc33 rfl trivial rfl)<|ys (agg zMx) zMx [⟨1, some (mXc v5 v6 l7)⟩, ⟨1, some zMx⟩, ⟨u3, none⟩, ⟨u4, none⟩, ⟨0, none⟩, ⟨0, none⟩, ⟨0, none⟩, ⟨0, none⟩] siz33<|ya rfl (b false)<|zN ?_
     refine RunC.nil_cell (l' := [i64 0, i64 0, oref 2 (u3 + 1) 0 0]) (Γ' := [⟨1, some (mXc v5 v6 l7)⟩, ⟨1, some [i64 0, i64 0, oref 2 (u3 + 1) 0 0]⟩, ⟨(u3 + 1), some (([] : List F).map f32)⟩, ⟨u4, none⟩, ⟨0, none⟩, ⟨0, none⟩, ⟨0, none⟩, ⟨0, none⟩]) 1 2 2 rfl rfl rfl rfl rfl<|RunC.ret ?_
     cases oI h4_
     have hx5_ := hr4 _ rfl
     subst hx5_
     have hq := oI h
     have hq := Sum.inl.inj hq
     obtain ⟨hq0, hq⟩ := Prod.mk.inj hq
     obtain ⟨hq1, hq⟩ := Prod.mk.inj hq
     obtain ⟨hq2, hq⟩ := Prod.mk.inj hq
     subst q0
     subst q1
     subst q2
     subst q3
     exact bodyQ.mk (r' := tup [agg [i64 0, i64 0, oref 2 (u3 + 1) 0 (([] : List F).length)], b false]) [(2, (u3 + 1))] (.inr rfl) rfl (show List.Nodup [2] from by decide) (by simp [ren, rens, sigma]) rfl (Res.eq (Res.two rfl (RV.cell agg33 siz33 rfl rfl rfl rfl) (RV.tmp rfl)) (by rw [(show ([] : List F).length = 0 from rfl)] <;> rfl)) (SelL.arr0 (f := f32) (fun _ => rfl) rfl trivial)
   ·rintro τ6 Γ6 ⟨v17, v18, l19, v20, u15, u16, hw6, rfl⟩
    refine RunC.le hw6 ?_
    replace h : i_ExpMatrix_k1 a3 v17 v18 l19 v20 = some (Sum.inl (q0, q1, q2, q3)) := h
    unfold i_ExpMatrix_k1 at h
    refine yS ?_
    obtain ⟨r21, r22, r23, hf11, h⟩ := obind3_some h
    obtain ⟨r24, r25, r26, hf12, h⟩ := obind3_some h
    refine RunC.region_draw (Γ' := [⟨1, some (mXc v17 v18 l19)⟩, ⟨1, some zMx⟩, ⟨(u15 + 1), some zMx⟩, ⟨(u16 + 1), some zMx⟩, ⟨0, none⟩, ⟨0, none⟩, ⟨0, none⟩, ⟨0, none⟩]) 8 mixed 
     (tl rfl (optr 0 1 0) (LOp.fao und33 rfl siz2 rfl rfl rfl) <|
     (TR.d (r := i64 v17) (fs := []) rfl rfl (TOp.load1_o rfl rfl agg2 rfl rfl) <|
     (TR.d (r := agg (mXc r21 r22 r23)) (fs := []) rfl rfl (TOp.callS (CallAs.func ent99 rfl rfl) (ALes.cons aR ALes.nil) (lts_cons rfl lts_nil) (lt_agg (lts_cons rfl (lts_cons rfl (lts_cons (lt_sl (fun _ => rfl)) lts_nil)))) (i_unit_ok v17 r21 r22 r23 hf11) (Bor.agg (bP (bP (Bors.cons (Bor.own (f := f32) (fun _ => rfl) rfl rfl) bN))))) <|
     (tl rfl (optr 0 1 0) (LOp.fao und33 rfl siz2 rfl rfl rfl) <|
     (TR.d (r := i64 v17) (fs := []) rfl rfl (TOp.load1_o rfl rfl agg2 rfl rfl) <|
     (TR.d (r := agg (mXc r24 r25 r26)) (fs := []) rfl rfl (TOp.callS (CallAs.func ent99 rfl rfl) (ALes.cons aR ALes.nil) (lts_cons rfl lts_nil) (lt_agg (lts_cons rfl (lts_cons rfl (lts_cons (lt_sl (fun _ => rfl)) lts_nil)))) (i_unit_ok v17 r24 r25 r26 hf12) (Bor.agg (bP (bP (Bors.cons (Bor.own (f := f32) (fun _ => rfl) rfl rfl) bN))))) <|
     (TR.d (r := optr 2 (u15 + 1) 0) (fs := [(2, zMx)]) rfl rfl (TOp.alloc_o (g := ⟨u15, none⟩) 2 rfl zer33 zok33 rfl) <|
     (TR.d (r := optr 3 (u16 + 1) 0) (fs := [(3, zMx)]) rfl rfl (TOp.alloc_o (g := ⟨u16, none⟩) 3 rfl zer33 zok33 rfl) <|
     TR.nil)))))))) rfl (by kernel_rfl) rfl (fills_of (by show List.Nodup [2, 3]; decide) ⟨⟨_, rfl⟩, ⟨_, rfl⟩, trivial⟩) rfl ?_
    iterate 8 refine ROps.dropS ?_
    refine ROps.drop0<|ys (agg (mXc r21 r22 r23)) (mXc r21 r22 r23) [⟨1, some (mXc v17 v18 l19)⟩, ⟨1, some zMx⟩, ⟨(u15 + 1), some (mXc r21 r22 r23)⟩, ⟨(u16 + 1), some zMx⟩, ⟨0, none⟩, ⟨0, none⟩, ⟨0, none⟩, ⟨0, none⟩] siz33<|ys (agg (mXc r24 r25 r26)) (mXc r24 r25 r26) [⟨1, some (mXc v17 v18 l19)⟩, ⟨1, some zMx⟩, ⟨(u15 + 1), some (mXc r21 r22 r23)⟩, ⟨(u16 + 1), some (mXc r24 r25 r26)⟩, ⟨0, none⟩, ⟨0, none⟩, ⟨0, none⟩, ⟨0, none⟩] siz33<|zN ?_
    refine yS<|zQ<|ye rfl (optr 4 1 0) ([⟨1, some (mXc v17 v18 l19)⟩, ⟨1, some zMx⟩, ⟨(u15 + 1), some (mXc r21 r22 r23)⟩, ⟨(u16 + 1), some (mXc r24 r25 r26)⟩, ⟨1, some [i64 0]⟩, ⟨0, none⟩, ⟨0, none⟩, ⟨0, none⟩]) (TOp.alloc_o (g := ⟨0, none⟩) 4 rfl zer2 zok2 rfl)<|ys (i64 1) [i64 1] ([⟨1, some (mXc v17 v18 l19)⟩, ⟨1, some zMx⟩, ⟨(u15 + 1), some (mXc r21 r22 r23)⟩, ⟨(u16 + 1), some (mXc r24 r25 r26)⟩, ⟨1, some [i64 1]⟩, ⟨0, none⟩, ⟨0, none⟩, ⟨0, none⟩]) siz2<|zN ?_
    obtain ⟨z7, hz_7, h⟩ := oS h
    refine RunC.cutN (fun τ Γ => ∃ (v54 : Int) (v55 : Int) (l56 : List F) (u50 : Nat) (u51 : Nat) (u52 : Nat) (u53 : Nat), Le 209 τ Γ [(4, optr 1 1 0), (6, i64 v20), (10, optr 2 (u15 + 1) 0)] [⟨1, none⟩, ⟨1, some zMx⟩, ⟨(u15 + 1), some (mXc v54 v55 l56)⟩, ⟨(u16 + 1), none⟩, ⟨u50, none⟩, ⟨u51, none⟩, ⟨u52, none⟩, ⟨u53, none⟩] ∧ z7 = .inl (v54, v55, l56)) ?_ ?_
    ·refine RunC.block (RunC.loop (RunL.loopM (x := z7) (i_ExpMatrix_s2 a3 v17 v18 l19) (fun (s : Int × Int × (List F) × Int × Int × (List F) × Int) τ Γ => ∃ (u27 : Nat) (u28 : Nat) (u29 : Nat) (u30 : Nat), Le 209 τ Γ [(1, i64 a3), (2, optr 0 1 0), (4, optr 1 1 0), (6, i64 v20), (10, optr 2 (u15 + 1) 0), (11, optr 3 (u16 + 1) 0), (12, optr 4 u27 0)] [⟨1, some (mXc v17 v18 l19)⟩, ⟨1, some zMx⟩, ⟨(u15 + 1), some [i64 s.1, i64 s.2.1, sl s.2.2.1.length (s.2.2.1.map f32)]⟩, ⟨(u16 + 1), some [i64 s.2.2.2.1, i64 s.2.2.2.2.1, sl s.2.2.2.2.2.1.length (s.2.2.2.2.2.1.map f32)]⟩, ⟨u27, some [i64 s.2.2.2.2.2.2]⟩, ⟨u28, none⟩, ⟨u29, none⟩, ⟨u30, none⟩]) ?_ _ _ _ hz_7 ⟨1, 0, 0, 0, (Le.of ⟨aR, aR, aR, aR, aR, aR, aR, trivial⟩ ⟨⟨rfl, .inr rfl⟩, ⟨rfl, .inr rfl⟩, ⟨rfl, .inr rfl⟩, ⟨rfl, .inr rfl⟩, ⟨rfl, .inr rfl⟩, ⟨rfl, .inl rfl⟩, ⟨rfl, .inl rfl⟩, ⟨rfl, .inl rfl⟩, trivial⟩)⟩))
     rintro ⟨v31, v32, l33, v34, v35, l36, v37⟩ τ7 Γ7 y7_ ⟨u27, u28, u29, u30, hw7⟩ h7_ ho7 hr7
     refine RunC.le (τ' := [(1, i64 a3), (2, optr 0 1 0), (4, optr 1 1 0), (6, i64 v20), (10, optr 2 (u15 + 1) 0), (11, optr 3 (u16 + 1) 0), (12, optr 4 u27 0)]) (Γ' := [⟨1, some (mXc v17 v18 l19)⟩, ⟨1, some zMx⟩, ⟨(u15 + 1), some (mXc v31 v32 l33)⟩, ⟨(u16 + 1), some (mXc v34 v35 l36)⟩, ⟨u27, some [i64 v37]⟩, ⟨u28, none⟩, ⟨u29, none⟩, ⟨u30, none⟩]) hw7 ?_
     replace h7_ : i_ExpMatrix_b2 a3 v17 v18 l19 v31 v32 l33 v34 v35 l36 v37 = some y7_ := h7_
     unfold i_ExpMatrix_b2 at h7_
     refine yS<|yS ?_
     rcases oB h7_ with ⟨hc13, h7_⟩ | ⟨hc13, h7_⟩
     ·refine yW<|yd rfl (i64 v37) (TOp.load1_o rfl rfl agg2 rfl rfl)<|ym rfl (i64 a3)<|yl rfl (b true) (LOp.eqb (LOp.leq rfl rfl rfl) hc13)<|zN ?_
      refine yT<|RunC.skip<|yS<|RunC.block<|yS ?_
      obtain ⟨r38, r39, r40, r41, hf14, h7_⟩ := obind4_some h7_
      rcases oB h7_ with ⟨hc15, h7_⟩ | ⟨hc15, h7_⟩
      ·refine yW<|yd rfl (agg (mXc v34 v35 l36)) (TOp.loadAgg_o rfl agg33 siz33 rfl rfl rfl rfl)<|yd rfl (agg (mXc v17 v18 l19)) (TOp.loadAgg_o rfl agg33 siz33 rfl rfl rfl rfl)<|yd rfl (tup [agg (mXc r38 r39 r41), b r40]) (TOp.callS (CallAs.func ent95 rfl rfl) (ALes.cons aR (ALes.cons aR ALes.nil)) (lts_cons (lt_agg (lts_cons rfl (lts_cons rfl (lts_cons (lt_sl (fun _ => rfl)) lts_nil)))) (lts_cons (lt_agg (lts_cons rfl (lts_cons rfl (lts_cons (lt_sl (fun _ => rfl)) lts_nil)))) lts_nil)) (lt_tup (lts_cons (lt_agg (lts_cons rfl (lts_cons rfl (lts_cons (lt_sl (fun _ => rfl)) lts_nil)))) (lts_cons rfl lts_nil))) (i_MulMatrices_ok v34 v35 l36 v17 v18 l19 r38 r39 r40 r41 hf14) (Bor.tup (Bors.cons (Bor.agg (bP (bP (Bors.cons (Bor.own (f := f32) (fun _ => rfl) rfl rfl) bN)))) bN0)))<|ym rfl (tup [agg (mXc r38 r39 r41), b r40])<|yl rfl (agg (mXc r38 r39 r41)) y3<|yl rfl (b true) (LOp.eqb y3 hc15)<|ye rfl (optr 5 (u28 + 1) 0) ([⟨1, some (mXc v17 v18 l19)⟩, ⟨1, some zMx⟩, ⟨(u15 + 1), some (mXc v31 v32 l33)⟩, ⟨(u16 + 1), some (mXc v34 v35 l36)⟩, ⟨u27, some [i64 v37]⟩, ⟨(u28 + 1), some zMx⟩, ⟨u29, none⟩, ⟨u30, none⟩]) (TOp.alloc_o (g := ⟨u28, none⟩) 5 rfl zer33 zok33 rfl)<|ys (agg (mXc r38 r39 r41)) (mXc r38 r39 r41) ([⟨1, some (mXc v17 v18 l19)⟩, ⟨1, some zMx⟩, ⟨(u15 + 1), some (mXc v31 v32 l33)⟩, ⟨(u16 + 1), some (mXc v34 v35 l36)⟩, ⟨u27, some [i64 v37]⟩, ⟨(u28 + 1), some (mXc r38 r39 r41)⟩, ⟨u29, none⟩, ⟨u30, none⟩]) siz33<|ya rfl (b true)<|zN ?_
       refine yS<|zQ<|ym rfl (b true)<|yl rfl (b false) y1<|zN ?_
       refine yF<|RunC.skip<|yS ?_
       obtain ⟨r42, r43, r44, hf16, h7_⟩ := obind3_some h7_
       refine yW<|yl rfl (optr 0 1 0) (LOp.fao und33 rfl siz2 rfl rfl rfl)<|yd rfl (i64 v17) (TOp.load1_o rfl rfl agg2 rfl rfl)<|yl rfl (optr 0 1 0) (LOp.fao und33 rfl siz2 rfl rfl rfl)<|yd rfl (i64 v17) (TOp.load1_o rfl rfl agg2 rfl rfl)<|yl rfl (fn (.func 100) [] [optr 5 (u28 + 1) 0, optr 4 u27 0]) (LOp.makeFunc rfl rfl)<|ye rfl (agg [i64 r42, i64 r43, oref 6 (u29 + 1) 0 r44.length]) ([⟨1, some (mXc v17 v18 l19)⟩, ⟨1, some zMx⟩, ⟨(u15 + 1), some (mXc v31 v32 l33)⟩, ⟨(u16 + 1), some (mXc v34 v35 l36)⟩, ⟨u27, some [i64 v37]⟩, ⟨(u28 + 1), some (mXc r38 r39 r41)⟩, ⟨(u29 + 1), some (r44.map f32)⟩, ⟨u30, none⟩]) (TOp.eqr (TOp.callBN (ls := [(r44.map f32)]) [6] (CallAs.func ent64 rfl rfl) (bP (bP (Bors.cons (Bor.fn bN (Bors.cons (Bor.optr rfl (Bors.p (bP (bP (bS bN)))) rfl) (Bors.cons (Bor.optr rfl (Bors.p bN0) rfl) bN))) bN))) rfl (i_made_2Fi_ExpMatrix_2_ok v17 v17 r38 r39 r41 v37 r42 r43 r44 hf16) (and_all (lts0_map (f := f32) (fun _ => rfl) _) rfl) (and_all (noss_map (f := f32) (fun _ => rfl) _) rfl) rfl (by decide) (ns_of ⟨⟨_, rfl⟩, trivial⟩)) (by simp [ren, rens, sigma, newNames]))<|ys (agg [i64 r42, i64 r43, oref 6 (u29 + 1) 0 r44.length]) [i64 r42, i64 r43, oref 6 (u29 + 1) 0 r44.length] ([⟨1, some (mXc v17 v18 l19)⟩, ⟨1, some zMx⟩, ⟨(u15 + 1), some (mXc v31 v32 l33)⟩, ⟨(u16 + 1), some [i64 r42, i64 r43, oref 6 (u29 + 1) 0 r44.length]⟩, ⟨u27, some [i64 v37]⟩, ⟨(u28 + 1), some (mXc r38 r39 r41)⟩, ⟨(u29 + 1), some (r44.map f32)⟩, ⟨u30, none⟩]) siz33<|zN ?_
       refine RunC.wl (τ' := [(1, i64 a3), (2, optr 0 1 0), (4, optr 1 1 0), (6, i64 v20), (10, optr 2 (u15 + 1) 0), (11, optr 3 (u16 + 1) 0), (12, optr 4 u27 0)]) (Γ' := [⟨1, some (mXc v17 v18 l19)⟩, ⟨1, some zMx⟩, ⟨(u15 + 1), some (mXc v31 v32 l33)⟩, ⟨(u16 + 1), some [i64 r42, i64 r43, oref 6 (u29 + 1) 0 r44.length]⟩, ⟨u27, some [i64 v37]⟩, ⟨(u28 + 1), none⟩, ⟨(u29 + 1), some (r44.map f32)⟩, ⟨u30, none⟩]) ⟨aR, aR, aR, aR, aR, aR, aR, trivial⟩ ⟨⟨rfl, .inr rfl⟩, ⟨rfl, .inr rfl⟩, ⟨rfl, .inr rfl⟩, ⟨rfl, .inr rfl⟩, ⟨rfl, .inr rfl⟩, ⟨rfl, .inl rfl⟩, ⟨rfl, .inr rfl⟩, ⟨rfl, .inl rfl⟩, trivial⟩<|zQ<|yd rfl (agg (mXc v31 v32 l33)) (TOp.loadAgg_o rfl agg33 siz33 rfl rfl rfl rfl)<|ye rfl (optr 5 (u28 + 2) 0) ([⟨1, some (mXc v17 v18 l19)⟩, ⟨1, some zMx⟩, ⟨(u15 + 1), some (mXc v31 v32 l33)⟩, ⟨(u16 + 1), some [i64 r42, i64 r43, oref 6 (u29 + 1) 0 r44.length]⟩, ⟨u27, some [i64 v37]⟩, ⟨(u28 + 2), some zMx⟩, ⟨(u29 + 1), some (r44.map f32)⟩, ⟨u30, none⟩]) (TOp.alloc_o (g := ⟨(u28 + 1), none⟩) 5 rfl zer33 zok33 rfl)<|ys (agg (mXc v31 v32 l33)) (mXc v31 v32 l33) ([⟨1, some (mXc v17 v18 l19)⟩, ⟨1, some zMx⟩, ⟨(u15 + 1), some (mXc v31 v32 l33)⟩, ⟨(u16 + 1), some [i64 r42, i64 r43, oref 6 (u29 + 1) 0 r44.length]⟩, ⟨u27, some [i64 v37]⟩, ⟨(u28 + 2), some (mXc v31 v32 l33)⟩, ⟨(u29 + 1), some (r44.map f32)⟩, ⟨u30, none⟩]) siz33<|zN ?_
       refine yS ?_
       obtain ⟨r45, r46, r47, hf17, h7_⟩ := obind3_some h7_
       refine yW<|yl rfl (optr 0 1 0) (LOp.fao und33 rfl siz2 rfl rfl rfl)<|yd rfl (i64 v17) (TOp.load1_o rfl rfl agg2 rfl rfl)<|yl rfl (optr 0 1 0) (LOp.fao und33 rfl siz2 rfl rfl rfl)<|yd rfl (i64 v17) (TOp.load1_o rfl rfl agg2 rfl rfl)<|yl rfl (fn (.func 101) [] [optr 5 (u28 + 2) 0, optr 3 (u16 + 1) 0]) (LOp.makeFunc rfl rfl)<|ye rfl (agg [i64 r45, i64 r46, oref 7 (u30 + 1) 0 r47.length]) ([⟨1, some (mXc v17 v18 l19)⟩, ⟨1, some zMx⟩, ⟨(u15 + 1), some (mXc v31 v32 l33)⟩, ⟨(u16 + 1), some [i64 r42, i64 r43, oref 6 (u29 + 1) 0 r44.length]⟩, ⟨u27, some [i64 v37]⟩, ⟨(u28 + 2), some (mXc v31 v32 l33)⟩, ⟨(u29 + 1), some (r44.map f32)⟩, ⟨(u30 + 1), some (r47.map f32)⟩]) (TOp.eqr (TOp.callBN (ls := [(r47.map f32)]) [7] (CallAs.func ent64 rfl rfl) (bP (bP (Bors.cons (Bor.fn bN (Bors.cons (Bor.optr rfl (Bors.p (bP (bP (bS bN)))) rfl) (Bors.cons (Bor.optr rfl (Bors.p (bP (bP (Bors.cons (Bor.own (f := f32) (fun _ => rfl) rfl rfl) bN)))) rfl) bN))) bN))) rfl (i_made_2Fi_ExpMatrix_3_ok v17 v17 v31 v32 l33 r42 r43 r44 r45 r46 r47 hf17) (and_all (lts0_map (f := f32) (fun _ => rfl) _) rfl) (and_all (noss_map (f := f32) (fun _ => rfl) _) rfl) rfl (by decide) (ns_of ⟨⟨_, rfl⟩, trivial⟩)) (by simp [ren, rens, sigma, newNames]))<|ys (agg [i64 r45, i64 r46, oref 7 (u30 + 1) 0 r47.length]) [i64 r45, i64 r46, oref 7 (u30 + 1) 0 r47.length] ([⟨1, some (mXc v17 v18 l19)⟩, ⟨1, some zMx⟩, ⟨(u15 + 1), some [i64 r45, i64 r46, oref 7 (u30 + 1) 0 r47.length]⟩, ⟨(u16 + 1), some [i64 r42, i64 r43, oref 6 (u29 + 1) 0 r44.length]⟩, ⟨u27, some [i64 v37]⟩, ⟨(u28 + 2), some (mXc v31 v32 l33)⟩, ⟨(u29 + 1), some (r44.map f32)⟩, ⟨(u30 + 1), some (r47.map f32)⟩]) siz33<|zN ?_
       refine RunC.wl (τ' := [(1, i64 a3), (2, optr 0 1 0), (4, optr 1 1 0), (6, i64 v20), (10, optr 2 (u15 + 1) 0), (11, optr 3 (u16 + 1) 0), (12, optr 4 u27 0)]) (Γ' := [⟨1, some (mXc v17 v18 l19)⟩, ⟨1, some zMx⟩, ⟨(u15 + 1), some [i64 r45, i64 r46, oref 7 (u30 + 1) 0 r47.length]⟩, ⟨(u16 + 1), some [i64 r42, i64 r43, oref 6 (u29 + 1) 0 r44.length]⟩, ⟨u27, some [i64 v37]⟩, ⟨(u28 + 2), none⟩, ⟨(u29 + 1), some (r44.map f32)⟩, ⟨(u30 + 1), some (r47.map f32)⟩]) ⟨aR, aR, aR, aR, aR, aR, aR, trivial⟩ ⟨⟨rfl, .inr rfl⟩, ⟨rfl, .inr rfl⟩, ⟨rfl, .inr rfl⟩, ⟨rfl, .inr rfl⟩, ⟨rfl, .inr rfl⟩, ⟨rfl, .inl rfl⟩, ⟨rfl, .inr rfl⟩, ⟨rfl, .inr rfl⟩, trivial⟩<|yS ?_
       obtain ⟨r48, hf18, h7_⟩ := oS h7_
       rcases oB h7_ with ⟨hc19, h7_⟩ | ⟨hc19, h7_⟩
       ·refine yW<|yd rfl (agg [i64 r45, i64 r46, oref 7 (u30 + 1) 0 r47.length]) (TOp.loadAgg_o rfl agg33 siz33 rfl rfl rfl rfl)<|yd rfl (b true) (TOp.eqb (TOp.callB (CallAs.func ent102 rfl rfl) (Bors.cons (Bor.agg (bP (bP (Bors.cons (Bor.own (f := f32) (fun _ => rfl) rfl rfl) bN)))) bN) rfl rfl (i_ValidMatrix_ok r45 r46 r47 r48 hf18)) hc19)<|yl rfl (b false) y1<|zN ?_
        refine yF<|RunC.skip<|yS<|zQ<|yd rfl (i64 v37) (TOp.load1_o rfl rfl agg2 rfl rfl)<|zN ?_
        refine RunC.wl (τ' := [(1, i64 a3), (2, optr 0 1 0), (4, optr 1 1 0), (6, i64 v20), (10, optr 2 (u15 + 1) 0), (11, optr 3 (u16 + 1) 0), (88, i64 v37)]) (Γ' := [⟨1, some (mXc v17 v18 l19)⟩, ⟨1, some zMx⟩, ⟨(u15 + 1), some [i64 r45, i64 r46, oref 7 (u30 + 1) 0 r47.length]⟩, ⟨(u16 + 1), some [i64 r42, i64 r43, oref 6 (u29 + 1) 0 r44.length]⟩, ⟨u27, none⟩, ⟨(u28 + 2), none⟩, ⟨(u29 + 1), some (r44.map f32)⟩, ⟨(u30 + 1), some (r47.map f32)⟩]) ⟨aR, aR, aR, aR, aR, aR, aR, trivial⟩ ⟨⟨rfl, .inr rfl⟩, ⟨rfl, .inr rfl⟩, ⟨rfl, .inr rfl⟩, ⟨rfl, .inr rfl⟩, ⟨rfl, .inl rfl⟩, ⟨rfl, .inl rfl⟩, ⟨rfl, .inr rfl⟩, ⟨rfl, .inr rfl⟩, trivial⟩<|yW<|ye rfl (optr 4 (u27 + 1) 0) ([⟨1, some (mXc v17 v18 l19)⟩, ⟨1, some zMx⟩, ⟨(u15 + 1), some [i64 r45, i64 r46, oref 7 (u30 + 1) 0 r47.length]⟩, ⟨(u16 + 1), some [i64 r42, i64 r43, oref 6 (u29 + 1) 0 r44.length]⟩, ⟨(u27 + 1), some [i64 0]⟩, ⟨(u28 + 2), none⟩, ⟨(u29 + 1), some (r44.map f32)⟩, ⟨(u30 + 1), some (r47.map f32)⟩]) (TOp.alloc_o (g := ⟨u27, none⟩) 4 rfl zer2 zok2 rfl)<|ys (i64 v37) [i64 v37] ([⟨1, some (mXc v17 v18 l19)⟩, ⟨1, some zMx⟩, ⟨(u15 + 1), some [i64 r45, i64 r46, oref 7 (u30 + 1) 0 r47.length]⟩, ⟨(u16 + 1), some [i64 r42, i64 r43, oref 6 (u29 + 1) 0 r44.length]⟩, ⟨(u27 + 1), some [i64 v37]⟩, ⟨(u28 + 2), none⟩, ⟨(u29 + 1), some (r44.map f32)⟩, ⟨(u30 + 1), some (r47.map f32)⟩]) siz2<|zN ?_
        obtain ⟨x49, hx20, h7_⟩ := oL h7_
        refine yW<|yd rfl (i64 v37) (TOp.load1_o rfl rfl agg2 rfl rfl)<|yl rfl (i64 x49) (LOp.eqr (LOp.add rfl rfl rfl) (congrArg (ik .i64) hx20))<|ys (i64 x49) [i64 x49] ([⟨1, some (mXc v17 v18 l19)⟩, ⟨1, some zMx⟩, ⟨(u15 + 1), some [i64 r45, i64 r46, oref 7 (u30 + 1) 0 r47.length]⟩, ⟨(u16 + 1), some [i64 r42, i64 r43, oref 6 (u29 + 1) 0 r44.length]⟩, ⟨(u27 + 1), some [i64 x49]⟩, ⟨(u28 + 2), none⟩, ⟨(u29 + 1), some (r44.map f32)⟩, ⟨(u30 + 1), some (r47.map f32)⟩]) siz2<|zN ?_
        cases oI h7_
        exact ⟨_, rfl, (u27 + 1), (u28 + 2), (u29 + 1), (u30 + 1), (Le.trans (Le.settleG 7 [(1, i64 a3), (2, optr 0 1 0), (4, optr 1 1 0), (6, i64 v20), (10, optr 2 (u15 + 1) 0), (11, optr 3 (u16 + 1) 0), (12, optr 4 (u27 + 1) 0)] [⟨1, some (mXc v17 v18 l19)⟩, ⟨1, some zMx⟩, ⟨(u15 + 1), some (mXc r45 r46 r47)⟩, ⟨(u16 + 1), some [i64 r42, i64 r43, oref 6 (u29 + 1) 0 r44.length]⟩, ⟨(u27 + 1), some [i64 x49]⟩, ⟨(u28 + 2), none⟩, ⟨(u29 + 1), some (r44.map f32)⟩, ⟨(u30 + 1), none⟩] rfl rfl rfl ⟨.inl rfl, ⟨.inl rfl, ⟨.inr ⟨rfl, .inr ⟨_, _, rfl, rfl, ⟨.inl rfl, .inl rfl, .inr (Bor.own (f := f32) (fun _ => rfl) rfl rfl), trivial⟩⟩⟩, ⟨.inl rfl, ⟨.inl rfl, ⟨.inl rfl, ⟨.inl rfl, ⟨.inr ⟨rfl, .inl rfl⟩, trivial⟩⟩⟩⟩⟩⟩⟩⟩ ⟨.inl rfl, .inl rfl, .inl rfl, .inl rfl, .inl rfl, .inl rfl, .inl rfl, trivial⟩) (Le.trans (Le.settleG 6 [(1, i64 a3), (2, optr 0 1 0), (4, optr 1 1 0), (6, i64 v20), (10, optr 2 (u15 + 1) 0), (11, optr 3 (u16 + 1) 0), (12, optr 4 (u27 + 1) 0)] [⟨1, some (mXc v17 v18 l19)⟩, ⟨1, some zMx⟩, ⟨(u15 + 1), some (mXc r45 r46 r47)⟩, ⟨(u16 + 1), some (mXc r42 r43 r44)⟩, ⟨(u27 + 1), some [i64 x49]⟩, ⟨(u28 + 2), none⟩, ⟨(u29 + 1), none⟩, ⟨(u30 + 1), none⟩] rfl rfl rfl ⟨.inl rfl, ⟨.inl rfl, ⟨.inl rfl, ⟨.inr ⟨rfl, .inr ⟨_, _, rfl, rfl, ⟨.inl rfl, .inl rfl, .inr (Bor.own (f := f32) (fun _ => rfl) rfl rfl), trivial⟩⟩⟩, ⟨.inl rfl, ⟨.inl rfl, ⟨.inr ⟨rfl, .inl rfl⟩, ⟨.inl rfl, trivial⟩⟩⟩⟩⟩⟩⟩⟩ ⟨.inl rfl, .inl rfl, .inl rfl, .inl rfl, .inl rfl, .inl rfl, .inl rfl, trivial⟩) (Le.of ⟨aR, aR, aR, aR, aR, aR, aR, trivial⟩ ⟨⟨rfl, .inr rfl⟩, ⟨rfl, .inr rfl⟩, ⟨rfl, .inr rfl⟩, ⟨rfl, .inr rfl⟩, ⟨rfl, .inr rfl⟩, ⟨rfl, .inl rfl⟩, ⟨rfl, .inl rfl⟩, ⟨rfl, .inl rfl⟩, trivial⟩)))⟩
       ·refine yW<|yd rfl (agg [i64 r45, i64 r46, oref 7 (u30 + 1) 0 r47.length]) (TOp.loadAgg_o rfl agg33 siz33 rfl rfl rfl rfl)<|yd rfl (b false) (TOp.eqb (TOp.callB (CallAs.func ent102 rfl rfl) (Bors.cons (Bor.agg (bP (bP (Bors.cons (Bor.own (f := f32) (fun _ => rfl) rfl rfl) bN)))) bN) rfl rfl (i_ValidMatrix_ok r45 r46 r47 r48 hf18)) hc19)<|yl rfl (b true) y0<|zN ?_
        refine yT<|zQ<|yl rfl (agg zMx) (LOp.build (qs := []) zer33 zok33 und33 plc33 rfl trivial rfl)<|ys (agg zMx) zMx ([⟨1, some (mXc v17 v18 l19)⟩, ⟨1, some zMx⟩, ⟨(u15 + 1), some [i64 r45, i64 r46, oref 7 (u30 + 1) 0 r47.length]⟩, ⟨(u16 + 1), some [i64 r42, i64 r43, oref 6 (u29 + 1) 0 r44.length]⟩, ⟨u27, some [i64 v37]⟩, ⟨(u28 + 2), none⟩, ⟨(u29 + 1), some (r44.map f32)⟩, ⟨(u30 + 1), some (r47.map f32)⟩]) siz33<|ya rfl (b false)<|zN ?_
        refine RunC.nil_cell (l' := [i64 0, i64 0, oref 5 (u28 + 3) 0 0]) (Γ' := [⟨1, some (mXc v17 v18 l19)⟩, ⟨1, some [i64 0, i64 0, oref 5 (u28 + 3) 0 0]⟩, ⟨(u15 + 1), some [i64 r45, i64 r46, oref 7 (u30 + 1) 0 r47.length]⟩, ⟨(u16 + 1), some [i64 r42, i64 r43, oref 6 (u29 + 1) 0 r44.length]⟩, ⟨u27, some [i64 v37]⟩, ⟨(u28 + 3), some (([] : List F).map f32)⟩, ⟨(u29 + 1), some (r44.map f32)⟩, ⟨(u30 + 1), some (r47.map f32)⟩]) 1 2 5 rfl rfl rfl rfl rfl<|RunC.ret ?_
        cases oI h7_
        have hx8_ := hr7 _ rfl
        subst hx8_
        have hq := oI h
        have hq := Sum.inl.inj hq
        obtain ⟨hq0, hq⟩ := Prod.mk.inj hq
        obtain ⟨hq1, hq⟩ := Prod.mk.inj hq
        obtain ⟨hq2, hq⟩ := Prod.mk.inj hq
        subst q0
        subst q1
        subst q2
        subst q3
        exact bodyQ.mk (r' := tup [agg [i64 0, i64 0, oref 5 (u28 + 3) 0 (([] : List F).length)], b false]) [(5, (u28 + 3))] (.inr rfl) rfl (show List.Nodup [5] from by decide) (by simp [ren, rens, sigma]) rfl (Res.eq (Res.two rfl (RV.cell agg33 siz33 rfl rfl rfl rfl) (RV.tmp rfl)) (by rw [(show ([] : List F).length = 0 from rfl)] <;> rfl)) (SelL.arr0 (f := f32) (fun _ => rfl) rfl trivial)
      ·refine yW<|yd rfl (agg (mXc v34 v35 l36)) (TOp.loadAgg_o rfl agg33 siz33 rfl rfl rfl rfl)<|yd rfl (agg (mXc v17 v18 l19)) (TOp.loadAgg_o rfl agg33 siz33 rfl rfl rfl rfl)<|yd rfl (tup [agg (mXc r38 r39 r41), b r40]) (TOp.callS (CallAs.func ent95 rfl rfl) (ALes.cons aR (ALes.cons aR ALes.nil)) (lts_cons (lt_agg (lts_cons rfl (lts_cons rfl (lts_cons (lt_sl (fun _ => rfl)) lts_nil)))) (lts_cons (lt_agg (lts_cons rfl (lts_cons rfl (lts_cons (lt_sl (fun _ => rfl)) lts_nil)))) lts_nil)) (lt_tup (lts_cons (lt_agg (lts_cons rfl (lts_cons rfl (lts_cons (lt_sl (fun _ => rfl)) lts_nil)))) (lts_cons rfl lts_nil))) (i_MulMatrices_ok v34 v35 l36 v17 v18 l19 r38 r39 r40 r41 hf14) (Bor.tup (Bors.cons (Bor.agg (bP (bP (Bors.cons (Bor.own (f := f32) (fun _ => rfl) rfl rfl) bN)))) bN0)))<|ym rfl (tup [agg (mXc r38 r39 r41), b r40])<|yl rfl (agg (mXc r38 r39 r41)) y3<|yl rfl (b false) (LOp.eqb y3 hc15)<|ye rfl (optr 5 (u28 + 1) 0) ([⟨1, some (mXc v17 v18 l19)⟩, ⟨1, some zMx⟩, ⟨(u15 + 1), some (mXc v31 v32 l33)⟩, ⟨(u16 + 1), some (mXc v34 v35 l36)⟩, ⟨u27, some [i64 v37]⟩, ⟨(u28 + 1), some zMx⟩, ⟨u29, none⟩, ⟨u30, none⟩]) (TOp.alloc_o (g := ⟨u28, none⟩) 5 rfl zer33 zok33 rfl)<|ys (agg (mXc r38 r39 r41)) (mXc r38 r39 r41) ([⟨1, some (mXc v17 v18 l19)⟩, ⟨1, some zMx⟩, ⟨(u15 + 1), some (mXc v31 v32 l33)⟩, ⟨(u16 + 1), some (mXc v34 v35 l36)⟩, ⟨u27, some [i64 v37]⟩, ⟨(u28 + 1), some (mXc r38 r39 r41)⟩, ⟨u29, none⟩, ⟨u30, none⟩]) siz33<|ya rfl (b false)<|zN ?_
       refine yS<|zQ<|ym rfl (b false)<|yl rfl (b true) y0<|zN ?_
       refine yT<|zQ<|yl rfl (agg zMx) (LOp.build (qs := []) zer33 zok33 und33 plc33 rfl trivial rfl)<|ys (agg zMx) zMx ([⟨1, some (mXc v17 v18 l19)⟩, ⟨1, some zMx⟩, ⟨(u15 + 1), some (mXc v31 v32 l33)⟩, ⟨(u16 + 1), some (mXc v34 v35 l36)⟩, ⟨u27, some [i64 v37]⟩, ⟨(u28 + 1), some (mXc r38 r39 r41)⟩, ⟨u29, none⟩, ⟨u30, none⟩]) siz33<|ya rfl (b false)<|zN ?_
       refine RunC.nil_cell (l' := [i64 0, i64 0, oref 6 (u29 + 1) 0 0]) (Γ' := [⟨1, some (mXc v17 v18 l19)⟩, ⟨1, some [i64 0, i64 0, oref 6 (u29 + 1) 0 0]⟩, ⟨(u15 + 1), some (mXc v31 v32 l33)⟩, ⟨(u16 + 1), some (mXc v34 v35 l36)⟩, ⟨u27, some [i64 v37]⟩, ⟨(u28 + 1), some (mXc r38 r39 r41)⟩, ⟨(u29 + 1), some (([] : List F).map f32)⟩, ⟨u30, none⟩]) 1 2 6 rfl rfl rfl rfl rfl<|RunC.ret ?_
       cases oI h7_
       have hx9_ := hr7 _ rfl
       subst hx9_
       have hq := oI h
       have hq := Sum.inl.inj hq
       obtain ⟨hq0, hq⟩ := Prod.mk.inj hq
       obtain ⟨hq1, hq⟩ := Prod.mk.inj hq
       obtain ⟨hq2, hq⟩ := Prod.mk.inj hq
       subst q0
       subst q1
       subst q2
       subst q3
       exact bodyQ.mk (r' := tup [agg [i64 0, i64 0, oref 6 (u29 + 1) 0 (([] : List F).length)], b false]) [(6, (u29 + 1))] (.inr rfl) rfl (show List.Nodup [6] from by decide) (by simp [ren, rens, sigma]) rfl (Res.eq (Res.two rfl (RV.cell agg33 siz33 rfl rfl rfl rfl) (RV.tmp rfl)) (by rw [(show ([] : List F).length = 0 from rfl)] <;> rfl)) (SelL.arr0 (f := f32) (fun _ => rfl) rfl trivial)
     ·refine yW<|yd rfl (i64 v37) (TOp.load1_o rfl rfl agg2 rfl rfl)<|ym rfl (i64 a3)<|yl rfl (b false) (LOp.eqb (LOp.leq rfl rfl rfl) hc13)<|zN ?_
      refine yF<|RunC.exit ?_
      cases oI h7_
      have hx := ho7 _ rfl
      exact ⟨v31, v32, l33, u27, u28, u29, u30, (Le.of ⟨aR, aR, aR, trivial⟩ ⟨⟨rfl, .inl rfl⟩, ⟨rfl, .inr rfl⟩, ⟨rfl, .inr rfl⟩, ⟨rfl, .inl rfl⟩, ⟨rfl, .inl rfl⟩, ⟨rfl, .inl rfl⟩, ⟨rfl, .inl rfl⟩, ⟨rfl, .inl rfl⟩, trivial⟩), hx⟩
    ·rintro τ10 Γ10 ⟨v54, v55, l56, u50, u51, u52, u53, hw10, rfl⟩
     refine RunC.le hw10 ?_
     replace h : i_ExpMatrix_k2 v20 v54 v55 l56 = some (Sum.inl (q0, q1, q2, q3)) := h
     unfold i_ExpMatrix_k2 at h
     refine yS<|zQ<|ym rfl (i64 v20)<|ym rfl (i64 0)<|zN ?_
     obtain ⟨z11, hz_11, h⟩ := oS h
     refine RunC.cutN (fun τ Γ => ∃ (v68 : Int) (v69 : Int) (l70 : List F) (u67 : Nat), Le 209 τ Γ [(4, optr 1 1 0), (10, optr 2 (u15 + 1) 0)] [⟨u67, none⟩, ⟨1, some zMx⟩, ⟨(u15 + 1), some (mXc v68 v69 l70)⟩, ⟨(u16 + 1), none⟩, ⟨u50, none⟩, ⟨u51, none⟩, ⟨u52, none⟩, ⟨u53, none⟩] ∧ z11 = .inl (v68, v69, l70)) ?_ ?_
     ·refine RunC.block (RunC.loop (RunL.loopM (x := z11) (i_ExpMatrix_s3 v20) (fun (s : Int × Int × (List F) × Int) τ Γ => ∃ (u57 : Nat), Le 209 τ Γ [(4, optr 1 1 0), (10, optr 2 (u15 + 1) 0), (89, i64 v20), (90, i64 s.2.2.2)] [⟨u57, none⟩, ⟨1, some zMx⟩, ⟨(u15 + 1), some [i64 s.1, i64 s.2.1, sl s.2.2.1.length (s.2.2.1.map f32)]⟩, ⟨(u16 + 1), none⟩, ⟨u50, none⟩, ⟨u51, none⟩, ⟨u52, none⟩, ⟨u53, none⟩]) ?_ _ _ _ hz_11 ⟨1, (Le.of ⟨aR, aR, aR, aR, trivial⟩ ⟨⟨rfl, .inl rfl⟩, ⟨rfl, .inr rfl⟩, ⟨rfl, .inr rfl⟩, ⟨rfl, .inl rfl⟩, ⟨rfl, .inl rfl⟩, ⟨rfl, .inl rfl⟩, ⟨rfl, .inl rfl⟩, ⟨rfl, .inl rfl⟩, trivial⟩)⟩))
      rintro ⟨v58, v59, l60, v61⟩ τ11 Γ11 y11_ ⟨u57, hw11⟩ h11_ ho11 hr11
      refine RunC.le (τ' := [(4, optr 1 1 0), (10, optr 2 (u15 + 1) 0), (89, i64 v20), (90, i64 v61)]) (Γ' := [⟨u57, none⟩, ⟨1, some zMx⟩, ⟨(u15 + 1), some (mXc v58 v59 l60)⟩, ⟨(u16 + 1), none⟩, ⟨u50, none⟩, ⟨u51, none⟩, ⟨u52, none⟩, ⟨u53, none⟩]) hw11 ?_
      replace h11_ : i_ExpMatrix_b3 v20 v58 v59 l60 v61 = some y11_ := h11_
      unfold i_ExpMatrix_b3 at h11_
      refine yS ?_
      rcases oB h11_ with ⟨hc21, h11_⟩ | ⟨hc21, h11_⟩
      ·refine yW<|yl rfl (b true) (LOp.eqb (LOp.lss rfl rfl rfl) hc21)<|zN ?_
       refine yS<|yT<|RunC.skip<|yS<|RunC.block<|yS ?_
       obtain ⟨r62, r63, r64, r65, hf22, h11_⟩ := obind4_some h11_
       rcases oB h11_ with ⟨hc23, h11_⟩ | ⟨hc23, h11_⟩
       ·refine yW<|yd rfl (agg (mXc v58 v59 l60)) (TOp.loadAgg_o rfl agg33 siz33 rfl rfl rfl rfl)<|yd rfl (agg (mXc v58 v59 l60)) (TOp.loadAgg_o rfl agg33 siz33 rfl rfl rfl rfl)<|yd rfl (tup [agg (mXc r62 r63 r65), b r64]) (TOp.callS (CallAs.func ent95 rfl rfl) (ALes.cons aR (ALes.cons aR ALes.nil)) (lts_cons (lt_agg (lts_cons rfl (lts_cons rfl (lts_cons (lt_sl (fun _ => rfl)) lts_nil)))) (lts_cons (lt_agg (lts_cons rfl (lts_cons rfl (lts_cons (lt_sl (fun _ => rfl)) lts_nil)))) lts_nil)) (lt_tup (lts_cons (lt_agg (lts_cons rfl (lts_cons rfl (lts_cons (lt_sl (fun _ => rfl)) lts_nil)))) (lts_cons rfl lts_nil))) (i_MulMatrices_ok v58 v59 l60 v58 v59 l60 r62 r63 r64 r65 hf22) (Bor.tup (Bors.cons (Bor.agg (bP (bP (Bors.cons (Bor.own (f := f32) (fun _ => rfl) rfl rfl) bN)))) bN0)))<|ym rfl (tup [agg (mXc r62 r63 r65), b r64])<|yl rfl (agg (mXc r62 r63 r65)) y3<|yl rfl (b true) (LOp.eqb y3 hc23)<|ye rfl (optr 0 (u57 + 1) 0) [⟨(u57 + 1), some zMx⟩, ⟨1, some zMx⟩, ⟨(u15 + 1), some (mXc v58 v59 l60)⟩, ⟨(u16 + 1), none⟩, ⟨u50, none⟩, ⟨u51, none⟩, ⟨u52, none⟩, ⟨u53, none⟩] (TOp.alloc_o (g := ⟨u57, none⟩) 0 rfl zer33 zok33 rfl)<|ys (agg (mXc r62 r63 r65)) (mXc r62 r63 r65) [⟨(u57 + 1), some (mXc r62 r63 r65)⟩, ⟨1, some zMx⟩, ⟨(u15 + 1), some (mXc v58 v59 l60)⟩, ⟨(u16 + 1), none⟩, ⟨u50, none⟩, ⟨u51, none⟩, ⟨u52, none⟩, ⟨u53, none⟩] siz33<|ya rfl (b true)<|zN ?_
        refine yS<|zQ<|ym rfl (b true)<|yl rfl (b false) y1<|zN ?_
        refine yF<|RunC.skip<|yW<|yd rfl (agg (mXc r62 r63 r65)) (TOp.loadAgg_o rfl agg33 siz33 rfl rfl rfl rfl)<|ys (agg (mXc r62 r63 r65)) (mXc r62 r63 r65) [⟨(u57 + 1), some (mXc r62 r63 r65)⟩, ⟨1, some zMx⟩, ⟨(u15 + 1), some (mXc r62 r63 r65)⟩, ⟨(u16 + 1), none⟩, ⟨u50, none⟩, ⟨u51, none⟩, ⟨u52, none⟩, ⟨u53, none⟩] siz33<|zN ?_
        refine RunC.wl (τ' := [(4, optr 1 1 0), (10, optr 2 (u15 + 1) 0), (89, i64 v20), (90, i64 v61)]) (Γ' := [⟨(u57 + 1), none⟩, ⟨1, some zMx⟩, ⟨(u15 + 1), some (mXc r62 r63 r65)⟩, ⟨(u16 + 1), none⟩, ⟨u50, none⟩, ⟨u51, none⟩, ⟨u52, none⟩, ⟨u53, none⟩]) ⟨aR, aR, aR, aR, trivial⟩ ⟨⟨rfl, .inl rfl⟩, ⟨rfl, .inr rfl⟩, ⟨rfl, .inr rfl⟩, ⟨rfl, .inl rfl⟩, ⟨rfl, .inl rfl⟩, ⟨rfl, .inl rfl⟩, ⟨rfl, .inl rfl⟩, ⟨rfl, .inl rfl⟩, trivial⟩ ?_
        obtain ⟨x66, hx24, h11_⟩ := oL h11_
        refine yW<|yl rfl (i64 x66) (LOp.eqr (LOp.add rfl rfl rfl) (congrArg (ik .i64) hx24))<|ym rfl (i64 x66)<|zN ?_
        cases oI h11_
        exact ⟨_, rfl, (u57 + 1), (Le.of ⟨aR, aR, aR, aR, trivial⟩ ⟨⟨rfl, .inl rfl⟩, ⟨rfl, .inr rfl⟩, ⟨rfl, .inr rfl⟩, ⟨rfl, .inl rfl⟩, ⟨rfl, .inl rfl⟩, ⟨rfl, .inl rfl⟩, ⟨rfl, .inl rfl⟩, ⟨rfl, .inl rfl⟩, trivial⟩)⟩
       ·refine yW<|yd rfl (agg (mXc v58 v59 l60)) (TOp.loadAgg_o rfl agg33 siz33 rfl rfl rfl rfl)<|yd rfl (agg (mXc v58 v59 l60)) (TOp.loadAgg_o rfl agg33 siz33 rfl rfl rfl rfl)<|yd rfl (tup [agg (mXc r62 r63 r65), b r64]) (TOp.callS (CallAs.func ent95 rfl rfl) (ALes.cons aR (ALes.cons aR ALes.nil)) (lts_cons (lt_agg (lts_cons rfl (lts_cons rfl (lts_cons (lt_sl (fun _ => rfl)) lts_nil)))) (lts_cons (lt_agg (lts_cons rfl (lts_cons rfl (lts_cons (lt_sl (fun _ => rfl)) lts_nil)))) lts_nil)) (lt_tup (lts_cons (lt_agg (lts_cons rfl (lts_cons rfl (lts_cons (lt_sl (fun _ => rfl)) lts_nil)))) (lts_cons rfl lts_nil))) (i_MulMatrices_ok v58 v59 l60 v58 v59 l60 r62 r63 r64 r65 hf22) (Bor.tup (Bors.cons (Bor.agg (bP (bP (Bors.cons (Bor.own (f := f32) (fun _ => rfl) rfl rfl) bN)))) bN0)))<|ym rfl (tup [agg (mXc r62 r63 r65), b r64])<|yl rfl (agg (mXc r62 r63 r65)) y3<|yl rfl (b false) (LOp.eqb y3 hc23)<|ye rfl (optr 0 (u57 + 1) 0) [⟨(u57 + 1), some zMx⟩, ⟨1, some zMx⟩, ⟨(u15 + 1), some (mXc v58 v59 l60)⟩, ⟨(u16 + 1), none⟩, ⟨u50, none⟩, ⟨u51, none⟩, ⟨u52, none⟩, ⟨u53, none⟩] (TOp.alloc_o (g := ⟨u57, none⟩) 0 rfl zer33 zok33 rfl)<|ys (agg (mXc r62 r63 r65)) (mXc r62 r63 r65) [⟨(u57 + 1), some (mXc r62 r63 r65)⟩, ⟨1, some zMx⟩, ⟨(u15 + 1), some (mXc v58 v59 l60)⟩, ⟨(u16 + 1), none⟩, ⟨u50, none⟩, ⟨u51, none⟩, ⟨u52, none⟩, ⟨u53, none⟩] siz33<|ya rfl (b false)<|zN ?_
        refine yS<|zQ<|ym rfl (b false)<|yl rfl (b true) y0<|zN ?_
        refine yT<|zQ<|yl rfl (agg zMx) (LOp.build (qs := []) zer33 zok33 und33 plc33 rfl trivial rfl)<|ys (agg zMx) zMx [⟨(u57 + 1), some (mXc r62 r63 r65)⟩, ⟨1, some zMx⟩, ⟨(u15 + 1), some (mXc v58 v59 l60)⟩, ⟨(u16 + 1), none⟩, ⟨u50, none⟩, ⟨u51, none⟩, ⟨u52, none⟩, ⟨u53, none⟩] siz33<|ya rfl (b false)<|zN ?_
        refine RunC.nil_cell (l' := [i64 0, i64 0, oref 3 (u16 + 2) 0 0]) (Γ' := [⟨(u57 + 1), some (mXc r62 r63 r65)⟩, ⟨1, some [i64 0, i64 0, oref 3 (u16 + 2) 0 0]⟩, ⟨(u15 + 1), some (mXc v58 v59 l60)⟩, ⟨(u16 + 2), some (([] : List F).map f32)⟩, ⟨u50, none⟩, ⟨u51, none⟩, ⟨u52, none⟩, ⟨u53, none⟩]) 1 2 3 rfl rfl rfl rfl rfl<|RunC.ret ?_
        cases oI h11_
        have hx12_ := hr11 _ rfl
        subst hx12_
        have hq := oI h
        have hq := Sum.inl.inj hq
        obtain ⟨hq0, hq⟩ := Prod.mk.inj hq
        obtain ⟨hq1, hq⟩ := Prod.mk.inj hq
        obtain ⟨hq2, hq⟩ := Prod.mk.inj hq
        subst q0
        subst q1
        subst q2
        subst q3
        exact bodyQ.mk (r' := tup [agg [i64 0, i64 0, oref 3 (u16 + 2) 0 (([] : List F).length)], b false]) [(3, (u16 + 2))] (.inr rfl) rfl (show List.Nodup [3] from by decide) (by simp [ren, rens, sigma]) rfl (Res.eq (Res.two rfl (RV.cell agg33 siz33 rfl rfl rfl rfl) (RV.tmp rfl)) (by rw [(show ([] : List F).length = 0 from rfl)] <;> rfl)) (SelL.arr0 (f := f32) (fun _ => rfl) rfl trivial)
      ·refine yW<|yl rfl (b false) (LOp.eqb (LOp.lss rfl rfl rfl) hc21)<|zN ?_
       refine yS<|yF<|RunC.exit ?_
       cases oI h11_
       have hx := ho11 _ rfl
       exact ⟨v58, v59, l60, u57, (Le.of ⟨aR, aR, trivial⟩ ⟨⟨rfl, .inl rfl⟩, ⟨rfl, .inr rfl⟩, ⟨rfl, .inr rfl⟩, ⟨rfl, .inl rfl⟩, ⟨rfl, .inl rfl⟩, ⟨rfl, .inl rfl⟩, ⟨rfl, .inl rfl⟩, ⟨rfl, .inl rfl⟩, trivial⟩), hx⟩
     ·rintro τ13 Γ13 ⟨v68, v69, l70, u67, hw13, rfl⟩
      refine RunC.le hw13 ?_
      replace h : i_ExpMatrix_k3 v68 v69 l70 = some (Sum.inl (q0, q1, q2, q3)) := h
      unfold i_ExpMatrix_k3 at h
      refine zQ<|yd rfl (agg (mXc v68 v69 l70)) (TOp.loadAgg_o rfl agg33 siz33 rfl rfl rfl rfl)<|ys (agg (mXc v68 v69 l70)) (mXc v68 v69 l70) [⟨u67, none⟩, ⟨1, some (mXc v68 v69 l70)⟩, ⟨(u15 + 1), some (mXc v68 v69 l70)⟩, ⟨(u16 + 1), none⟩, ⟨u50, none⟩, ⟨u51, none⟩, ⟨u52, none⟩, ⟨u53, none⟩] siz33<|ya rfl (b true)<|zN ?_
      cases oI h
  ·refine yW<|yd rfl (agg (mXc a0 a1 a2)) (TOp.loadAgg_o rfl agg33 siz33 rfl rfl rfl rfl)<|yd rfl (b true) (TOp.eqb (TOp.callB (CallAs.func ent91 rfl rfl) (Bors.cons (Bor.agg (bP (bP (bS bN)))) bN) rfl rfl (i_isSquare_ok a0 a1 a2 r1 hf1)) hc2)<|yl rfl (b false) y1<|ym rfl (b false)<|ym rfl (i64 a3)<|yd rfl (b false) (TOp.eqb (yc ent85 rfl rfl (bP (bP bN0)) (i_inRange_ok a3 1 32 r2 hf3)) hc4)<|yl rfl (b true) y0<|yl rfl (b true) yp<|zN ?_
   refine yT<|zQ<|yl rfl (agg zMx) (LOp.build (qs := []) zer33 zok33 und33 plc33 rfl trivial rfl)<|ys (agg zMx) zMx [⟨1, some (mXc a0 a1 a2)⟩, ⟨1, some zMx⟩, ⟨0, none⟩, ⟨0, none⟩, ⟨0, none⟩, ⟨0, none⟩, ⟨0, none⟩, ⟨0, none⟩] siz33<|ya rfl (b false)<|zN ?_
   refine RunC.nil_cell (l' := [i64 0, i64 0, oref 2 1 0 0]) (Γ' := [⟨1, some (mXc a0 a1 a2)⟩, ⟨1, some [i64 0, i64 0, oref 2 1 0 0]⟩, ⟨1, some (([] : List F).map f32)⟩, ⟨0, none⟩, ⟨0, none⟩, ⟨0, none⟩, ⟨0, none⟩, ⟨0, none⟩]) 1 2 2 rfl rfl rfl rfl rfl<|RunC.ret ?_
   have hq := oI h
   have hq := Sum.inl.inj hq
   obtain ⟨hq0, hq⟩ := Prod.mk.inj hq
   obtain ⟨hq1, hq⟩ := Prod.mk.inj hq
   obtain ⟨hq2, hq⟩ := Prod.mk.inj hq
   subst q0
   subst q1
   subst q2
   subst q3
   exact yB (tup [agg [i64 0, i64 0, oref 2 1 0 (([] : List F).length)], b false]) [(2, 1)] (Res.eq (Res.two rfl (RV.cell agg33 siz33 rfl rfl rfl rfl) (RV.tmp rfl)) (by rw [(show ([] : List F).length = 0 from rfl)] <;> rfl)) (SelL.arr0 (f := f32) (fun _ => rfl) rfl trivial)
 ·refine yW<|yd rfl (agg (mXc a0 a1 a2)) (TOp.loadAgg_o rfl agg33 siz33 rfl rfl rfl rfl)<|yd rfl (b false) (TOp.eqb (TOp.callB (CallAs.func ent91 rfl rfl) (Bors.cons (Bor.agg (bP (bP (bS bN)))) bN) rfl rfl (i_isSquare_ok a0 a1 a2 r1 hf1)) hc2)<|yl rfl (b true) y0<|ym rfl (b true)<|ROps.s rfl rfl rfl<|ROps.s rfl rfl rfl<|ROps.s rfl rfl rfl<|yl rfl (b true) yq<|zN ?_
  refine yT<|zQ<|yl rfl (agg zMx) (LOp.build (qs := []) zer33 zok33 und33 plc33 rfl trivial rfl)<|ys (agg zMx) zMx [⟨1, some (mXc a0 a1 a2)⟩, ⟨1, some zMx⟩, ⟨0, none⟩, ⟨0, none⟩, ⟨0, none⟩, ⟨0, none⟩, ⟨0, none⟩, ⟨0, none⟩] siz33<|ya rfl (b false)<|zN ?_
  refine RunC.nil_cell (l' := [i64 0, i64 0, oref 2 1 0 0]) (Γ' := [⟨1, some (mXc a0 a1 a2)⟩, ⟨1, some [i64 0, i64 0, oref 2 1 0 0]⟩, ⟨1, some (([] : List F).map f32)⟩, ⟨0, none⟩, ⟨0, none⟩, ⟨0, none⟩, ⟨0, none⟩, ⟨0, none⟩]) 1 2 2 rfl rfl rfl rfl rfl<|RunC.ret ?_
  have hq := oI h
  have hq := Sum.inl.inj hq
  obtain ⟨hq0, hq⟩ := Prod.mk.inj hq
  obtain ⟨hq1, hq⟩ := Prod.mk.inj hq
  obtain ⟨hq2, hq⟩ := Prod.mk.inj hq
  subst q0
  subst q1
  subst q2
  subst q3
  exact yB (tup [agg [i64 0, i64 0, oref 2 1 0 (([] : List F).length)], b false]) [(2, 1)] (Res.eq (Res.two rfl (RV.cell agg33 siz33 rfl rfl rfl rfl) (RV.tmp rfl)) (by rw [(show ([] : List F).length = 0 from rfl)] <;> rfl)) (SelL.arr0 (f := f32) (fun _ => rfl) rfl trivial)
theorem i_ExpMatrix_ok1 (a0 : Int) (a1 : Int) (a2 : List F) (a3 : Int) (q0 : Int) (q1 : Int) (q2 : List F) (q3 : Bool) (h : i_ExpMatrix a0 a1 a2 a3 = some (Sum.inr (q0, q1, q2, q3))) : Ev Try.prog 37 [agg (mXc a0 a1 a2), i64 a3] [] (tup [agg (mXc q0 q1 q2), b q3]) [] := by
 refine yE Try.func37 8 209 0 [(0, agg (mXc a0 a1 a2)), (1, i64 a3)] [⟨0, none⟩, ⟨0, none⟩, ⟨0, none⟩, ⟨0, none⟩, ⟨0, none⟩, ⟨0, none⟩, ⟨0, none⟩, ⟨0, none⟩] rfl ?_
 unfold i_ExpMatrix at h
 refine zQ<|ye rfl (optr 0 1 0) [⟨1, some (mXc a0 a1 a2)⟩, ⟨0, none⟩, ⟨0, none⟩, ⟨0, none⟩, ⟨0, none⟩, ⟨0, none⟩, ⟨0, none⟩, ⟨0, none⟩] (TOp.box_o (g := ⟨0, none⟩) 0 rfl rfl rfl rfl)<|ye rfl (optr 1 1 0) [⟨1, some (mXc a0 a1 a2)⟩, ⟨1, some zMx⟩, ⟨0, none⟩, ⟨0, none⟩, ⟨0, none⟩, ⟨0, none⟩, ⟨0, none⟩, ⟨0, none⟩] (TOp.alloc_o (g := ⟨0, none⟩) 1 rfl zer33 zok33 rfl)<|ya rfl (b false)<|zN ?_
 refine yS<|yS ?_
 obtain ⟨r1, hf1, h⟩ := oS h
 rcases oB h with ⟨hc2, h⟩ | ⟨hc2, h⟩
 ·obtain ⟨r2, hf3, h⟩ := oS h
  rcases oB h with ⟨hc4, h⟩ | ⟨hc4, h⟩
  ·refine yW<|yd rfl (agg (mXc a0 a1 a2)) (TOp.loadAgg_o rfl agg33 siz33 rfl rfl rfl rfl)<|yd rfl (b true) (TOp.eqb (TOp.callB (CallAs.func ent91 rfl rfl) (Bors.cons (Bor.agg (bP (bP (bS bN)))) bN) rfl rfl (i_isSquare_ok a0 a1 a2 r1 hf1)) hc2)<|yl rfl (b false) y1<|ym rfl (b false)<|ym rfl (i64 a3)<|yd rfl (b true) (TOp.eqb (yc ent85 rfl rfl (bP (bP bN0)) (i_inRange_ok a3 1 32 r2 hf3)) hc4)<|yl rfl (b false) y1<|yl rfl (b false) yp<|zN ?_
   refine yF<|RunC.skip<|zQ<|ya rfl (i64 0)<|zN ?_
   refine yS ?_
   obtain ⟨z14, hz_14, h⟩ := oS h
   refine RunC.cutN (fun τ Γ => ∃ (v17 : Int) (v18 : Int) (l19 : List F) (v20 : Int) (u15 : Nat) (u16 : Nat), Le 209 τ Γ [(1, i64 a3), (2, optr 0 1 0), (4, optr 1 1 0), (6, i64 v20)] [⟨1, some (mXc v17 v18 l19)⟩, ⟨1, some zMx⟩, ⟨u15, none⟩, ⟨u16, none⟩, ⟨0, none⟩, ⟨0, none⟩, ⟨0, none⟩, ⟨0, none⟩] ∧ z14 = .inl (v17, v18, l19, v20)) ?_ ?_
   ·refine RunC.block (RunC.loop (RunL.loopM (x := z14) (i_ExpMatrix_s1) (fun (s : Int × Int × (List F) × Int) τ Γ => ∃ (u3 : Nat) (u4 : Nat), Le 209 τ Γ [(1, i64 a3), (2, optr 0 1 0), (4, optr 1 1 0), (6, i64 s.2.2.2)] [⟨1, some [i64 s.1, i64 s.2.1, sl s.2.2.1.length (s.2.2.1.map f32)]⟩, ⟨1, some zMx⟩, ⟨u3, none⟩, ⟨u4, none⟩, ⟨0, none⟩, ⟨0, none⟩, ⟨0, none⟩, ⟨0, none⟩]) ?_ _ _ _ hz_14 ⟨0, 0, (Le.of ⟨aR, aR, aR, aR, trivial⟩ ⟨⟨rfl, .inr rfl⟩, ⟨rfl, .inr rfl⟩, ⟨rfl, .inl rfl⟩, ⟨rfl, .inl rfl⟩, ⟨rfl, .inr rfl⟩, ⟨rfl, .inr rfl⟩, ⟨rfl, .inr rfl⟩, ⟨rfl, .inr rfl⟩, trivial⟩)⟩))
    rintro ⟨v5, v6, l7, v8⟩ τ14 Γ14 y14_ ⟨u3, u4, hw14⟩ h14_ ho14 hr14
    refine RunC.le (τ' := [(1, i64 a3), (2, optr 0 1 0), (4, optr 1 1 0), (6, i64 v8)]) (Γ' := [⟨1, some (mXc v5 v6 l7)⟩, ⟨1, some zMx⟩, ⟨u3, none⟩, ⟨u4, none⟩, ⟨0, none⟩, ⟨0, none⟩, ⟨0, none⟩, ⟨0, none⟩]) hw14 ?_
    replace h14_ : i_ExpMatrix_b1 v5 v6 l7 v8 = some y14_ := h14_
    unfold i_ExpMatrix_b1 at h14_
    refine RunC.block<|yS ?_
    obtain ⟨r9, r10, hf5, h14_⟩ := obind2_some h14_
    rcases oB h14_ with ⟨hc6, h14_⟩ | ⟨hc6, h14_⟩
    ·refine yW<|yd rfl (agg (mXc v5 v6 l7)) (TOp.loadAgg_o rfl agg33 siz33 rfl rfl rfl rfl)<|yd rfl (tup [f32 r9, b r10]) (TOp.callB (CallAs.func ent97 rfl rfl) (Bors.cons (Bor.agg (bP (bP (bS bN)))) bN) rfl rfl (i_RowNorm_ok v5 v6 l7 r9 r10 hf5))<|ym rfl (tup [f32 r9, b r10])<|yl rfl (f32 r9) y3<|yl rfl (b true) (LOp.eqb y3 hc6)<|ya rfl (f32 r9)<|ya rfl (b true)<|zN ?_
     refine yS<|zQ<|ym rfl (b true)<|yl rfl (b false) y1<|zN ?_
     refine yF<|RunC.skip<|yS<|yS ?_
     rcases oB h14_ with ⟨hc7, h14_⟩ | ⟨hc7, h14_⟩
     ·rcases oB h14_ with ⟨hc8, h14_⟩ | ⟨hc8, h14_⟩
      ·refine yW<|ym rfl (f32 r9)<|yl rfl (b true) (LOp.eqb (LOp.fgt rfl (OpF.tmp rfl) (OpF.const rfl (by kernel_rfl) (by kernel_rfl))) hc7)<|yl rfl (b false) y1<|ym rfl (b false)<|ym rfl (i64 v8)<|yl rfl (b true) (LOp.eqb (LOp.eql rfl rfl rfl) hc8)<|yl rfl (b true) yp<|zN ?_
       refine RunC.wl (τ' := [(1, i64 a3), (2, optr 0 1 0), (4, optr 1 1 0), (6, i64 v8), (39, i64 v8), (40, b true), (41, b true)]) (Γ' := [⟨1, some (mXc v5 v6 l7)⟩, ⟨1, some zMx⟩, ⟨u3, none⟩, ⟨u4, none⟩, ⟨0, none⟩, ⟨0, none⟩, ⟨0, none⟩, ⟨0, none⟩]) ⟨aR, aR, aR, aR, aR, aR, aR, trivial⟩ ⟨⟨rfl, .inr rfl⟩, ⟨rfl, .inr rfl⟩, ⟨rfl, .inl rfl⟩, ⟨rfl, .inl rfl⟩, ⟨rfl, .inr rfl⟩, ⟨rfl, .inr rfl⟩, ⟨rfl, .inr rfl⟩, ⟨rfl, .inr rfl⟩, trivial⟩<|yT<|RunC.exit ?_
       cases oI h14_
       have hx := ho14 _ rfl
       exact ⟨v5, v6, l7, v8, u3, u4, (Le.of ⟨aR, aR, aR, aR, trivial⟩ ⟨⟨rfl, .inr rfl⟩, ⟨rfl, .inr rfl⟩, ⟨rfl, .inl rfl⟩, ⟨rfl, .inl rfl⟩, ⟨rfl, .inr rfl⟩, ⟨rfl, .inr rfl⟩, ⟨rfl, .inr rfl⟩, ⟨rfl, .inr rfl⟩, trivial⟩), hx⟩
      ·refine yW<|ym rfl (f32 r9)<|yl rfl (b true) (LOp.eqb (LOp.fgt rfl (OpF.tmp rfl) (OpF.const rfl (by kernel_rfl) (by kernel_rfl))) hc7)<|yl rfl (b false) y1<|ym rfl (b false)<|ym rfl (i64 v8)<|yl rfl (b false) (LOp.eqb (LOp.eql rfl rfl rfl) hc8)<|yl rfl (b false) yp<|zN ?_
       refine RunC.wl (τ' := [(1, i64 a3), (2, optr 0 1 0), (4, optr 1 1 0), (6, i64 v8), (39, i64 v8), (40, b false), (41, b false)]) (Γ' := [⟨1, some (mXc v5 v6 l7)⟩, ⟨1, some zMx⟩, ⟨u3, none⟩, ⟨u4, none⟩, ⟨0, none⟩, ⟨0, none⟩, ⟨0, none⟩, ⟨0, none⟩]) ⟨aR, aR, aR, aR, aR, aR, aR, trivial⟩ ⟨⟨rfl, .inr rfl⟩, ⟨rfl, .inr rfl⟩, ⟨rfl, .inl rfl⟩, ⟨rfl, .inl rfl⟩, ⟨rfl, .inr rfl⟩, ⟨rfl, .inr rfl⟩, ⟨rfl, .inr rfl⟩, ⟨rfl, .inr rfl⟩, trivial⟩<|yF<|RunC.skip<|zQ<|yd rfl (agg (mXc v5 v6 l7)) (TOp.loadAgg_o rfl agg33 siz33 rfl rfl rfl rfl)<|ye rfl (optr 2 (u3 + 1) 0) [⟨1, some (mXc v5 v6 l7)⟩, ⟨1, some zMx⟩, ⟨(u3 + 1), some zMx⟩, ⟨u4, none⟩, ⟨0, none⟩, ⟨0, none⟩, ⟨0, none⟩, ⟨0, none⟩] (TOp.alloc_o (g := ⟨u3, none⟩) 2 rfl zer33 zok33 rfl)<|ys (agg (mXc v5 v6 l7)) (mXc v5 v6 l7) [⟨1, some (mXc v5 v6 l7)⟩, ⟨1, some zMx⟩, ⟨(u3 + 1), some (mXc v5 v6 l7)⟩, ⟨u4, none⟩, ⟨0, none⟩, ⟨0, none⟩, ⟨0, none⟩, ⟨0, none⟩] siz33<|zN ?_
       refine yS ?_
       obtain ⟨r11, r12, r13, hf9, h14_⟩ := obind3_some h14_
       refine yW<|yl rfl (optr 0 1 0) (LOp.fao und33 rfl siz2 rfl rfl rfl)<|yd rfl (i64 v5) (TOp.load1_o rfl rfl agg2 rfl rfl)<|yl rfl (optr 0 1 0) (LOp.fao und33 rfl siz2 rfl rfl rfl)<|yd rfl (i64 v5) (TOp.load1_o rfl rfl agg2 rfl rfl)<|yl rfl (fn (.func 98) [] [optr 2 (u3 + 1) 0]) (LOp.makeFunc rfl rfl)<|ye rfl (agg [i64 r11, i64 r12, oref 3 (u4 + 1) 0 r13.length]) [⟨1, some (mXc v5 v6 l7)⟩, ⟨1, some zMx⟩, ⟨(u3 + 1), some (mXc v5 v6 l7)⟩, ⟨(u4 + 1), some (r13.map f32)⟩, ⟨0, none⟩, ⟨0, none⟩, ⟨0, none⟩, ⟨0, none⟩] (TOp.eqr (TOp.callBN (ls := [(r13.map f32)]) [3] (CallAs.func ent64 rfl rfl) (bP (bP (Bors.cons (Bor.fn bN (Bors.cons (Bor.optr rfl (Bors.p (bP (bP (bS bN)))) rfl) bN)) bN))) rfl (i_made_2Fi_ExpMatrix_1_ok v5 v5 v5 v6 l7 r11 r12 r13 hf9) (and_all (lts0_map (f := f32) (fun _ => rfl) _) rfl) (and_all (noss_map (f := f32) (fun _ => rfl) _) rfl) rfl (by decide) (ns_of ⟨⟨_, rfl⟩, trivial⟩)) (by simp [ren, rens, sigma, newNames]))<|ys (agg [i64 r11, i64 r12, oref 3 (u4 + 1) 0 r13.length]) [i64 r11, i64 r12, oref 3 (u4 + 1) 0 r13.length] ([⟨1, some [i64 r11, i64 r12, oref 3 (u4 + 1) 0 r13.length]⟩, ⟨1, some zMx⟩, ⟨(u3 + 1), some (mXc v5 v6 l7)⟩, ⟨(u4 + 1), some (r13.map f32)⟩, ⟨0, none⟩, ⟨0, none⟩, ⟨0, none⟩, ⟨0, none⟩]) siz33<|zN ?_
       refine RunC.wl (τ' := [(1, i64 a3), (2, optr 0 1 0), (4, optr 1 1 0), (6, i64 v8), (39, i64 v8), (40, b false)]) (Γ' := [⟨1, some [i64 r11, i64 r12, oref 3 (u4 + 1) 0 r13.length]⟩, ⟨1, some zMx⟩, ⟨(u3 + 1), none⟩, ⟨(u4 + 1), some (r13.map f32)⟩, ⟨0, none⟩, ⟨0, none⟩, ⟨0, none⟩, ⟨0, none⟩]) ⟨aR, aR, aR, aR, aR, aR, trivial⟩ ⟨⟨rfl, .inr rfl⟩, ⟨rfl, .inr rfl⟩, ⟨rfl, .inl rfl⟩, ⟨rfl, .inr rfl⟩, ⟨rfl, .inr rfl⟩, ⟨rfl, .inr rfl⟩, ⟨rfl, .inr rfl⟩, ⟨rfl, .inr rfl⟩, trivial⟩ ?_
       obtain ⟨x14, hx10, h14_⟩ := oL h14_
       refine yW<|ym rfl (i64 v8)<|yl rfl (i64 x14) (LOp.eqr (LOp.add rfl rfl rfl) (congrArg (ik .i64) hx10))<|ya rfl (i64 x14)<|zN ?_
       cases oI h14_
       exact ⟨_, rfl, (u3 + 1), (u4 + 1), (Le.trans (Le.settleG 3 [(1, i64 a3), (2, optr 0 1 0), (4, optr 1 1 0), (6, i64 x14)] [⟨1, some (mXc r11 r12 r13)⟩, ⟨1, some zMx⟩, ⟨(u3 + 1), none⟩, ⟨(u4 + 1), none⟩, ⟨0, none⟩, ⟨0, none⟩, ⟨0, none⟩, ⟨0, none⟩] rfl rfl rfl ⟨.inr ⟨rfl, .inr ⟨_, _, rfl, rfl, ⟨.inl rfl, .inl rfl, .inr (Bor.own (f := f32) (fun _ => rfl) rfl rfl), trivial⟩⟩⟩, ⟨.inl rfl, ⟨.inl rfl, ⟨.inr ⟨rfl, .inl rfl⟩, ⟨.inl rfl, ⟨.inl rfl, ⟨.inl rfl, ⟨.inl rfl, trivial⟩⟩⟩⟩⟩⟩⟩⟩ ⟨.inl rfl, .inl rfl, .inl rfl, .inl rfl, trivial⟩) (Le.of ⟨aR, aR, aR, aR, trivial⟩ ⟨⟨rfl, .inr rfl⟩, ⟨rfl, .inr rfl⟩, ⟨rfl, .inl rfl⟩, ⟨rfl, .inl rfl⟩, ⟨rfl, .inr rfl⟩, ⟨rfl, .inr rfl⟩, ⟨rfl, .inr rfl⟩, ⟨rfl, .inr rfl⟩, trivial⟩))⟩
     ·refine yW<|ym rfl (f32 r9)<|yl rfl (b false) (LOp.eqb (LOp.fgt rfl (OpF.tmp rfl) (OpF.const rfl (by kernel_rfl) (by kernel_rfl))) hc7)<|yl rfl (b true) y0<|ym rfl (b true)<|ROps.s rfl rfl rfl<|ROps.s rfl rfl rfl<|yl rfl (b true) yq<|zN ?_
      refine RunC.wl (τ' := [(1, i64 a3), (2, optr 0 1 0), (4, optr 1 1 0), (6, i64 v8), (41, b true)]) (Γ' := [⟨1, some (mXc v5 v6 l7)⟩, ⟨1, some zMx⟩, ⟨u3, none⟩, ⟨u4, none⟩, ⟨0, none⟩, ⟨0, none⟩, ⟨0, none⟩, ⟨0, none⟩]) ⟨aR, aR, aR, aR, aR, trivial⟩ ⟨⟨rfl, .inr rfl⟩, ⟨rfl, .inr rfl⟩, ⟨rfl, .inl rfl⟩, ⟨rfl, .inl rfl⟩, ⟨rfl, .inr rfl⟩, ⟨rfl, .inr rfl⟩, ⟨rfl, .inr rfl⟩, ⟨rfl, .inr rfl⟩, trivial⟩<|yT<|RunC.exit ?_
      cases oI h14_
      have hx := ho14 _ rfl
      exact ⟨v5, v6, l7, v8, u3, u4, (Le.of ⟨aR, aR, aR, aR, trivial⟩ ⟨⟨rfl, .inr rfl⟩, ⟨rfl, .inr rfl⟩, ⟨rfl, .inl rfl⟩, ⟨rfl, .inl rfl⟩, ⟨rfl, .inr rfl⟩, ⟨rfl, .inr rfl⟩, ⟨rfl, .inr rfl⟩, ⟨rfl, .inr rfl⟩, trivial⟩), hx⟩
    ·refine yW<|yd rfl (agg (mXc v5 v6 l7)) (TOp.loadAgg_o rfl agg33 siz33 rfl rfl rfl rfl)<|yd rfl (tup [f32 r9, b r10]) (TOp.callB (CallAs.func ent97 rfl rfl) (Bors.cons (Bor.agg (bP (bP (bS bN)))) bN) rfl rfl (i_RowNorm_ok v5 v6 l7 r9 r10 hf5))<|ym rfl (tup [f32 r9, b r10])<|yl rfl (f32 r9) y3<|yl rfl (b false) (LOp.eqb y3 hc6)<|ya rfl (f32 r9)<|ya rfl (b false)<|zN ?_
     refine yS<|zQ<|ym rfl (b false)<|yl rfl (b true) y0<|zN ?_
     refine yT<|zQ<|yl rfl (agg zMx) (LOp.build (qs := []) zer33 zok33 und33 plc33 rfl trivial rfl)<|ys (agg zMx) zMx [⟨1, some (mXc v5 v6 l7)⟩, ⟨1, some zMx⟩, ⟨u3, none⟩, ⟨u4, none⟩, ⟨0, none⟩, ⟨0, none⟩, ⟨0, none⟩, ⟨0, none⟩] siz33<|ya rfl (b false)<|zN ?_
     cases oI h14_
     have hx15_ := hr14 _ rfl
     subst hx15_
     cases oI h
   ·rintro τ16 Γ16 ⟨v17, v18, l19, v20, u15, u16, hw16, rfl⟩
    refine RunC.le hw16 ?_
    replace h : i_ExpMatrix_k1 a3 v17 v18 l19 v20 = some (Sum.inr (q0, q1, q2, q3)) := h
    unfold i_ExpMatrix_k1 at h
    refine yS ?_
    obtain ⟨r21, r22, r23, hf11, h⟩ := obind3_some h
    obtain ⟨r24, r25, r26, hf12, h⟩ := obind3_some h
    refine RunC.region_draw (Γ' := [⟨1, some (mXc v17 v18 l19)⟩, ⟨1, some zMx⟩, ⟨(u15 + 1), some zMx⟩, ⟨(u16 + 1), some zMx⟩, ⟨0, none⟩, ⟨0, none⟩, ⟨0, none⟩, ⟨0, none⟩]) 8 mixed 
     (tl rfl (optr 0 1 0) (LOp.fao und33 rfl siz2 rfl rfl rfl) <|
     (TR.d (r := i64 v17) (fs := []) rfl rfl (TOp.load1_o rfl rfl agg2 rfl rfl) <|
     (TR.d (r := agg (mXc r21 r22 r23)) (fs := []) rfl rfl (TOp.callS (CallAs.func ent99 rfl rfl) (ALes.cons aR ALes.nil) (lts_cons rfl lts_nil) (lt_agg (lts_cons rfl (lts_cons rfl (lts_cons (lt_sl (fun _ => rfl)) lts_nil)))) (i_unit_ok v17 r21 r22 r23 hf11) (Bor.agg (bP (bP (Bors.cons (Bor.own (f := f32) (fun _ => rfl) rfl rfl) bN))))) <|
     (tl rfl (optr 0 1 0) (LOp.fao und33 rfl siz2 rfl rfl rfl) <|
     (TR.d (r := i64 v17) (fs := []) rfl rfl (TOp.load1_o rfl rfl agg2 rfl rfl) <|
     (TR.d (r := agg (mXc r24 r25 r26)) (fs := []) rfl rfl (TOp.callS (CallAs.func ent99 rfl rfl) (ALes.cons aR ALes.nil) (lts_cons rfl lts_nil) (lt_agg (lts_cons rfl (lts_cons rfl (lts_cons (lt_sl (fun _ => rfl)) lts_nil)))) (i_unit_ok v17 r24 r25 r26 hf12) (Bor.agg (bP (bP (Bors.cons (Bor.own (f := f32) (fun _ => rfl) rfl rfl) bN))))) <|
     (TR.d (r := optr 2 (u15 + 1) 0) (fs := [(2, zMx)]) rfl rfl (TOp.alloc_o (g := ⟨u15, none⟩) 2 rfl zer33 zok33 rfl) <|
     (TR.d (r := optr 3 (u16 + 1) 0) (fs := [(3, zMx)]) rfl rfl (TOp.alloc_o (g := ⟨u16, none⟩) 3 rfl zer33 zok33 rfl) <|
     TR.nil)))))))) rfl (by kernel_rfl) rfl (fills_of (by show List.Nodup [2, 3]; decide) ⟨⟨_, rfl⟩, ⟨_, rfl⟩, trivial⟩) rfl ?_
    iterate 8 refine ROps.dropS ?_
    refine ROps.drop0<|ys (agg (mXc r21 r22 r23)) (mXc r21 r22 r23) [⟨1, some (mXc v17 v18 l19)⟩, ⟨1, some zMx⟩, ⟨(u15 + 1), some (mXc r21 r22 r23)⟩, ⟨(u16 + 1), some zMx⟩, ⟨0, none⟩, ⟨0, none⟩, ⟨0, none⟩, ⟨0, none⟩] siz33<|ys (agg (mXc r24 r25 r26)) (mXc r24 r25 r26) [⟨1, some (mXc v17 v18 l19)⟩, ⟨1, some zMx⟩, ⟨(u15 + 1), some (mXc r21 r22 r23)⟩, ⟨(u16 + 1), some (mXc r24 r25 r26)⟩, ⟨0, none⟩, ⟨0, none⟩, ⟨0, none⟩, ⟨0, none⟩] siz33<|zN ?_
    refine yS<|zQ<|ye rfl (optr 4 1 0) ([⟨1, some (mXc v17 v18 l19)⟩, ⟨1, some zMx⟩, ⟨(u15 + 1), some (mXc r21 r22 r23)⟩, ⟨(u16 + 1), some (mXc r24 r25 r26)⟩, ⟨1, some [i64 0]⟩, ⟨0, none⟩, ⟨0, none⟩, ⟨0, none⟩]) (TOp.alloc_o (g := ⟨0, none⟩) 4 rfl zer2 zok2 rfl)<|ys (i64 1) [i64 1] ([⟨1, some (mXc v17 v18 l19)⟩, ⟨1, some zMx⟩, ⟨(u15 + 1), some (mXc r21 r22 r23)⟩, ⟨(u16 + 1), some (mXc r24 r25 r26)⟩, ⟨1, some [i64 1]⟩, ⟨0, none⟩, ⟨0, none⟩, ⟨0, none⟩]) siz2<|zN ?_
    obtain ⟨z17, hz_17, h⟩ := oS h
    refine RunC.cutN (fun τ Γ => ∃ (v54 : Int) (v55 : Int) (l56 : List F) (u50 : Nat) (u51 : Nat) (u52 : Nat) (u53 : Nat), Le 209 τ Γ [(4, optr 1 1 0), (6, i64 v20), (10, optr 2 (u15 + 1) 0)] [⟨1, none⟩, ⟨1, some zMx⟩, ⟨(u15 + 1), some (mXc v54 v55 l56)⟩, ⟨(u16 + 1), none⟩, ⟨u50, none⟩, ⟨u51, none⟩, ⟨u52, none⟩, ⟨u53, none⟩] ∧ z17 = .inl (v54, v55, l56)) ?_ ?_
    ·refine RunC.block (RunC.loop (RunL.loopM (x := z17) (i_ExpMatrix_s2 a3 v17 v18 l19) (fun (s : Int × Int × (List F) × Int × Int × (List F) × Int) τ Γ => ∃ (u27 : Nat) (u28 : Nat) (u29 : Nat) (u30 : Nat), Le 209 τ Γ [(1, i64 a3), (2, optr 0 1 0), (4, optr 1 1 0), (6, i64 v20), (10, optr 2 (u15 + 1) 0), (11, optr 3 (u16 + 1) 0), (12, optr 4 u27 0)] [⟨1, some (mXc v17 v18 l19)⟩, ⟨1, some zMx⟩, ⟨(u15 + 1), some [i64 s.1, i64 s.2.1, sl s.2.2.1.length (s.2.2.1.map f32)]⟩, ⟨(u16 + 1), some [i64 s.2.2.2.1, i64 s.2.2.2.2.1, sl s.2.2.2.2.2.1.length (s.2.2.2.2.2.1.map f32)]⟩, ⟨u27, some [i64 s.2.2.2.2.2.2]⟩, ⟨u28, none⟩, ⟨u29, none⟩, ⟨u30, none⟩]) ?_ _ _ _ hz_17 ⟨1, 0, 0, 0, (Le.of ⟨aR, aR, aR, aR, aR, aR, aR, trivial⟩ ⟨⟨rfl, .inr rfl⟩, ⟨rfl, .inr rfl⟩, ⟨rfl, .inr rfl⟩, ⟨rfl, .inr rfl⟩, ⟨rfl, .inr rfl⟩, ⟨rfl, .inl rfl⟩, ⟨rfl, .inl rfl⟩, ⟨rfl, .inl rfl⟩, trivial⟩)⟩))
     rintro ⟨v31, v32, l33, v34, v35, l36, v37⟩ τ17 Γ17 y17_ ⟨u27, u28, u29, u30, hw17⟩ h17_ ho17 hr17
     refine RunC.le (τ' := [(1, i64 a3), (2, optr 0 1 0), (4, optr 1 1 0), (6, i64 v20), (10, optr 2 (u15 + 1) 0), (11, optr 3 (u16 + 1) 0), (12, optr 4 u27 0)]) (Γ' := [⟨1, some (mXc v17 v18 l19)⟩, ⟨1, some zMx⟩, ⟨(u15 + 1), some (mXc v31 v32 l33)⟩, ⟨(u16 + 1), some (mXc v34 v35 l36)⟩, ⟨u27, some [i64 v37]⟩, ⟨u28, none⟩, ⟨u29, none⟩, ⟨u30, none⟩]) hw17 ?_
     replace h17_ : i_ExpMatrix_b2 a3 v17 v18 l19 v31 v32 l33 v34 v35 l36 v37 = some y17_ := h17_
     unfold i_ExpMatrix_b2 at h17_
     refine yS<|yS ?_
     rcases oB h17_ with ⟨hc13, h17_⟩ | ⟨hc13, h17_⟩
     ·refine yW<|yd rfl (i64 v37) (TOp.load1_o rfl rfl agg2 rfl rfl)<|ym rfl (i64 a3)<|yl rfl (b true) (LOp.eqb (LOp.leq rfl rfl rfl) hc13)<|zN ?_
      refine yT<|RunC.skip<|yS<|RunC.block<|yS ?_
      obtain ⟨r38, r39, r40, r41, hf14, h17_⟩ := obind4_some h17_
      rcases oB h17_ with ⟨hc15, h17_⟩ | ⟨hc15, h17_⟩
      ·refine yW<|yd rfl (agg (mXc v34 v35 l36)) (TOp.loadAgg_o rfl agg33 siz33 rfl rfl rfl rfl)<|yd rfl (agg (mXc v17 v18 l19)) (TOp.loadAgg_o rfl agg33 siz33 rfl rfl rfl rfl)<|yd rfl (tup [agg (mXc r38 r39 r41), b r40]) (TOp.callS (CallAs.func ent95 rfl rfl) (ALes.cons aR (ALes.cons aR ALes.nil)) (lts_cons (lt_agg (lts_cons rfl (lts_cons rfl (lts_cons (lt_sl (fun _ => rfl)) lts_nil)))) (lts_cons (lt_agg (lts_cons rfl (lts_cons rfl (lts_cons (lt_sl (fun _ => rfl)) lts_nil)))) lts_nil)) (lt_tup (lts_cons (lt_agg (lts_cons rfl (lts_cons rfl (lts_cons (lt_sl (fun _ => rfl)) lts_nil)))) (lts_cons rfl lts_nil))) (i_MulMatrices_ok v34 v35 l36 v17 v18 l19 r38 r39 r40 r41 hf14) (Bor.tup (Bors.cons (Bor.agg (bP (bP (Bors.cons (Bor.own (f := f32) (fun _ => rfl) rfl rfl) bN)))) bN0)))<|ym rfl (tup [agg (mXc r38 r39 r41), b r40])<|yl rfl (agg (mXc r38 r39 r41)) y3<|yl rfl (b true) (LOp.eqb y3 hc15)<|ye rfl (optr 5 (u28 + 1) 0) ([⟨1, some (mXc v17 v18 l19)⟩, ⟨1, some zMx⟩, ⟨(u15 + 1), some (mXc v31 v32 l33)⟩, ⟨(u16 + 1), some (mXc v34 v35 l36)⟩, ⟨u27, some [i64 v37]⟩, ⟨(u28 + 1), some zMx⟩, ⟨u29, none⟩, ⟨u30, none⟩]) (TOp.alloc_o (g := ⟨u28, none⟩) 5 rfl zer33 zok33 rfl)<|ys (agg (mXc r38 r39 r41)) (mXc r38 r39 r41) ([⟨1, some (mXc v17 v18 l19)⟩, ⟨1, some zMx⟩, ⟨(u15 + 1), some (mXc v31 v32 l33)⟩, ⟨(u16 + 1), some (mXc v34 v35 l36)⟩, ⟨u27, some [i64 v37]⟩, ⟨(u28 + 1), some (mXc r38 r39 r41)⟩, ⟨u29, none⟩, ⟨u30, none⟩]) siz33<|ya rfl (b true)<|zN ?_
       refine yS<|zQ<|ym rfl (b true)<|yl rfl (b false) y1<|zN ?_
       refine yF<|RunC.skip<|yS ?_
       obtain ⟨r42, r43, r44, hf16, h17_⟩ := obind3_some h17_
       refine yW<|yl rfl (optr 0 1 0) (LOp.fao und33 rfl siz2 rfl rfl rfl)<|yd rfl (i64 v17) (TOp.load1_o rfl rfl agg2 rfl rfl)<|yl rfl (optr 0 1 0) (LOp.fao und33 rfl siz2 rfl rfl rfl)<|yd rfl (i64 v17) (TOp.load1_o rfl rfl agg2 rfl rfl)<|yl rfl (fn (.func 100) [] [optr 5 (u28 + 1) 0, optr 4 u27 0]) (LOp.makeFunc rfl rfl)<|ye rfl (agg [i64 r42, i64 r43, oref 6 (u29 + 1) 0 r44.length]) ([⟨1, some (mXc v17 v18 l19)⟩, ⟨1, some zMx⟩, ⟨(u15 + 1), some (mXc v31 v32 l33)⟩, ⟨(u16 + 1), some (mXc v34 v35 l36)⟩, ⟨u27, some [i64 v37]⟩, ⟨(u28 + 1), some (mXc r38 r39 r41)⟩, ⟨(u29 + 1), some (r44.map f32)⟩, ⟨u30, none⟩]) (TOp.eqr (TOp.callBN (ls := [(r44.map f32)]) [6] (CallAs.func ent64 rfl rfl) (bP (bP (Bors.cons (Bor.fn bN (Bors.cons (Bor.optr rfl (Bors.p (bP (bP (bS bN)))) rfl) (Bors.cons (Bor.optr rfl (Bors.p bN0) rfl) bN))) bN))) rfl (i_made_2Fi_ExpMatrix_2_ok v17 v17 r38 r39 r41 v37 r42 r43 r44 hf16) (and_all (lts0_map (f := f32) (fun _ => rfl) _) rfl) (and_all (noss_map (f := f32) (fun _ => rfl) _) rfl) rfl (by decide) (ns_of ⟨⟨_, rfl⟩, trivial⟩)) (by simp [ren, rens, sigma, newNames]))<|ys (agg [i64 r42, i64 r43, oref 6 (u29 + 1) 0 r44.length]) [i64 r42, i64 r43, oref 6 (u29 + 1) 0 r44.length] ([⟨1, some (mXc v17 v18 l19)⟩, ⟨1, some zMx⟩, ⟨(u15 + 1), some (mXc v31 v32 l33)⟩, ⟨(u16 + 1), some [i64 r42, i64 r43, oref 6 (u29 + 1) 0 r44.length]⟩, ⟨u27, some [i64 v37]⟩, ⟨(u28 + 1), some (mXc r38 r39 r41)⟩, ⟨(u29 + 1), some (r44.map f32)⟩, ⟨u30, none⟩]) siz33<|zN ?_
       refine RunC.wl (τ' := [(1, i64 a3), (2, optr 0 1 0), (4, optr 1 1 0), (6, i64 v20), (10, optr 2 (u15 + 1) 0), (11, optr 3 (u16 + 1) 0), (12, optr 4 u27 0)]) (Γ' := [⟨1, some (mXc v17 v18 l19)⟩, ⟨1, some zMx⟩, ⟨(u15 + 1), some (mXc v31 v32 l33)⟩, ⟨(u16 + 1), some [i64 r42, i64 r43, oref 6 (u29 + 1) 0 r44.length]⟩, ⟨u27, some [i64 v37]⟩, ⟨(u28 + 1), none⟩, ⟨(u29 + 1), some (r44.map f32)⟩, ⟨u30, none⟩]) ⟨aR, aR, aR, aR, aR, aR, aR, trivial⟩ ⟨⟨rfl, .inr rfl⟩, ⟨rfl, .inr rfl⟩, ⟨rfl, .inr rfl⟩, ⟨rfl, .inr rfl⟩, ⟨rfl, .inr rfl⟩, ⟨rfl, .inl rfl⟩, ⟨rfl, .inr rfl⟩, ⟨rfl, .inl rfl⟩, trivial⟩<|zQ<|yd rfl (agg (mXc v31 v32 l33)) (TOp.loadAgg_o rfl agg33 siz33 rfl rfl rfl rfl)<|ye rfl (optr 5 (u28 + 2) 0) ([⟨1, some (mXc v17 v18 l19)⟩, ⟨1, some zMx⟩, ⟨(u15 + 1), some (mXc v31 v32 l33)⟩, ⟨(u16 + 1), some [i64 r42, i64 r43, oref 6 (u29 + 1) 0 r44.length]⟩, ⟨u27, some [i64 v37]⟩, ⟨(u28 + 2), some zMx⟩, ⟨(u29 + 1), some (r44.map f32)⟩, ⟨u30, none⟩]) (TOp.alloc_o (g := ⟨(u28 + 1), none⟩) 5 rfl zer33 zok33 rfl)<|ys (agg (mXc v31 v32 l33)) (mXc v31 v32 l33) ([⟨1, some (mXc v17 v18 l19)⟩, ⟨1, some zMx⟩, ⟨(u15 + 1), some (mXc v31 v32 l33)⟩, ⟨(u16 + 1), some [i64 r42, i64 r43, oref 6 (u29 + 1) 0 r44.length]⟩, ⟨u27, some [i64 v37]⟩, ⟨(u28 + 2), some (mXc v31 v32 l33)⟩, ⟨(u29 + 1), some (r44.map f32)⟩, ⟨u30, none⟩]) siz33<|zN ?_
       refine yS ?_
       obtain ⟨r45, r46, r47, hf17, h17_⟩ := obind3_some h17_
       refine yW<|yl rfl (optr 0 1 0) (LOp.fao und33 rfl siz2 rfl rfl rfl)<|yd rfl (i64 v17) (TOp.load1_o rfl rfl agg2 rfl rfl)<|yl rfl (optr 0 1 0) (LOp.fao und33 rfl siz2 rfl rfl rfl)<|yd rfl (i64 v17) (TOp.load1_o rfl rfl agg2 rfl rfl)<|yl rfl (fn (.func 101) [] [optr 5 (u28 + 2) 0, optr 3 (u16 + 1) 0]) (LOp.makeFunc rfl rfl)<|ye rfl (agg [i64 r45, i64 r46, oref 7 (u30 + 1) 0 r47.length]) ([⟨1, some (mXc v17 v18 l19)⟩, ⟨1, some zMx⟩, ⟨(u15 + 1), some (mXc v31 v32 l33)⟩, ⟨(u16 + 1), some [i64 r42, i64 r43, oref 6 (u29 + 1) 0 r44.length]⟩, ⟨u27, some [i64 v37]⟩, ⟨(u28 + 2), some (mXc v31 v32 l33)⟩, ⟨(u29 + 1), some (r44.map f32)⟩, ⟨(u30 + 1), some (r47.map f32)⟩]) (TOp.eqr (TOp.callBN (ls := [(r47.map f32)]) [7] (CallAs.func ent64 rfl rfl) (bP (bP (Bors.cons (Bor.fn bN (Bors.cons (Bor.optr rfl (Bors.p (bP (bP (bS bN)))) rfl) (Bors.cons (Bor.optr rfl (Bors.p (bP (bP (Bors.cons (Bor.own (f := f32) (fun _ => rfl) rfl rfl) bN)))) rfl) bN))) bN))) rfl (i_made_2Fi_ExpMatrix_3_ok v17 v17 v31 v32 l33 r42 r43 r44 r45 r46 r47 hf17) (and_all (lts0_map (f := f32) (fun _ => rfl) _) rfl) (and_all (noss_map (f := f32) (fun _ => rfl) _) rfl) rfl (by decide) (ns_of ⟨⟨_, rfl⟩, trivial⟩)) (by simp [ren, rens, sigma, newNames]))<|ys (agg [i64 r45, i64 r46, oref 7 (u30 + 1) 0 r47.length]) [i64 r45, i64 r46, oref 7 (u30 + 1) 0 r47.length] ([⟨1, some (mXc v17 v18 l19)⟩, ⟨1, some zMx⟩, ⟨(u15 + 1), some [i64 r45, i64 r46, oref 7 (u30 + 1) 0 r47.length]⟩, ⟨(u16 + 1), some [i64 r42, i64 r43, oref 6 (u29 + 1) 0 r44.length]⟩, ⟨u27, some [i64 v37]⟩, ⟨(u28 + 2), some (mXc v31 v32 l33)⟩, ⟨(u29 + 1), some (r44.map f32)⟩, ⟨(u30 + 1), some (r47.map f32)⟩]) siz33<|zN ?_
       refine RunC.wl (τ' := [(1, i64 a3), (2, optr 0 1 0), (4, optr 1 1 0), (6, i64 v20), (10, optr 2 (u15 + 1) 0), (11, optr 3 (u16 + 1) 0), (12, optr 4 u27 0)]) (Γ' := [⟨1, some (mXc v17 v18 l19)⟩, ⟨1, some zMx⟩, ⟨(u15 + 1), some [i64 r45, i64 r46, oref 7 (u30 + 1) 0 r47.length]⟩, ⟨(u16 + 1), some [i64 r42, i64 r43, oref 6 (u29 + 1) 0 r44.length]⟩, ⟨u27, some [i64 v37]⟩, ⟨(u28 + 2), none⟩, ⟨(u29 + 1), some (r44.map f32)⟩, ⟨(u30 + 1), some (r47.map f32)⟩]) ⟨aR, aR, aR, aR, aR, aR, aR, trivial⟩ ⟨⟨rfl, .inr rfl⟩, ⟨rfl, .inr rfl⟩, ⟨rfl, .inr rfl⟩, ⟨rfl, .inr rfl⟩, ⟨rfl, .inr rfl⟩, ⟨rfl, .inl rfl⟩, ⟨rfl, .inr rfl⟩, ⟨rfl, .inr rfl⟩, trivial⟩<|yS ?_
       obtain ⟨r48, hf18, h17_⟩ := oS h17_
       rcases oB h17_ with ⟨hc19, h17_⟩ | ⟨hc19, h17_⟩
       ·refine yW<|yd rfl (agg [i64 r45, i64 r46, oref 7 (u30 + 1) 0 r47.length]) (TOp.loadAgg_o rfl agg33 siz33 rfl rfl rfl rfl)<|yd rfl (b true) (TOp.eqb (TOp.callB (CallAs.func ent102 rfl rfl) (Bors.cons (Bor.agg (bP (bP (Bors.cons (Bor.own (f := f32) (fun _ => rfl) rfl rfl) bN)))) bN) rfl rfl (i_ValidMatrix_ok r45 r46 r47 r48 hf18)) hc19)<|yl rfl (b false) y1<|zN ?_
        refine yF<|RunC.skip<|yS<|zQ<|yd rfl (i64 v37) (TOp.load1_o rfl rfl agg2 rfl rfl)<|zN ?_
        refine RunC.wl (τ' := [(1, i64 a3), (2, optr 0 1 0), (4, optr 1 1 0), (6, i64 v20), (10, optr 2 (u15 + 1) 0), (11, optr 3 (u16 + 1) 0), (88, i64 v37)]) (Γ' := [⟨1, some (mXc v17 v18 l19)⟩, ⟨1, some zMx⟩, ⟨(u15 + 1), some [i64 r45, i64 r46, oref 7 (u30 + 1) 0 r47.length]⟩, ⟨(u16 + 1), some [i64 r42, i64 r43, oref 6 (u29 + 1) 0 r44.length]⟩, ⟨u27, none⟩, ⟨(u28 + 2), none⟩, ⟨(u29 + 1), some (r44.map f32)⟩, ⟨(u30 + 1), some (r47.map f32)⟩]) ⟨aR, aR, aR, aR, aR, aR, aR, trivial⟩ ⟨⟨rfl, .inr rfl⟩, ⟨rfl, .inr rfl⟩, ⟨rfl, .inr rfl⟩, ⟨rfl, .inr rfl⟩, ⟨rfl, .inl rfl⟩, ⟨rfl, .inl rfl⟩, ⟨rfl, .inr rfl⟩, ⟨rfl, .inr rfl⟩, trivial⟩<|yW<|ye rfl (optr 4 (u27 + 1) 0) ([⟨1, some (mXc v17 v18 l19)⟩, ⟨1, some zMx⟩, ⟨(u15 + 1), some [i64 r45, i64 r46, oref 7 (u30 + 1) 0 r47.length]⟩, ⟨(u16 + 1), some [i64 r42, i64 r43, oref 6 (u29 + 1) 0 r44.length]⟩, ⟨(u27 + 1), some [i64 0]⟩, ⟨(u28 + 2), none⟩, ⟨(u29 + 1), some (r44.map f32)⟩, ⟨(u30 + 1), some (r47.map f32)⟩]) (TOp.alloc_o (g := ⟨u27, none⟩) 4 rfl zer2 zok2 rfl)<|ys (i64 v37) [i64 v37] ([⟨1, some (mXc v17 v18 l19)⟩, ⟨1, some zMx⟩, ⟨(u15 + 1), some [i64 r45, i64 r46, oref 7 (u30 + 1) 0 r47.length]⟩, ⟨(u16 + 1), some [i64 r42, i64 r43, oref 6 (u29 + 1) 0 r44.length]⟩, ⟨(u27 + 1), some [i64 v37]⟩, ⟨(u28 + 2), none⟩, ⟨(u29 + 1), some (r44.map f32)⟩, ⟨(u30 + 1), some (r47.map f32)⟩]) siz2<|zN ?_
        obtain ⟨x49, hx20, h17_⟩ := oL h17_
        refine yW<|yd rfl (i64 v37) (TOp.load1_o rfl rfl agg2 rfl rfl)<|yl rfl (i64 x49) (LOp.eqr (LOp.add rfl rfl rfl) (congrArg (ik .i64) hx20))<|ys (i64 x49) [i64 x49] ([⟨1, some (mXc v17 v18 l19)⟩, ⟨1, some zMx⟩, ⟨(u15 + 1), some [i64 r45, i64 r46, oref 7 (u30 + 1) 0 r47.length]⟩, ⟨(u16 + 1), some [i64 r42, i64 r43, oref 6 (u29 + 1) 0 r44.length]⟩, ⟨(u27 + 1), some [i64 x49]⟩, ⟨(u28 + 2), none⟩, ⟨(u29 + 1), some (r44.map f32)⟩, ⟨(u30 + 1), some (r47.map f32)⟩]) siz2<|zN ?_
        cases oI h17_
        exact ⟨_, rfl, (u27 + 1), (u28 + 2), (u29 + 1), (u30 + 1), (Le.trans (Le.settleG 7 [(1, i64 a3), (2, optr 0 1 0), (4, optr 1 1 0), (6, i64 v20), (10, optr 2 (u15 + 1) 0), (11, optr 3 (u16 + 1) 0), (12, optr 4 (u27 + 1) 0)] [⟨1, some (mXc v17 v18 l19)⟩, ⟨1, some zMx⟩, ⟨(u15 + 1), some (mXc r45 r46 r47)⟩, ⟨(u16 + 1), some [i64 r42, i64 r43, oref 6 (u29 + 1) 0 r44.length]⟩, ⟨(u27 + 1), some [i64 x49]⟩, ⟨(u28 + 2), none⟩, ⟨(u29 + 1), some (r44.map f32)⟩, ⟨(u30 + 1), none⟩] rfl rfl rfl ⟨.inl rfl, ⟨.inl rfl, ⟨.inr ⟨rfl, .inr ⟨_, _, rfl, rfl, ⟨.inl rfl, .inl rfl, .inr (Bor.own (f := f32) (fun _ => rfl) rfl rfl), trivial⟩⟩⟩, ⟨.inl rfl, ⟨.inl rfl, ⟨.inl rfl, ⟨.inl rfl, ⟨.inr ⟨rfl, .inl rfl⟩, trivial⟩⟩⟩⟩⟩⟩⟩⟩ ⟨.inl rfl, .inl rfl, .inl rfl, .inl rfl, .inl rfl, .inl rfl, .inl rfl, trivial⟩) (Le.trans (Le.settleG 6 [(1, i64 a3), (2, optr 0 1 0), (4, optr 1 1 0), (6, i64 v20), (10, optr 2 (u15 + 1) 0), (11, optr 3 (u16 + 1) 0), (12, optr 4 (u27 + 1) 0)] [⟨1, some (mXc v17 v18 l19)⟩, ⟨1, some zMx⟩, ⟨(u15 + 1), some (mXc r45 r46 r47)⟩, ⟨(u16 + 1), some (mXc r42 r43 r44)⟩, ⟨(u27 + 1), some [i64 x49]⟩, ⟨(u28 + 2), none⟩, ⟨(u29 + 1), none⟩, ⟨(u30 + 1), none⟩] rfl rfl rfl ⟨.inl rfl, ⟨.inl rfl, ⟨.inl rfl, ⟨.inr ⟨rfl, .inr ⟨_, _, rfl, rfl, ⟨.inl rfl, .inl rfl, .inr (Bor.own (f := f32) (fun _ => rfl) rfl rfl), trivial⟩⟩⟩, ⟨.inl rfl, ⟨.inl rfl, ⟨.inr ⟨rfl, .inl rfl⟩, ⟨.inl rfl, trivial⟩⟩⟩⟩⟩⟩⟩⟩ ⟨.inl rfl, .inl rfl, .inl rfl, .inl rfl, .inl rfl, .inl rfl, .inl rfl, trivial⟩) (Le.of ⟨aR, aR, aR, aR, aR, aR, aR, trivial⟩ ⟨⟨rfl, .inr rfl⟩, ⟨rfl, .inr rfl⟩, ⟨rfl, .inr rfl⟩, ⟨rfl, .inr rfl⟩, ⟨rfl, .inr rfl⟩, ⟨rfl, .inl rfl⟩, ⟨rfl, .inl rfl⟩, ⟨rfl, .inl rfl⟩, trivial⟩)))⟩
       ·refine yW<|yd rfl (agg [i64 r45, i64 r46, oref 7 (u30 + 1) 0 r47.length]) (TOp.loadAgg_o rfl agg33 siz33 rfl rfl rfl rfl)<|yd rfl (b false) (TOp.eqb (TOp.callB (CallAs.func ent102 rfl rfl) (Bors.cons (Bor.agg (bP (bP (Bors.cons (Bor.own (f := f32) (fun _ => rfl) rfl rfl) bN)))) bN) rfl rfl (i_ValidMatrix_ok r45 r46 r47 r48 hf18)) hc19)<|yl rfl (b true) y0<|zN ?_
        refine yT<|zQ<|yl rfl (agg zMx) (LOp.build (qs := []) zer33 zok33 und33 plc33 rfl trivial rfl)<|ys (agg zMx) zMx ([⟨1, some (mXc v17 v18 l19)⟩, ⟨1, some zMx⟩, ⟨(u15 + 1), some [i64 r45, i64 r46, oref 7 (u30 + 1) 0 r47.length]⟩, ⟨(u16 + 1), some [i64 r42, i64 r43, oref 6 (u29 + 1) 0 r44.length]⟩, ⟨u27, some [i64 v37]⟩, ⟨(u28 + 2), none⟩, ⟨(u29 + 1), some (r44.map f32)⟩, ⟨(u30 + 1), some (r47.map f32)⟩]) siz33<|ya rfl (b false)<|zN ?_
        cases oI h17_
        have hx18_ := hr17 _ rfl
        subst hx18_
        cases oI h
      ·refine yW<|yd rfl (agg (mXc v34 v35 l36)) (TOp.loadAgg_o rfl agg33 siz33 rfl rfl rfl rfl)<|yd rfl (agg (mXc v17 v18 l19)) (TOp.loadAgg_o rfl agg33 siz33 rfl rfl rfl rfl)<|yd rfl (tup [agg (mXc r38 r39 r41), b r40]) (TOp.callS (CallAs.func ent95 rfl rfl) (ALes.cons aR (ALes.cons aR ALes.nil)) (lts_cons (lt_agg (lts_cons rfl (lts_cons rfl (lts_cons (lt_sl (fun _ => rfl)) lts_nil)))) (lts_cons (lt_agg (lts_cons rfl (lts_cons rfl (lts_cons (lt_sl (fun _ => rfl)) lts_nil)))) lts_nil)) (lt_tup (lts_cons (lt_agg (lts_cons rfl (lts_cons rfl (lts_cons (lt_sl (fun _ => rfl)) lts_nil)))) (lts_cons rfl lts_nil))) (i_MulMatrices_ok v34 v35 l36 v17 v18 l19 r38 r39 r40 r41 hf14) (Bor.tup (Bors.cons (Bor.agg (bP (bP (Bors.cons (Bor.own (f := f32) (fun _ => rfl) rfl rfl) bN)))) bN0)))<|ym rfl (tup [agg (mXc r38 r39 r41), b r40])<|yl rfl (agg (mXc r38 r39 r41)) y3<|yl rfl (b false) (LOp.eqb y3 hc15)<|ye rfl (optr 5 (u28 + 1) 0) ([⟨1, some (mXc v17 v18 l19)⟩, ⟨1, some zMx⟩, ⟨(u15 + 1), some (mXc v31 v32 l33)⟩, ⟨(u16 + 1), some (mXc v34 v35 l36)⟩, ⟨u27, some [i64 v37]⟩, ⟨(u28 + 1), some zMx⟩, ⟨u29, none⟩, ⟨u30, none⟩]) (TOp.alloc_o (g := ⟨u28, none⟩) 5 rfl zer33 zok33 rfl)<|ys (agg (mXc r38 r39 r41)) (mXc r38 r39 r41) ([⟨1, some (mXc v17 v18 l19)⟩, ⟨1, some zMx⟩, ⟨(u15 + 1), some (mXc v31 v32 l33)⟩, ⟨(u16 + 1), some (mXc v34 v35 l36)⟩, ⟨u27, some [i64 v37]⟩, ⟨(u28 + 1), some (mXc r38 r39 r41)⟩, ⟨u29, none⟩, ⟨u30, none⟩]) siz33<|ya rfl (b false)<|zN ?_
       refine yS<|zQ<|ym rfl (b false)<|yl rfl (b true) y0<|zN ?_
       refine yT<|zQ<|yl rfl (agg zMx) (LOp.build (qs := []) zer33 zok33 und33 plc33 rfl trivial rfl)<|ys (agg zMx) zMx ([⟨1, some (mXc v17 v18 l19)⟩, ⟨1, some zMx⟩, ⟨(u15 + 1), some (mXc v31 v32 l33)⟩, ⟨(u16 + 1), some (mXc v34 v35 l36)⟩, ⟨u27, some [i64 v37]⟩, ⟨(u28 + 1), some (mXc r38 r39 r41)⟩, ⟨u29, none⟩, ⟨u30, none⟩]) siz33<|ya rfl (b false)<|zN ?_
       cases oI h17_
       have hx19_ := hr17 _ rfl
       subst hx19_
       cases oI h
     ·refine yW<|yd rfl (i64 v37) (TOp.load1_o rfl rfl agg2 rfl rfl)<|ym rfl (i64 a3)<|yl rfl (b false) (LOp.eqb (LOp.leq rfl rfl rfl) hc13)<|zN ?_
      refine yF<|RunC.exit ?_
      cases oI h17_
      have hx := ho17 _ rfl
      exact ⟨v31, v32, l33, u27, u28, u29, u30, (Le.of ⟨aR, aR, aR, trivial⟩ ⟨⟨rfl, .inl rfl⟩, ⟨rfl, .inr rfl⟩, ⟨rfl, .inr rfl⟩, ⟨rfl, .inl rfl⟩, ⟨rfl, .inl rfl⟩, ⟨rfl, .inl rfl⟩, ⟨rfl, .inl rfl⟩, ⟨rfl, .inl rfl⟩, trivial⟩), hx⟩
    ·rintro τ20 Γ20 ⟨v54, v55, l56, u50, u51, u52, u53, hw20, rfl⟩
     refine RunC.le hw20 ?_
     replace h : i_ExpMatrix_k2 v20 v54 v55 l56 = some (Sum.inr (q0, q1, q2, q3)) := h
     unfold i_ExpMatrix_k2 at h
     refine yS<|zQ<|ym rfl (i64 v20)<|ym rfl (i64 0)<|zN ?_
     obtain ⟨z21, hz_21, h⟩ := oS h
     refine RunC.cutN (fun τ Γ => ∃ (v68 : Int) (v69 : Int) (l70 : List F) (u67 : Nat), Le 209 τ Γ [(4, optr 1 1 0), (10, optr 2 (u15 + 1) 0)] [⟨u67, none⟩, ⟨1, some zMx⟩, ⟨(u15 + 1), some (mXc v68 v69 l70)⟩, ⟨(u16 + 1), none⟩, ⟨u50, none⟩, ⟨u51, none⟩, ⟨u52, none⟩, ⟨u53, none⟩] ∧ z21 = .inl (v68, v69, l70)) ?_ ?_
     ·refine RunC.block (RunC.loop (RunL.loopM (x := z21) (i_ExpMatrix_s3 v20) (fun (s : Int × Int × (List F) × Int) τ Γ => ∃ (u57 : Nat), Le 209 τ Γ [(4, optr 1 1 0), (10, optr 2 (u15 + 1) 0), (89, i64 v20), (90, i64 s.2.2.2)] [⟨u57, none⟩, ⟨1, some zMx⟩, ⟨(u15 + 1), some [i64 s.1, i64 s.2.1, sl s.2.2.1.length (s.2.2.1.map f32)]⟩, ⟨(u16 + 1), none⟩, ⟨u50, none⟩, ⟨u51, none⟩, ⟨u52, none⟩, ⟨u53, none⟩]) ?_ _ _ _ hz_21 ⟨1, (Le.of ⟨aR, aR, aR, aR, trivial⟩ ⟨⟨rfl, .inl rfl⟩, ⟨rfl, .inr rfl⟩, ⟨rfl, .inr rfl⟩, ⟨rfl, .inl rfl⟩, ⟨rfl, .inl rfl⟩, ⟨rfl, .inl rfl⟩, ⟨rfl, .inl rfl⟩, ⟨rfl, .inl rfl⟩, trivial⟩)⟩))
      rintro ⟨v58, v59, l60, v61⟩ τ21 Γ21 y21_ ⟨u57, hw21⟩ h21_ ho21 hr21
      refine RunC.le (τ' := [(4, optr 1 1 0), (10, optr 2 (u15 + 1) 0), (89, i64 v20), (90, i64 v61)]) (Γ' := [⟨u57, none⟩, ⟨1, some zMx⟩, ⟨(u15 + 1), some (mXc v58 v59 l60)⟩, ⟨(u16 + 1), none⟩, ⟨u50, none⟩, ⟨u51, none⟩, ⟨u52, none⟩, ⟨u53, none⟩]) hw21 ?_
      replace h21_ : i_ExpMatrix_b3 v20 v58 v59 l60 v61 = some y21_ := h21_
      unfold i_ExpMatrix_b3 at h21_
      refine yS ?_
      rcases oB h21_ with ⟨hc21, h21_⟩ | ⟨hc21, h21_⟩
      ·refine yW<|yl rfl (b true) (LOp.eqb (LOp.lss rfl rfl rfl) hc21)<|zN ?_
       refine yS<|yT<|RunC.skip<|yS<|RunC.block<|yS ?_
       obtain ⟨r62, r63, r64, r65, hf22, h21_⟩ := obind4_some h21_
       rcases oB h21_ with ⟨hc23, h21_⟩ | ⟨hc23, h21_⟩
       ·refine yW<|yd rfl (agg (mXc v58 v59 l60)) (TOp.loadAgg_o rfl agg33 siz33 rfl rfl rfl rfl)<|yd rfl (agg (mXc v58 v59 l60)) (TOp.loadAgg_o rfl agg33 siz33 rfl rfl rfl rfl)<|yd rfl (tup [agg (mXc r62 r63 r65), b r64]) (TOp.callS (CallAs.func ent95 rfl rfl) (ALes.cons aR (ALes.cons aR ALes.nil)) (lts_cons (lt_agg (lts_cons rfl (lts_cons rfl (lts_cons (lt_sl (fun _ => rfl)) lts_nil)))) (lts_cons (lt_agg (lts_cons rfl (lts_cons rfl (lts_cons (lt_sl (fun _ => rfl)) lts_nil)))) lts_nil)) (lt_tup (lts_cons (lt_agg (lts_cons rfl (lts_cons rfl (lts_cons (lt_sl (fun _ => rfl)) lts_nil)))) (lts_cons rfl lts_nil))) (i_MulMatrices_ok v58 v59 l60 v58 v59 l60 r62 r63 r64 r65 hf22) (Bor.tup (Bors.cons (Bor.agg (bP (bP (Bors.cons (Bor.own (f := f32) (fun _ => rfl) rfl rfl) bN)))) bN0)))<|ym rfl (tup [agg (mXc r62 r63 r65), b r64])<|yl rfl (agg (mXc r62 r63 r65)) y3<|yl rfl (b true) (LOp.eqb y3 hc23)<|ye rfl (optr 0 (u57 + 1) 0) [⟨(u57 + 1), some zMx⟩, ⟨1, some zMx⟩, ⟨(u15 + 1), some (mXc v58 v59 l60)⟩, ⟨(u16 + 1), none⟩, ⟨u50, none⟩, ⟨u51, none⟩, ⟨u52, none⟩, ⟨u53, none⟩] (TOp.alloc_o (g := ⟨u57, none⟩) 0 rfl zer33 zok33 rfl)<|ys (agg (mXc r62 r63 r65)) (mXc r62 r63 r65) [⟨(u57 + 1), some (mXc r62 r63 r65)⟩, ⟨1, some zMx⟩, ⟨(u15 + 1), some (mXc v58 v59 l60)⟩, ⟨(u16 + 1), none⟩, ⟨u50, none⟩, ⟨u51, none⟩, ⟨u52, none⟩, ⟨u53, none⟩] siz33<|ya rfl (b true)<|zN ?_
        refine yS<|zQ<|ym rfl (b true)<|yl rfl (b false) y1<|zN ?_
        refine yF<|RunC.skip<|yW<|yd rfl (agg (mXc r62 r63 r65)) (TOp.loadAgg_o rfl agg33 siz33 rfl rfl rfl rfl)<|ys (agg (mXc r62 r63 r65)) (mXc r62 r63 r65) [⟨(u57 + 1), some (mXc r62 r63 r65)⟩, ⟨1, some zMx⟩, ⟨(u15 + 1), some (mXc r62 r63 r65)⟩, ⟨(u16 + 1), none⟩, ⟨u50, none⟩, ⟨u51, none⟩, ⟨u52, none⟩, ⟨u53, none⟩] siz33<|zN ?_
        refine RunC.wl (τ' := [(4, optr 1 1 0), (10, optr 2 (u15 + 1) 0), (89, i64 v20), (90, i64 v61)]) (Γ' := [⟨(u57 + 1), none⟩, ⟨1, some zMx⟩, ⟨(u15 + 1), some (mXc r62 r63 r65)⟩, ⟨(u16 + 1), none⟩, ⟨u50, none⟩, ⟨u51, none⟩, ⟨u52, none⟩, ⟨u53, none⟩]) ⟨aR, aR, aR, aR, trivial⟩ ⟨⟨rfl, .inl rfl⟩, ⟨rfl, .inr rfl⟩, ⟨rfl, .inr rfl⟩, ⟨rfl, .inl rfl⟩, ⟨rfl, .inl rfl⟩, ⟨rfl, .inl rfl⟩, ⟨rfl, .inl rfl⟩, ⟨rfl, .inl rfl⟩, trivial⟩ ?_
        obtain ⟨x66, hx24, h21_⟩ := oL h21_
        refine yW<|yl rfl (i64 x66) (LOp.eqr (LOp.add rfl rfl rfl) (congrArg (ik .i64) hx24))<|ym rfl (i64 x66)<|zN ?_
        cases oI h21_
        exact ⟨_, rfl, (u57 + 1), (Le.of ⟨aR, aR, aR, aR, trivial⟩ ⟨⟨rfl, .inl rfl⟩, ⟨rfl, .inr rfl⟩, ⟨rfl, .inr rfl⟩, ⟨rfl, .inl rfl⟩, ⟨rfl, .inl rfl⟩, ⟨rfl, .inl rfl⟩, ⟨rfl, .inl rfl⟩, ⟨rfl, .inl rfl⟩, trivial⟩)⟩
       ·refine yW<|yd rfl (agg (mXc v58 v59 l60)) (TOp.loadAgg_o rfl agg33 siz33 rfl rfl rfl rfl)<|yd rfl (agg (mXc v58 v59 l60)) (TOp.loadAgg_o rfl agg33 siz33 rfl rfl rfl rfl)<|yd rfl (tup [agg (mXc r62 r63 r65), b r64]) (TOp.callS (CallAs.func ent95 rfl rfl) (ALes.cons aR (ALes.cons aR ALes.nil)) (lts_cons (lt_agg (lts_cons rfl (lts_cons rfl (lts_cons (lt_sl (fun _ => rfl)) lts_nil)))) (lts_cons (lt_agg (lts_cons rfl (lts_cons rfl (lts_cons (lt_sl (fun _ => rfl)) lts_nil)))) lts_nil)) (lt_tup (lts_cons (lt_agg (lts_cons rfl (lts_cons rfl (lts_cons (lt_sl (fun _ => rfl)) lts_nil)))) (lts_cons rfl lts_nil))) (i_MulMatrices_ok v58 v59 l60 v58 v59 l60 r62 r63 r64 r65 hf22) (Bor.tup (Bors.cons (Bor.agg (bP (bP (Bors.cons (Bor.own (f := f32) (fun _ => rfl) rfl rfl) bN)))) bN0)))<|ym rfl (tup [agg (mXc r62 r63 r65), b r64])<|yl rfl (agg (mXc r62 r63 r65)) y3<|yl rfl (b false) (LOp.eqb y3 hc23)<|ye rfl (optr 0 (u57 + 1) 0) [⟨(u57 + 1), some zMx⟩, ⟨1, some zMx⟩, ⟨(u15 + 1), some (mXc v58 v59 l60)⟩, ⟨(u16 + 1), none⟩, ⟨u50, none⟩, ⟨u51, none⟩, ⟨u52, none⟩, ⟨u53, none⟩] (TOp.alloc_o (g := ⟨u57, none⟩) 0 rfl zer33 zok33 rfl)<|ys (agg (mXc r62 r63 r65)) (mXc r62 r63 r65) [⟨(u57 + 1), some (mXc r62 r63 r65)⟩, ⟨1, some zMx⟩, ⟨(u15 + 1), some (mXc v58 v59 l60)⟩, ⟨(u16 + 1), none⟩, ⟨u50, none⟩, ⟨u51, none⟩, ⟨u52, none⟩, ⟨u53, none⟩] siz33<|ya rfl (b false)<|zN ?_
        refine yS<|zQ<|ym rfl (b false)<|yl rfl (b true) y0<|zN ?_
        refine yT<|zQ<|yl rfl (agg zMx) (LOp.build (qs := []) zer33 zok33 und33 plc33 rfl trivial rfl)<|ys (agg zMx) zMx [⟨(u57 + 1), some (mXc r62 r63 r65)⟩, ⟨1, some zMx⟩, ⟨(u15 + 1), some (mXc v58 v59 l60)⟩, ⟨(u16 + 1), none⟩, ⟨u50, none⟩, ⟨u51, none⟩, ⟨u52, none⟩, ⟨u53, none⟩] siz33<|ya rfl (b false)<|zN ?_
        cases oI h21_
        have hx22_ := hr21 _ rfl
        subst hx22_
        cases oI h
      ·refine yW<|yl rfl (b false) (LOp.eqb (LOp.lss rfl rfl rfl) hc21)<|zN ?_
       refine yS<|yF<|RunC.exit ?_
       cases oI h21_
       have hx := ho21 _ rfl
       exact ⟨v58, v59, l60, u57, (Le.of ⟨aR, aR, trivial⟩ ⟨⟨rfl, .inl rfl⟩, ⟨rfl, .inr rfl⟩, ⟨rfl, .inr rfl⟩, ⟨rfl, .inl rfl⟩, ⟨rfl, .inl rfl⟩, ⟨rfl, .inl rfl⟩, ⟨rfl, .inl rfl⟩, ⟨rfl, .inl rfl⟩, trivial⟩), hx⟩
     ·rintro τ23 Γ23 ⟨v68, v69, l70, u67, hw23, rfl⟩
      refine RunC.le hw23 ?_
      replace h : i_ExpMatrix_k3 v68 v69 l70 = some (Sum.inr (q0, q1, q2, q3)) := h
      unfold i_ExpMatrix_k3 at h
      refine zQ<|yd rfl (agg (mXc v68 v69 l70)) (TOp.loadAgg_o rfl agg33 siz33 rfl rfl rfl rfl)<|ys (agg (mXc v68 v69 l70)) (mXc v68 v69 l70) [⟨u67, none⟩, ⟨1, some (mXc v68 v69 l70)⟩, ⟨(u15 + 1), some (mXc v68 v69 l70)⟩, ⟨(u16 + 1), none⟩, ⟨u50, none⟩, ⟨u51, none⟩, ⟨u52, none⟩, ⟨u53, none⟩] siz33<|ya rfl (b true)<|zN ?_
      refine RunC.ret ?_
      have hq := oI h
      have hq := Sum.inr.inj hq
      obtain ⟨hq0, hq⟩ := Prod.mk.inj hq
      obtain ⟨hq1, hq⟩ := Prod.mk.inj hq
      obtain ⟨hq2, hq⟩ := Prod.mk.inj hq
      subst q0
      subst q1
      subst q2
      subst q3
      exact bodyQ.pure (.inr rfl) (lt_tup (lts_cons (lt_agg (lts_cons rfl (lts_cons rfl (lts_cons (lt_sl (fun _ => rfl)) lts_nil)))) (lts_cons rfl lts_nil))) (Res.two rfl (RV.cell agg33 siz33 rfl rfl rfl rfl) (RV.tmp rfl))
  ·refine yW<|yd rfl (agg (mXc a0 a1 a2)) (TOp.loadAgg_o rfl agg33 siz33 rfl rfl rfl rfl)<|yd rfl (b true) (TOp.eqb (TOp.callB (CallAs.func ent91 rfl rfl) (Bors.cons (Bor.agg (bP (bP (bS bN)))) bN) rfl rfl (i_isSquare_ok a0 a1 a2 r1 hf1)) hc2)<|yl rfl (b false) y1<|ym rfl (b false)<|ym rfl (i64 a3)<|yd rfl (b false) (TOp.eqb (yc ent85 rfl rfl (bP (bP bN0)) (i_inRange_ok a3 1 32 r2 hf3)) hc4)<|yl rfl (b true) y0<|yl rfl (b true) yp<|zN ?_
   refine yT<|zQ<|yl rfl (agg zMx) (LOp.build (qs := []) zer33 zok33 und33 plc33 rfl trivial rfl)<|ys (agg zMx) zMx [⟨1, some (mXc a0 a1 a2)⟩, ⟨1, some zMx⟩, ⟨0, none⟩, ⟨0, none⟩, ⟨0, none⟩, ⟨0, none⟩, ⟨0, none⟩, ⟨0, none⟩] siz33<|ya rfl (b false)<|zN ?_
   cases oI h
 ·refine yW<|yd rfl (agg (mXc a0 a1 a2)) (TOp.loadAgg_o rfl agg33 siz33 rfl rfl rfl rfl)<|yd rfl (b false) (TOp.eqb (TOp.callB (CallAs.func ent91 rfl rfl) (Bors.cons (Bor.agg (bP (bP (bS bN)))) bN) rfl rfl (i_isSquare_ok a0 a1 a2 r1 hf1)) hc2)<|yl rfl (b true) y0<|ym rfl (b true)<|ROps.s rfl rfl rfl<|ROps.s rfl rfl rfl<|ROps.s rfl rfl rfl<|yl rfl (b true) yq<|zN ?_
  refine yT<|zQ<|yl rfl (agg zMx) (LOp.build (qs := []) zer33 zok33 und33 plc33 rfl trivial rfl)<|ys (agg zMx) zMx [⟨1, some (mXc a0 a1 a2)⟩, ⟨1, some zMx⟩, ⟨0, none⟩, ⟨0, none⟩, ⟨0, none⟩, ⟨0, none⟩, ⟨0, none⟩, ⟨0, none⟩] siz33<|ya rfl (b false)<|zN ?_
  cases oI h
def i_UnitMatrix (a0 : Int) : Option (Int × Int × Bool × (List F)) :=
 obind (i_isSide a0) fun (r1 : Bool) =>
 bsel r1 (
  obind3 (i_unit a0) fun (r2 : Int) (r3 : Int) (r4 : List F) =>
  some (r2, r3, true, r4)) (
  some (0, 0, false, ([] : List F)))
theorem i_UnitMatrix_ok (a0 : Int) (q0 : Int) (q1 : Int) (q2 : Bool) (q3 : List F) (h : i_UnitMatrix a0 = some (q0, q1, q2, q3)) : Ev Try.prog 38 [i64 a0] [] (tup [agg (oXc q0 q1 0 0 q3.length), b q2]) [⟨0, some (q3.map f32)⟩] := by
 refine yE Try.func38 2 21 0 [(0, i64 a0)] [⟨0, none⟩, ⟨0, none⟩] rfl ?_
 unfold i_UnitMatrix at h
 refine zQ<|ye rfl (optr 0 1 0) [⟨1, some zMx⟩, ⟨0, none⟩] (TOp.alloc_o (g := ⟨0, none⟩) 0 rfl zer33 zok33 rfl)<|ya rfl (b false)<|zN ?_
 refine yS<|yS ?_
 obtain ⟨r1, hf1, h⟩ := oS h
 rcases oB h with ⟨hc2, h⟩ | ⟨hc2, h⟩
 ·refine yW<|ym rfl (i64 a0)<|yd rfl (b true) (TOp.eqb (yc ent89 rfl rfl bN0 (i_isSide_ok a0 r1 hf1)) hc2)<|yl rfl (b false) y1<|zN ?_
  refine yF<|RunC.skip<|yS ?_
  obtain ⟨r2, r3, r4, hf3, h⟩ := obind3_some h
  refine yW<|ym rfl (i64 a0)<|ye rfl (agg (oXc r2 r3 1 1 r4.length)) [⟨1, some zMx⟩, ⟨1, some (r4.map f32)⟩] (TOp.callBN (ls := [(r4.map f32)]) [1] (CallAs.func ent99 rfl rfl) bN0 rfl (i_unit_ok a0 r2 r3 r4 hf3) (and_all (lts0_map (f := f32) (fun _ => rfl) _) rfl) (and_all (noss_map (f := f32) (fun _ => rfl) _) rfl) rfl (by decide) (ns_of ⟨⟨_, rfl⟩, trivial⟩))<|ys (agg (oXc r2 r3 1 1 r4.length)) (oXc r2 r3 1 1 r4.length) [⟨1, some (oXc r2 r3 1 1 r4.length)⟩, ⟨1, some (r4.map f32)⟩] siz33<|ya rfl (b true)<|zN ?_
  refine RunC.ret ?_
  have hq := oI h
  obtain ⟨hq0, hq⟩ := Prod.mk.inj hq
  obtain ⟨hq1, hq⟩ := Prod.mk.inj hq
  obtain ⟨hq2, hq⟩ := Prod.mk.inj hq
  subst q0
  subst q1
  subst q2
  subst q3
  exact yB (tup [agg (oXc r2 r3 1 1 r4.length), b true]) [(1, 1)] (Res.two rfl (RV.cell agg33 siz33 rfl rfl rfl rfl) (RV.tmp rfl)) (SelL.arr0 (f := f32) (fun _ => rfl) rfl trivial)
 ·refine yW<|ym rfl (i64 a0)<|yd rfl (b false) (TOp.eqb (yc ent89 rfl rfl bN0 (i_isSide_ok a0 r1 hf1)) hc2)<|yl rfl (b true) y0<|zN ?_
  refine yT<|zQ<|yl rfl (agg zMx) (LOp.build (qs := []) zer33 zok33 und33 plc33 rfl trivial rfl)<|ys (agg zMx) zMx [⟨1, some zMx⟩, ⟨0, none⟩] siz33<|ya rfl (b false)<|zN ?_
  refine RunC.nil_cell (l' := [i64 0, i64 0, oref 1 1 0 0]) (Γ' := [⟨1, some [i64 0, i64 0, oref 1 1 0 0]⟩, ⟨1, some (([] : List F).map f32)⟩]) 0 2 1 rfl rfl rfl rfl rfl<|RunC.ret ?_
  have hq := oI h
  obtain ⟨hq0, hq⟩ := Prod.mk.inj hq
  obtain ⟨hq1, hq⟩ := Prod.mk.inj hq
  obtain ⟨hq2, hq⟩ := Prod.mk.inj hq
  subst q0
  subst q1
  subst q2
  subst q3
  exact yB (tup [agg [i64 0, i64 0, oref 1 1 0 (([] : List F).length)], b false]) [(1, 1)] (Res.eq (Res.two rfl (RV.cell agg33 siz33 rfl rfl rfl rfl) (RV.tmp rfl)) (by rw [(show ([] : List F).length = 0 from rfl)] <;> rfl)) (SelL.arr0 (f := f32) (fun _ => rfl) rfl trivial)
def x_math_Signbit (a0 : F) : Option (Bool) :=
 obind (a0) fun (b1 : Nat) =>
 olet (IntKind.i64.wrap (b1 : Int)) fun (x2 : Int) =>
 some (decide (x2 < 0))
theorem x_math_Signbit_ok (a0 : F) (q0 : Bool) (h : x_math_Signbit a0 = some q0) : Ev Try.prog 179 [f64 a0] [] (b q0) [] := by
 refine yE Try.func179 0 15 0 [(0, f64 a0)] [] rfl ?_
 unfold x_math_Signbit at h
 refine zQ<|ya rfl (b false)<|zN ?_
 refine yS ?_
 obtain ⟨b1, he1, h⟩ := oS h
 obtain ⟨x2, hx2, h⟩ := oL h
 refine yW<|ym rfl (f64 a0)<|yl rfl (ik .u64 (b1 : Int)) (LOp.fbx ext183 rfl (OpF.tmp rfl) he1)<|yl rfl (i64 x2) (LOp.eqr (LOp.i2i (src := 134) (dst := 2) ⟨_, pun134⟩ pun2 rfl rfl) (congrArg (ik .i64) hx2))<|yl rfl (b (decide (x2 < 0))) (LOp.lss rfl rfl rfl)<|ya rfl (b (decide (x2 < 0)))<|zN ?_
 refine RunC.ret ?_
 have hq := oI h
 subst q0
 exact bodyQ.pure (.inr rfl) rfl (Res.one rfl (RV.tmp rfl))
def i_SameNumber (a0 : F) (a1 : F) : Option (Bool) :=
 bsel (!feq .f32 a0 a0) (
  some (!feq .f32 a1 a1)) (
  bsel (!feq .f32 a1 a1) (
   some false) (
   bsel (feq .f32 a0 a1) (
    olet (fwiden a0) fun (x1 : F) =>
    obind (x_math_Signbit x1) fun (r2 : Bool) =>
    olet (fwiden a1) fun (x3 : F) =>
    obind (x_math_Signbit x3) fun (r4 : Bool) =>
    some (r2 == r4)) (
    some false)))
theorem i_SameNumber_ok (a0 : F) (a1 : F) (q0 : Bool) (h : i_SameNumber a0 a1 = some q0) : Ev Try.prog 156 [f32 a0, f32 a1] [] (b q0) [] := by
 refine yE Try.func156 0 67 0 [(0, f32 a0), (1, f32 a1)] [] rfl ?_
 unfold i_SameNumber at h
 refine zQ<|ya rfl (b false)<|zN ?_
 refine yS<|yS ?_
 rcases oB h with ⟨hc1, h⟩ | ⟨hc1, h⟩
 ·refine yW<|ym rfl (f32 a0)<|ym rfl (f32 a0)<|yl rfl (b true) (LOp.eqb (LOp.fne rfl (OpF.tmp rfl) (OpF.tmp rfl)) hc1)<|ym rfl (b true)<|ROps.s rfl rfl rfl<|ROps.s rfl rfl rfl<|ROps.s rfl rfl rfl<|yl rfl (b true) yq<|zN ?_
  refine yT<|zQ<|ym rfl (f32 a0)<|ym rfl (f32 a0)<|yl rfl (b true) (LOp.eqb (LOp.fne rfl (OpF.tmp rfl) (OpF.tmp rfl)) hc1)<|ym rfl (b true)<|ym rfl (f32 a1)<|ym rfl (f32 a1)<|yl rfl (b (!feq .f32 a1 a1)) (LOp.fne rfl (OpF.tmp rfl) (OpF.tmp rfl))<|yl rfl (b (!feq .f32 a1 a1)) yq<|ya rfl (b (!feq .f32 a1 a1))<|zN ?_
  refine RunC.ret ?_
  have hq := oI h
  subst q0
  exact bodyQ.pure (.inr rfl) rfl (Res.one rfl (RV.tmp rfl))
 ·rcases oB h with ⟨hc2, h⟩ | ⟨hc2, h⟩
  ·refine yW<|ym rfl (f32 a0)<|ym rfl (f32 a0)<|yl rfl (b false) (LOp.eqb (LOp.fne rfl (OpF.tmp rfl) (OpF.tmp rfl)) hc1)<|ym rfl (b false)<|ym rfl (f32 a1)<|ym rfl (f32 a1)<|yl rfl (b true) (LOp.eqb (LOp.fne rfl (OpF.tmp rfl) (OpF.tmp rfl)) hc2)<|yl rfl (b true) yp<|zN ?_
   refine yT<|zQ<|ym rfl (f32 a0)<|ym rfl (f32 a0)<|yl rfl (b false) (LOp.eqb (LOp.fne rfl (OpF.tmp rfl) (OpF.tmp rfl)) hc1)<|ym rfl (b false)<|ROps.s rfl rfl rfl<|ROps.s rfl rfl rfl<|ROps.s rfl rfl rfl<|yl rfl (b false) yp<|ya rfl (b false)<|zN ?_
   refine RunC.ret ?_
   have hq := oI h
   subst q0
   exact bodyQ.pure (.inr rfl) rfl (Res.one rfl (RV.tmp rfl))
  ·refine yW<|ym rfl (f32 a0)<|ym rfl (f32 a0)<|yl rfl (b false) (LOp.eqb (LOp.fne rfl (OpF.tmp rfl) (OpF.tmp rfl)) hc1)<|ym rfl (b false)<|ym rfl (f32 a1)<|ym rfl (f32 a1)<|yl rfl (b false) (LOp.eqb (LOp.fne rfl (OpF.tmp rfl) (OpF.tmp rfl)) hc2)<|yl rfl (b false) yp<|zN ?_
   refine yF<|RunC.skip<|yS ?_
   rcases oB h with ⟨hc3, h⟩ | ⟨hc3, h⟩
   ·obtain ⟨x1, hx4, h⟩ := oL h
    obtain ⟨r2, hf5, h⟩ := oS h
    obtain ⟨x3, hx6, h⟩ := oL h
    obtain ⟨r4, hf7, h⟩ := oS h
    refine yW<|ym rfl (f32 a0)<|ym rfl (f32 a1)<|yl rfl (b true) (LOp.eqb (LOp.feq rfl (OpF.tmp rfl) (OpF.tmp rfl)) hc3)<|ym rfl (b true)<|ym rfl (f32 a0)<|yd rfl (f64 x1) (TOp.eqr (TOp.widen (src := 28) (dst := 40) ⟨_, pun28⟩ pun40 rfl (OpF.tmp rfl)) (congrArg (f .f64) hx4))<|yd rfl (b r2) (yc ent179 rfl rfl bN0 (x_math_Signbit_ok x1 r2 hf5))<|ym rfl (f32 a1)<|yd rfl (f64 x3) (TOp.eqr (TOp.widen (src := 28) (dst := 40) ⟨_, pun28⟩ pun40 rfl (OpF.tmp rfl)) (congrArg (f .f64) hx6))<|yd rfl (b r4) (yc ent179 rfl rfl bN0 (x_math_Signbit_ok x3 r4 hf7))<|yl rfl (b (r2 == r4)) (LOp.eqlb pun4 rfl rfl rfl)<|yl rfl (b (r2 == r4)) yq<|ya rfl (b (r2 == r4))<|zN ?_
    refine RunC.ret ?_
    have hq := oI h
    subst q0
    exact bodyQ.pure (.inr rfl) rfl (Res.one rfl (RV.tmp rfl))
   ·refine yW<|ym rfl (f32 a0)<|ym rfl (f32 a1)<|yl rfl (b false) (LOp.eqb (LOp.feq rfl (OpF.tmp rfl) (OpF.tmp rfl)) hc3)<|ym rfl (b false)<|ROps.s rfl rfl rfl<|ROps.s rfl rfl rfl<|ROps.s rfl rfl rfl<|ROps.s rfl rfl rfl<|ROps.s rfl rfl rfl<|ROps.s rfl rfl rfl<|ROps.s rfl rfl rfl<|yl rfl (b false) yp<|ya rfl (b false)<|zN ?_
    refine RunC.ret ?_
    have hq := oI h
    subst q0
    exact bodyQ.pure (.inr rfl) rfl (Res.one rfl (RV.tmp rfl))
def x_slices_EqualFunc_float32_float32_float32_float32_2Fi_SameNumber_b1 (a0 : List F) (a1 : List F) (v1 : Int) : Option (LR (Int) (Unit) (Bool)) :=
 bsel (decide (v1 < (a0.length : Int))) (
  obind (at? a0 v1) fun (e2 : F) =>
  obind (at? a1 v1) fun (e3 : F) =>
  obind (i_SameNumber e2 e3) fun (r4 : Bool) =>
  bsel r4 (
   olet (IntKind.i64.wrap (v1 + 1)) fun (x5 : Int) =>
   some (LR.next x5)) (
   some (LR.ret false))) (
  some (LR.out ()))
def x_slices_EqualFunc_float32_float32_float32_float32_2Fi_SameNumber_s1 (a0 : List F) (a1 : List F) : (Int) → Option (LR (Int) (Unit) (Bool)) := fun s => x_slices_EqualFunc_float32_float32_float32_float32_2Fi_SameNumber_b1 a0 a1 s
def x_slices_EqualFunc_float32_float32_float32_float32_2Fi_SameNumber_k1  : Option (Bool) :=
 some true
def x_slices_EqualFunc_float32_float32_float32_float32_2Fi_SameNumber (a0 : List F) (a1 : List F) : Option (Bool) :=
 bsel (!decide ((a0.length : Int) = (a1.length : Int))) (
  some false) (
  obind (loopM (x_slices_EqualFunc_float32_float32_float32_float32_2Fi_SameNumber_s1 a0 a1) 0) fun z => osum z (fun _ => x_slices_EqualFunc_float32_float32_float32_float32_2Fi_SameNumber_k1) (fun r => some r))
theorem x_slices_EqualFunc_float32_float32_float32_float32_2Fi_SameNumber_ok (a0 : List F) (a1 : List F) (q0 : Bool) (h : x_slices_EqualFunc_float32_float32_float32_float32_2Fi_SameNumber a0 a1 = some q0) : Ev Try.prog 155 [(sFc a0), (sFc a1), fn (.func 156) [] []] [] (b q0) [] := by
 refine yE Try.func155 0 65 0 ([(0, (sFc a0)), (1, (sFc a1)), (2, fn (.func 156) [] [])]) [] rfl ?_
 unfold x_slices_EqualFunc_float32_float32_float32_float32_2Fi_SameNumber at h
 refine zQ<|ya rfl (b false)<|zN ?_
 refine yS<|yS ?_
 rcases oB h with ⟨hc1, h⟩ | ⟨hc1, h⟩
 ·refine yW<|ym rfl (sFc a0)<|yl rfl (i64 (a0.length : Int)) (LOp.len_sl und26 rfl rfl)<|ym rfl (sFc a1)<|yl rfl (i64 (a1.length : Int)) (LOp.len_sl und26 rfl rfl)<|yl rfl (b true) (LOp.eqb (LOp.neq rfl rfl rfl) hc1)<|zN ?_
  refine yT<|zQ<|ya rfl (b false)<|zN ?_
  refine RunC.ret ?_
  have hq := oI h
  subst q0
  exact bodyQ.pure (.inr rfl) rfl (Res.one rfl (RV.tmp rfl))
 ·refine yW<|ym rfl (sFc a0)<|yl rfl (i64 (a0.length : Int)) (LOp.len_sl und26 rfl rfl)<|ym rfl (sFc a1)<|yl rfl (i64 (a1.length : Int)) (LOp.len_sl und26 rfl rfl)<|yl rfl (b false) (LOp.eqb (LOp.neq rfl rfl rfl) hc1)<|zN ?_
  refine yF<|RunC.skip<|yS<|zQ<|ym rfl (sFc a0)<|yl rfl (i64 (a0.length : Int)) (LOp.len_sl und26 rfl rfl)<|ym rfl (i64 0)<|zN ?_
  obtain ⟨z2, hz_2, h⟩ := oS h
  refine RunC.cutN (fun τ Γ => WeakLe τ [] ∧ DeadLe Γ [] ∧ z2 = .inl ()) ?_ ?_
  ·refine RunC.block (RunC.loop (RunL.loopM (x := z2) (x_slices_EqualFunc_float32_float32_float32_float32_2Fi_SameNumber_s1 a0 a1) (fun (s : Int) τ Γ => WeakLe τ [(1, (sFc a1)), (2, fn (.func 156) [] []), (15, (sFc a0)), (16, i64 (a0.length : Int)), (17, i64 s)] ∧ DeadLe Γ []) ?_ _ _ _ hz_2 ⟨⟨aR, aR, aR, aR, aR, trivial⟩, trivial⟩))
   rintro v1 τ2 Γ2 y2_ ⟨hw2, hd2⟩ h2_ ho2 hr2
   refine RunC.wl (τ' := [(1, (sFc a1)), (2, fn (.func 156) [] []), (15, (sFc a0)), (16, i64 (a0.length : Int)), (17, i64 v1)]) (Γ' := []) hw2 hd2 ?_
   replace h2_ : x_slices_EqualFunc_float32_float32_float32_float32_2Fi_SameNumber_b1 a0 a1 v1 = some y2_ := h2_
   unfold x_slices_EqualFunc_float32_float32_float32_float32_2Fi_SameNumber_b1 at h2_
   refine yS ?_
   rcases oB h2_ with ⟨hc2, h2_⟩ | ⟨hc2, h2_⟩
   ·refine yW<|yl rfl (b true) (LOp.eqb (LOp.lss rfl rfl rfl) hc2)<|zN ?_
    refine yS<|yT<|RunC.skip<|yS<|RunC.block<|yS ?_
    obtain ⟨e2, he3, h2_⟩ := oS h2_
    refine yW<|ym rfl (i64 v1)<|yl rfl (ptr [f32 e2]) (LOp.le (LOp.ix (f := f32) und26 siz28 rfl rfl rfl rfl he3) ALe.ptr)<|yl rfl (f32 e2) (y2 agg28)<|ya rfl (i64 v1)<|ya rfl (f32 e2)<|zN ?_
    refine yS ?_
    obtain ⟨e3, he4, h2_⟩ := oS h2_
    refine yW<|ym rfl (sFc a1)<|ym rfl (i64 v1)<|yl rfl (ptr [f32 e3]) (LOp.le (LOp.ix (f := f32) und26 siz28 rfl rfl rfl rfl he4) ALe.ptr)<|yl rfl (f32 e3) (y2 agg28)<|ya rfl (f32 e3)<|zN ?_
    refine yS ?_
    obtain ⟨r4, hf5, h2_⟩ := oS h2_
    rcases oB h2_ with ⟨hc6, h2_⟩ | ⟨hc6, h2_⟩
    ·refine yW<|ym rfl (fn (.func 156) [] [])<|ym rfl (f32 e2)<|ym rfl (f32 e3)<|yd rfl (b true) (TOp.eqb (TOp.callB (CallAs.fn ent156 rfl rfl rfl rfl) (bP bN0) rfl rfl (i_SameNumber_ok e2 e3 r4 hf5)) hc6)<|yl rfl (b false) y1<|zN ?_
     refine RunC.wl (τ' := [(1, (sFc a1)), (2, fn (.func 156) [] []), (15, (sFc a0)), (16, i64 (a0.length : Int)), (17, i64 v1), (30, b false)]) (Γ' := []) ⟨aR, aR, aR, aR, aR, aR, trivial⟩ trivial<|yF<|RunC.skip ?_
     obtain ⟨x5, hx7, h2_⟩ := oL h2_
     refine yW<|yl rfl (i64 x5) (LOp.eqr (LOp.add rfl rfl rfl) (congrArg (ik .i64) hx7))<|ym rfl (i64 x5)<|zN ?_
     cases oI h2_
     exact ⟨_, rfl, ⟨aR, aR, aR, aR, aR, trivial⟩, trivial⟩
    ·refine yW<|ym rfl (fn (.func 156) [] [])<|ym rfl (f32 e2)<|ym rfl (f32 e3)<|yd rfl (b false) (TOp.eqb (TOp.callB (CallAs.fn ent156 rfl rfl rfl rfl) (bP bN0) rfl rfl (i_SameNumber_ok e2 e3 r4 hf5)) hc6)<|yl rfl (b true) y0<|zN ?_
     refine RunC.wl (τ' := [(1, (sFc a1)), (2, fn (.func 156) [] []), (15, (sFc a0)), (16, i64 (a0.length : Int)), (17, i64 v1), (30, b true)]) (Γ' := []) ⟨aR, aR, aR, aR, aR, aR, trivial⟩ trivial<|yT<|zQ<|ya rfl (b false)<|zN ?_
     refine RunC.ret ?_
     cases oI h2_
     have hx3_ := hr2 _ rfl
     subst hx3_
     have hq := oI h
     subst q0
     exact bodyQ.pure (.inr rfl) rfl (Res.one rfl (RV.tmp rfl))
   ·refine yW<|yl rfl (b false) (LOp.eqb (LOp.lss rfl rfl rfl) hc2)<|zN ?_
    refine yS<|yF<|RunC.exit ?_
    cases oI h2_
    have hx := ho2 _ rfl
    exact ⟨trivial, trivial, hx⟩
  ·rintro τ4 Γ4 ⟨hw4, hd4, rfl⟩
   refine RunC.wl hw4 hd4 ?_
   replace h : x_slices_EqualFunc_float32_float32_float32_float32_2Fi_SameNumber_k1 = some q0 := h
   unfold x_slices_EqualFunc_float32_float32_float32_float32_2Fi_SameNumber_k1 at h
   refine zQ<|ya rfl (b true)<|zN ?_
   refine RunC.ret ?_
   have hq := oI h
   subst q0
   exact bodyQ.pure (.inr rfl) rfl (Res.one rfl (RV.tmp rfl))
def i_sameNumbers (a0 : List F) (a1 : List F) : Option (Bool) :=
 obind (x_slices_EqualFunc_float32_float32_float32_float32_2Fi_SameNumber a0 a1) fun (r1 : Bool) =>
 some r1
theorem i_sameNumbers_ok (a0 : List F) (a1 : List F) (q0 : Bool) (h : i_sameNumbers a0 a1 = some q0) : Ev Try.prog 103 [(sFc a0), (sFc a1)] [] (b q0) [] := by
 refine yE Try.func103 0 17 0 [(0, (sFc a0)), (1, (sFc a1))] [] rfl ?_
 unfold i_sameNumbers at h
 refine zQ<|ya rfl (b false)<|zN ?_
 refine yS ?_
 obtain ⟨r1, hf1, h⟩ := oS h
 refine yW<|ym rfl (sFc a0)<|ym rfl (sFc a1)<|yd rfl (b r1) (yc ent155 rfl rfl (bS (bS (Bors.cons (Bor.fn bN bN) bN))) (x_slices_EqualFunc_float32_float32_float32_float32_2Fi_SameNumber_ok a0 a1 r1 hf1))<|ya rfl (b r1)<|zN ?_
 refine RunC.ret ?_
 have hq := oI h
 subst q0
 exact bodyQ.pure (.inr rfl) rfl (Res.one rfl (RV.tmp rfl))
def i_SameMatrix (a0 : Int) (a1 : Int) (a2 : List F) (a3 : Int) (a4 : Int) (a5 : List F) : Option (Bool) :=
 bsel (decide (a0 = a3)) (
  bsel (decide (a1 = a4)) (
   obind (i_sameNumbers a2 a5) fun (r1 : Bool) =>
   some r1) (
   some false)) (
  some false)
theorem i_SameMatrix_ok (a0 : Int) (a1 : Int) (a2 : List F) (a3 : Int) (a4 : Int) (a5 : List F) (q0 : Bool) (h : i_SameMatrix a0 a1 a2 a3 a4 a5 = some q0) : Ev Try.prog 39 [agg (mXc a0 a1 a2), agg (mXc a3 a4 a5)] [] (b q0) [] := by
 refine yE Try.func39 0 49 0 [(0, agg (mXc a0 a1 a2)), (1, agg (mXc a3 a4 a5))] [] rfl ?_
 unfold i_SameMatrix at h
 refine zQ<|yd rfl (ptr (mXc a0 a1 a2)) (TOp.box_s rfl rfl rfl)<|yd rfl (ptr (mXc a3 a4 a5)) (TOp.box_s rfl rfl rfl)<|ya rfl (b false)<|zN ?_
 refine yS ?_
 rcases oB h with ⟨hc1, h⟩ | ⟨hc1, h⟩
 ·rcases oB h with ⟨hc2, h⟩ | ⟨hc2, h⟩
  ·obtain ⟨r1, hf3, h⟩ := oS h
   refine yW<|yl rfl (ptr (mXc a0 a1 a2)) (LOp.fap und33 rfl siz2 rfl rfl rfl)<|yl rfl (i64 a0) (y2 agg2)<|yl rfl (ptr (mXc a3 a4 a5)) (LOp.fap und33 rfl siz2 rfl rfl rfl)<|yl rfl (i64 a3) (y2 agg2)<|yl rfl (b true) (LOp.eqb (LOp.eql rfl rfl rfl) hc1)<|ym rfl (b true)<|yl rfl (ptr [i64 a1, (sFc a2)]) (LOp.fap und33 rfl siz2 rfl rfl rfl)<|yl rfl (i64 a1) (y2 agg2)<|yl rfl (ptr [i64 a4, (sFc a5)]) (LOp.fap und33 rfl siz2 rfl rfl rfl)<|yl rfl (i64 a4) (y2 agg2)<|yl rfl (b true) (LOp.eqb (LOp.eql rfl rfl rfl) hc2)<|yl rfl (b true) yq<|ym rfl (b true)<|yl rfl (ptr [(sFc a2)]) (LOp.fap und33 rfl siz26 rfl rfl rfl)<|yl rfl (sFc a2) (y2 agg26)<|yl rfl (ptr [(sFc a5)]) (LOp.fap und33 rfl siz26 rfl rfl rfl)<|yl rfl (sFc a5) (y2 agg26)<|yd rfl (b r1) (yc ent103 rfl rfl (bS (bS bN)) (i_sameNumbers_ok a2 a5 r1 hf3))<|yl rfl (b r1) yq<|ya rfl (b r1)<|zN ?_
   refine RunC.ret ?_
   have hq := oI h
   subst q0
   exact bodyQ.pure (.inr rfl) rfl (Res.one rfl (RV.tmp rfl))
  ·refine yW<|yl rfl (ptr (mXc a0 a1 a2)) (LOp.fap und33 rfl siz2 rfl rfl rfl)<|yl rfl (i64 a0) (y2 agg2)<|yl rfl (ptr (mXc a3 a4 a5)) (LOp.fap und33 rfl siz2 rfl rfl rfl)<|yl rfl (i64 a3) (y2 agg2)<|yl rfl (b true) (LOp.eqb (LOp.eql rfl rfl rfl) hc1)<|ym rfl (b true)<|yl rfl (ptr [i64 a1, (sFc a2)]) (LOp.fap und33 rfl siz2 rfl rfl rfl)<|yl rfl (i64 a1) (y2 agg2)<|yl rfl (ptr [i64 a4, (sFc a5)]) (LOp.fap und33 rfl siz2 rfl rfl rfl)<|yl rfl (i64 a4) (y2 agg2)<|yl rfl (b false) (LOp.eqb (LOp.eql rfl rfl rfl) hc2)<|yl rfl (b false) yq<|ym rfl (b false)<|ROps.s rfl rfl rfl<|ROps.s rfl rfl rfl<|ROps.s rfl rfl rfl<|ROps.s rfl rfl rfl<|ROps.s rfl rfl rfl<|yl rfl (b false) yp<|ya rfl (b false)<|zN ?_
   refine RunC.ret ?_
   have hq := oI h
   subst q0
   exact bodyQ.pure (.inr rfl) rfl (Res.one rfl (RV.tmp rfl))
 ·refine yW<|yl rfl (ptr (mXc a0 a1 a2)) (LOp.fap und33 rfl siz2 rfl rfl rfl)<|yl rfl (i64 a0) (y2 agg2)<|yl rfl (ptr (mXc a3 a4 a5)) (LOp.fap und33 rfl siz2 rfl rfl rfl)<|yl rfl (i64 a3) (y2 agg2)<|yl rfl (b false) (LOp.eqb (LOp.eql rfl rfl rfl) hc1)<|ym rfl (b false)<|ROps.s rfl rfl rfl<|ROps.s rfl rfl rfl<|ROps.s rfl rfl rfl<|ROps.s rfl rfl rfl<|ROps.s rfl rfl rfl<|yl rfl (b false) yp<|ym rfl (b false)<|ROps.s rfl rfl rfl<|ROps.s rfl rfl rfl<|ROps.s rfl rfl rfl<|ROps.s rfl rfl rfl<|ROps.s rfl rfl rfl<|yl rfl (b false) yp<|ya rfl (b false)<|zN ?_
  refine RunC.ret ?_
  have hq := oI h
  subst q0
  exact bodyQ.pure (.inr rfl) rfl (Res.one rfl (RV.tmp rfl))
def x_math_Inf_k1 (v1 : Int) : Option (F) :=
 need ((decide (0 ≤ v1) && decide (v1.toNat < 2 ^ FloatKind.f64.format.width))) <|
 some (ffb .f64 v1)
def x_math_Inf (a0 : Int) : Option (F) :=
 bsel (decide (0 ≤ a0)) (
  x_math_Inf_k1 9218868437227405312) (
  x_math_Inf_k1 18442240474082181120)
theorem x_math_Inf_ok (a0 : Int) (q0 : F) (h : x_math_Inf a0 = some q0) : Ev Try.prog 104 [i64 a0] [] (f64 q0) [] := by
 refine yE Try.func104 0 17 0 [(0, i64 a0)] [] rfl ?_
 unfold x_math_Inf at h
 refine zQ<|yl rfl (f64 (some 0)) (LOp.le (LOp.assign rfl rfl) (ALe.fl (by kernel_rfl) (by kernel_rfl)))<|zN ?_
 refine zQ<|ya rfl (ik .u64 0)<|zN ?_
 refine yS<|RunC.cutN (fun τ Γ => ∃ (v1 : Int), WeakLe τ [(3, ik .u64 v1)] ∧ DeadLe Γ [] ∧ x_math_Inf_k1 v1 = some q0) ?_ ?_
 ·refine yS ?_
  rcases oB h with ⟨hc1, h⟩ | ⟨hc1, h⟩
  ·refine yW<|ym rfl (i64 a0)<|yl rfl (b true) (LOp.eqb (LOp.geq rfl rfl rfl) hc1)<|zN ?_
   refine yT<|yW<|ya rfl (ik .u64 9218868437227405312)<|zN ?_
   exact ⟨9218868437227405312, ⟨aR, trivial⟩, trivial, h⟩
  ·refine yW<|ym rfl (i64 a0)<|yl rfl (b false) (LOp.eqb (LOp.geq rfl rfl rfl) hc1)<|zN ?_
   refine yF<|yW<|ya rfl (ik .u64 18442240474082181120)<|zN ?_
   exact ⟨18442240474082181120, ⟨aR, trivial⟩, trivial, h⟩
 ·rintro τ2 Γ2 ⟨v1, hw2, hd2, h⟩
  refine RunC.wl hw2 hd2 ?_
  unfold x_math_Inf_k1 at h
  refine yS ?_
  obtain ⟨hz2, h⟩ := need_some h
  refine yW<|ym rfl (ik .u64 v1)<|yl rfl (f64 (ffb .f64 v1)) (LOp.ffromx ext157 rfl rfl hz2)<|ya rfl (f64 (ffb .f64 v1))<|zN ?_
  refine RunC.ret ?_
  have hq := oI h
  subst q0
  exact bodyQ.pure (.inr rfl) rfl (Res.one rfl (RV.tmp rfl))
def i_mul64 (a0 : F) (a1 : F) : Option (F) :=
 olet (fop .mul .f64 a0 a1) fun (x1 : F) =>
 some x1
theorem i_mul64_ok (a0 : F) (a1 : F) (q0 : F) (h : i_mul64 a0 a1 = some q0) : Ev Try.prog 105 [f64 a0, f64 a1] [] (f64 q0) [] := by
 refine yE Try.func105 0 17 0 [(0, f64 a0), (1, f64 a1)] [] rfl ?_
 unfold i_mul64 at h
 refine zQ<|yl rfl (f64 (some 0)) (LOp.le (LOp.assign rfl rfl) (ALe.fl (by kernel_rfl) (by kernel_rfl)))<|zN ?_
 refine yS ?_
 obtain ⟨x1, hx1, h⟩ := oL h
 refine yW<|ym rfl (f64 a0)<|ym rfl (f64 a1)<|yd rfl (f64 x1) (TOp.eqr (TOp.fop (.inr (.inr (.inl rfl))) rfl (OpF.tmp rfl) (OpF.tmp rfl)) (congrArg (f .f64) hx1))<|ya rfl (f64 x1)<|zN ?_
 refine RunC.ret ?_
 have hq := oI h
 subst q0
 exact bodyQ.pure (.inr rfl) rfl (Res.one rfl (RV.tmp rfl))
def i_ExpNumber_b1 (x4 : F) (y5 : F) (v6 : Int) : Option (LR (F × Int) (F) (F)) :=
 bsel (decide (1 ≤ v6)) (
  obind (i_mul64 x4 y5) fun (r7 : F) =>
  olet (fint .f64 v6) fun (x8 : F) =>
  olet (fop .quo .f64 r7 x8) fun (x9 : F) =>
  olet (fop .add .f64 (some 4607182418800017408) x9) fun (x10 : F) =>
  olet (IntKind.i64.wrap (v6 - 1)) fun (x11 : Int) =>
  some (LR.next (x10, x11))) (
  some (LR.out y5))
def i_ExpNumber_s1 (x4 : F) : (F × Int) → Option (LR (F × Int) (F) (F)) := fun s => i_ExpNumber_b1 x4 s.1 s.2
def i_ExpNumber_b2 (y13 : F) (v14 : Int) : Option (LR (F × Int) (F) (F)) :=
 bsel (decide (v14 < 8)) (
  obind (i_mul64 y13 y13) fun (r15 : F) =>
  olet (IntKind.i64.wrap (v14 + 1)) fun (x16 : Int) =>
  some (LR.next (r15, x16))) (
  some (LR.out y13))
def i_ExpNumber_s2  : (F × Int) → Option (LR (F × Int) (F) (F)) := fun s => i_ExpNumber_b2 s.1 s.2
def i_ExpNumber_k2 (y17 : F) : Option (F) :=
 obind (fnarrow y17) fun (y18 : F) =>
 some y18
def i_ExpNumber_k1 (y12 : F) : Option (F) :=
 obind (loopM (i_ExpNumber_s2) (y12, 0)) fun z => osum z (fun e => i_ExpNumber_k2 e) (fun r => some r)
def i_ExpNumber (a0 : F) : Option (F) :=
 bsel (flt .f32 (some 1128792064) a0) (
  obind (x_math_Inf 1) fun (r1 : F) =>
  obind (fnarrow r1) fun (y2 : F) =>
  some y2) (
  bsel (flt .f32 a0 (some 3276275712)) (
   some (some 0)) (
   olet (fwiden a0) fun (x3 : F) =>
   olet (fop .quo .f64 x3 (some 4643211215818981376)) fun (x4 : F) =>
   obind (loopM (i_ExpNumber_s1 x4) (some 4607182418800017408, 12)) fun z => osum z (fun e => i_ExpNumber_k1 e) (fun r => some r)))
theorem i_ExpNumber_ok (a0 : F) (q0 : F) (h : i_ExpNumber a0 = some q0) : Ev Try.prog 40 [f32 a0] [] (f32 q0) [] := by
 refine yE Try.func40 0 73 0 [(0, f32 a0)] [] rfl ?_
 unfold i_ExpNumber at h
 refine zQ<|yl rfl (f32 (some 0)) (LOp.le (LOp.assign rfl rfl) (ALe.fl (by kernel_rfl) (by kernel_rfl)))<|zN ?_
 refine yS<|RunC.block<|yS ?_
 rcases oB h with ⟨hc1, h⟩ | ⟨hc1, h⟩
 ·refine yW<|ym rfl (f32 a0)<|yl rfl (b true) (LOp.eqb (LOp.fgt rfl (OpF.tmp rfl) (OpF.const rfl (by kernel_rfl) (by kernel_rfl))) hc1)<|ya rfl (b true)<|zN ?_
  refine yT<|yS ?_
  obtain ⟨r1, hf2, h⟩ := oS h
  obtain ⟨y2, hy3, h⟩ := oS h
  refine yW<|yd rfl (f64 r1) (yc ent104 rfl rfl bN0 (x_math_Inf_ok 1 r1 hf2))<|yd rfl (f32 y2) (TOp.narrow (src := 40) (dst := 28) ⟨_, pun40⟩ pun28 rfl (OpF.tmp rfl) hy3)<|ya rfl (f32 y2)<|zN ?_
  refine RunC.ret ?_
  have hq := oI h
  subst q0
  exact bodyQ.pure (.inr rfl) rfl (Res.one rfl (RV.tmp rfl))
 ·refine yW<|ym rfl (f32 a0)<|yl rfl (b false) (LOp.eqb (LOp.fgt rfl (OpF.tmp rfl) (OpF.const rfl (by kernel_rfl) (by kernel_rfl))) hc1)<|ya rfl (b false)<|zN ?_
  refine yF<|yS ?_
  rcases oB h with ⟨hc4, h⟩ | ⟨hc4, h⟩
  ·refine yW<|ym rfl (f32 a0)<|yl rfl (b true) (LOp.eqb (LOp.flt rfl (OpF.tmp rfl) (OpF.const rfl (by kernel_rfl) (by kernel_rfl))) hc4)<|ya rfl (b true)<|zN ?_
   refine yT<|zQ<|yl rfl (f32 (some 0)) (LOp.le (LOp.assign rfl rfl) (ALe.fl (by kernel_rfl) (by kernel_rfl)))<|zN ?_
   refine RunC.ret ?_
   have hq := oI h
   subst q0
   exact bodyQ.pure (.inr rfl) rfl (Res.one rfl (RV.tmp rfl))
  ·refine yW<|ym rfl (f32 a0)<|yl rfl (b false) (LOp.eqb (LOp.flt rfl (OpF.tmp rfl) (OpF.const rfl (by kernel_rfl) (by kernel_rfl))) hc4)<|ya rfl (b false)<|zN ?_
   refine yF<|RunC.skip<|yS ?_
   obtain ⟨x3, hx5, h⟩ := oL h
   obtain ⟨x4, hx6, h⟩ := oL h
   refine yW<|ym rfl (f32 a0)<|yd rfl (f64 x3) (TOp.eqr (TOp.widen (src := 28) (dst := 40) ⟨_, pun28⟩ pun40 rfl (OpF.tmp rfl)) (congrArg (f .f64) hx5))<|yd rfl (f64 x4) (TOp.eqr (TOp.fop (.inr (.inr (.inr rfl))) rfl (OpF.tmp rfl) (OpF.const rfl (by kernel_rfl) (by kernel_rfl))) (congrArg (f .f64) hx6))<|ya rfl (f64 x4)<|yl rfl (f64 (some 4607182418800017408)) (LOp.le (LOp.assign rfl rfl) (ALe.fl (by kernel_rfl) (by kernel_rfl)))<|zN ?_
   refine yS<|zQ<|ya rfl (i64 12)<|zN ?_
   obtain ⟨z3, hz_3, h⟩ := oS h
   refine RunC.cutN (fun τ Γ => ∃ (y12 : F), WeakLe τ [(4, f64 y12)] ∧ DeadLe Γ [] ∧ z3 = .inl y12) ?_ ?_
   ·refine RunC.block (RunC.loop (RunL.loopM (x := z3) (i_ExpNumber_s1 x4) (fun (s : F × Int) τ Γ => WeakLe τ [(3, f64 x4), (4, f64 s.1), (5, i64 s.2)] ∧ DeadLe Γ []) ?_ _ _ _ hz_3 ⟨⟨aR, aR, aR, trivial⟩, trivial⟩))
    rintro ⟨y5, v6⟩ τ3 Γ3 y3_ ⟨hw3, hd3⟩ h3_ ho3 hr3
    refine RunC.wl (τ' := [(3, f64 x4), (4, f64 y5), (5, i64 v6)]) (Γ' := []) hw3 hd3 ?_
    replace h3_ : i_ExpNumber_b1 x4 y5 v6 = some y3_ := h3_
    unfold i_ExpNumber_b1 at h3_
    refine yS<|yS ?_
    rcases oB h3_ with ⟨hc7, h3_⟩ | ⟨hc7, h3_⟩
    ·refine yW<|ym rfl (i64 v6)<|yl rfl (b true) (LOp.eqb (LOp.geq rfl rfl rfl) hc7)<|zN ?_
     refine yT<|RunC.skip<|yS<|RunC.block ?_
     obtain ⟨r7, hf8, h3_⟩ := oS h3_
     obtain ⟨x8, hx9, h3_⟩ := oL h3_
     obtain ⟨x9, hx10, h3_⟩ := oL h3_
     obtain ⟨x10, hx11, h3_⟩ := oL h3_
     refine yW<|ym rfl (f64 x4)<|ym rfl (f64 y5)<|yd rfl (f64 r7) (yc ent105 rfl rfl (bP bN0) (i_mul64_ok x4 y5 r7 hf8))<|ym rfl (i64 v6)<|yl rfl (f64 x8) (LOp.eqr (LOp.i2f (src := 3) (dst := 40) ⟨_, pun3⟩ pun40 rfl rfl) (congrArg (f .f64) hx9))<|yd rfl (f64 x9) (TOp.eqr (TOp.fop (.inr (.inr (.inr rfl))) rfl (OpF.tmp rfl) (OpF.tmp rfl)) (congrArg (f .f64) hx10))<|yd rfl (f64 x10) (TOp.eqr (TOp.fop (.inl rfl) rfl (OpF.const rfl (by kernel_rfl) (by kernel_rfl)) (OpF.tmp rfl)) (congrArg (f .f64) hx11))<|ya rfl (f64 x10)<|zN ?_
     obtain ⟨x11, hx12, h3_⟩ := oL h3_
     refine yW<|ym rfl (i64 v6)<|yl rfl (i64 x11) (LOp.eqr (LOp.sub rfl rfl rfl) (congrArg (ik .i64) hx12))<|ya rfl (i64 x11)<|zN ?_
     cases oI h3_
     exact ⟨_, rfl, ⟨aR, aR, aR, trivial⟩, trivial⟩
    ·refine yW<|ym rfl (i64 v6)<|yl rfl (b false) (LOp.eqb (LOp.geq rfl rfl rfl) hc7)<|zN ?_
     refine yF<|RunC.exit ?_
     cases oI h3_
     have hx := ho3 _ rfl
     exact ⟨y5, ⟨aR, trivial⟩, trivial, hx⟩
   ·rintro τ4 Γ4 ⟨y12, hw4, hd4, rfl⟩
    refine RunC.wl hw4 hd4 ?_
    replace h : i_ExpNumber_k1 y12 = some q0 := h
    unfold i_ExpNumber_k1 at h
    refine yS<|zQ<|ym rfl (i64 0)<|zN ?_
    obtain ⟨z5, hz_5, h⟩ := oS h
    refine RunC.cutN (fun τ Γ => ∃ (y17 : F), WeakLe τ [(4, f64 y17)] ∧ DeadLe Γ [] ∧ z5 = .inl y17) ?_ ?_
    ·refine RunC.block (RunC.loop (RunL.loopM (x := z5) (i_ExpNumber_s2) (fun (s : F × Int) τ Γ => WeakLe τ [(4, f64 s.1), (28, i64 s.2)] ∧ DeadLe Γ []) ?_ _ _ _ hz_5 ⟨⟨aR, aR, trivial⟩, trivial⟩))
     rintro ⟨y13, v14⟩ τ5 Γ5 y5_ ⟨hw5, hd5⟩ h5_ ho5 hr5
     refine RunC.wl (τ' := [(4, f64 y13), (28, i64 v14)]) (Γ' := []) hw5 hd5 ?_
     replace h5_ : i_ExpNumber_b2 y13 v14 = some y5_ := h5_
     unfold i_ExpNumber_b2 at h5_
     refine yS ?_
     rcases oB h5_ with ⟨hc13, h5_⟩ | ⟨hc13, h5_⟩
     ·refine yW<|yl rfl (b true) (LOp.eqb (LOp.lss rfl rfl rfl) hc13)<|zN ?_
      refine yS<|yT<|RunC.skip<|yS<|RunC.block ?_
      obtain ⟨r15, hf14, h5_⟩ := oS h5_
      refine yW<|ym rfl (f64 y13)<|ym rfl (f64 y13)<|yd rfl (f64 r15) (yc ent105 rfl rfl (bP bN0) (i_mul64_ok y13 y13 r15 hf14))<|ya rfl (f64 r15)<|zN ?_
      obtain ⟨x16, hx15, h5_⟩ := oL h5_
      refine yW<|yl rfl (i64 x16) (LOp.eqr (LOp.add rfl rfl rfl) (congrArg (ik .i64) hx15))<|ym rfl (i64 x16)<|zN ?_
      cases oI h5_
      exact ⟨_, rfl, ⟨aR, aR, trivial⟩, trivial⟩
     ·refine yW<|yl rfl (b false) (LOp.eqb (LOp.lss rfl rfl rfl) hc13)<|zN ?_
      refine yS<|yF<|RunC.exit ?_
      cases oI h5_
      have hx := ho5 _ rfl
      exact ⟨y13, ⟨aR, trivial⟩, trivial, hx⟩
    ·rintro τ6 Γ6 ⟨y17, hw6, hd6, rfl⟩
     refine RunC.wl hw6 hd6 ?_
     replace h : i_ExpNumber_k2 y17 = some q0 := h
     unfold i_ExpNumber_k2 at h
     refine yS ?_
     obtain ⟨y18, hy16, h⟩ := oS h
     refine yW<|ym rfl (f64 y17)<|yd rfl (f32 y18) (TOp.narrow (src := 40) (dst := 28) ⟨_, pun40⟩ pun28 rfl (OpF.tmp rfl) hy16)<|ya rfl (f32 y18)<|zN ?_
     refine RunC.ret ?_
     have hq := oI h
     subst q0
     exact bodyQ.pure (.inr rfl) rfl (Res.one rfl (RV.tmp rfl))
def i_weigh_1 (a0 : Int) (a1 : Int) (a2 : F) (a3 : Int) (a4 : Int) (a5 : List F) (a6 : F) (a7 : Int) (a8 : Int) (a9 : List F) : Option (F) :=
 obind (i_Matrix_at a3 a4 a5 a0 a1) fun (r1 : F) =>
 obind (i_mul a2 r1) fun (r2 : F) =>
 obind (i_Matrix_at a7 a8 a9 a0 a1) fun (r3 : F) =>
 obind (i_mul a6 r3) fun (r4 : F) =>
 olet (fop .add .f32 r2 r4) fun (x5 : F) =>
 some x5
theorem i_weigh_1_ok (a0 : Int) (a1 : Int) (a2 : F) (a3 : Int) (a4 : Int) (a5 : List F) (a6 : F) (a7 : Int) (a8 : Int) (a9 : List F) (q0 : F) (h : i_weigh_1 a0 a1 a2 a3 a4 a5 a6 a7 a8 a9 = some q0) : Ev Try.prog 158 [i64 a0, i64 a1, ptr [f32 a2], ptr (mXc a3 a4 a5), ptr [f32 a6], ptr (mXc a7 a8 a9)] [] (f32 q0) [] := by
 refine yE Try.func158 0 45 0 ([(0, i64 a0), (1, i64 a1), (2, ptr [f32 a2]), (3, ptr (mXc a3 a4 a5)), (4, ptr [f32 a6]), (5, ptr (mXc a7 a8 a9))]) [] rfl ?_
 unfold i_weigh_1 at h
 refine zQ<|yl rfl (f32 (some 0)) (LOp.le (LOp.assign rfl rfl) (ALe.fl (by kernel_rfl) (by kernel_rfl)))<|zN ?_
 refine yS ?_
 obtain ⟨r1, hf1, h⟩ := oS h
 obtain ⟨r2, hf2, h⟩ := oS h
 obtain ⟨r3, hf3, h⟩ := oS h
 obtain ⟨r4, hf4, h⟩ := oS h
 obtain ⟨x5, hx5, h⟩ := oL h
 refine RunC.region_draw (Γ' := []) 14 mixed 
  (tl rfl (f32 a2) (y2 agg28) <|
  (tl rfl (agg (mXc a3 a4 a5)) (yL agg33 siz33) <|
  (tm rfl (i64 a0) <|
  (tm rfl (i64 a1) <|
  (TR.d (r := f32 r1) (fs := []) rfl rfl (TOp.callB (CallAs.func ent94 rfl rfl) (Bors.cons (Bor.agg (bP (bP (bS bN)))) (bP bN0)) rfl rfl (i_Matrix_at_ok a3 a4 a5 a0 a1 r1 hf1)) <|
  (TR.d (r := f32 r2) (fs := []) rfl rfl (yc ent76 rfl rfl (bP bN0) (i_mul_ok a2 r1 r2 hf2)) <|
  (tl rfl (f32 a6) (y2 agg28) <|
  (tl rfl (agg (mXc a7 a8 a9)) (yL agg33 siz33) <|
  (tm rfl (i64 a0) <|
  (tm rfl (i64 a1) <|
  (TR.d (r := f32 r3) (fs := []) rfl rfl (TOp.callB (CallAs.func ent94 rfl rfl) (Bors.cons (Bor.agg (bP (bP (bS bN)))) (bP bN0)) rfl rfl (i_Matrix_at_ok a7 a8 a9 a0 a1 r3 hf3)) <|
  (TR.d (r := f32 r4) (fs := []) rfl rfl (yc ent76 rfl rfl (bP bN0) (i_mul_ok a6 r3 r4 hf4)) <|
  (TR.d (r := f32 x5) (fs := []) rfl rfl (TOp.eqr (TOp.fop (.inl rfl) rfl (OpF.tmp rfl) (OpF.tmp rfl)) (congrArg (f .f32) hx5)) <|
  (tl rfl (f32 x5) (LOp.assign rfl rfl) <|
  TR.nil)))))))))))))) rfl (by kernel_rfl) rfl fills_nil rfl ?_
 iterate 14 refine ROps.dropS ?_
 refine ROps.drop0<|zN ?_
 refine RunC.ret ?_
 have hq := oI h
 subst q0
 exact bodyQ.pure (.inr rfl) rfl (Res.one rfl (RV.tmp rfl))
def i_made_2Fi_weigh_1_b2 (a1 : Int) (a2 : F) (a3 : Int) (a4 : Int) (a5 : List F) (a6 : F) (a7 : Int) (a8 : Int) (a9 : List F) (r1 : Int) (r2 : Int) (r3 : List F) (v6 : Int) (L7 : List F) (v9 : Int) : Option (LR ((List F) × Int) ((List F)) (Int × Int × (List F))) :=
 bsel (decide (v9 < a1)) (
  obind (i_weigh_1 v6 v9 a2 a3 a4 a5 a6 a7 a8 a9) fun (r11 : F) =>
  obind (i_Matrix_set_02o r1 r2 v6 v9 r11 L7) fun (r12 : List F) =>
  need (decide (r12.length = r3.length)) <|
  olet (IntKind.i64.wrap (v9 + 1)) fun (x13 : Int) =>
  some (LR.next (r12, x13))) (
  some (LR.out L7))
def i_made_2Fi_weigh_1_s2 (a1 : Int) (a2 : F) (a3 : Int) (a4 : Int) (a5 : List F) (a6 : F) (a7 : Int) (a8 : Int) (a9 : List F) (r1 : Int) (r2 : Int) (r3 : List F) (v6 : Int) : ((List F) × Int) → Option (LR ((List F) × Int) ((List F)) (Int × Int × (List F))) := fun s => i_made_2Fi_weigh_1_b2 a1 a2 a3 a4 a5 a6 a7 a8 a9 r1 r2 r3 v6 s.1 s.2
def i_made_2Fi_weigh_1_k2 (v6 : Int) (L14 : List F) : Option (LR ((List F) × Int) ((List F)) (Int × Int × (List F))) :=
 olet (IntKind.i64.wrap (v6 + 1)) fun (x16 : Int) =>
 some (LR.next (L14, x16))
def i_made_2Fi_weigh_1_b3 (a0 : Int) (a1 : Int) (a2 : F) (a3 : Int) (a4 : Int) (a5 : List F) (a6 : F) (a7 : Int) (a8 : Int) (a9 : List F) (r1 : Int) (r2 : Int) (r3 : List F) (L4 : List F) (v6 : Int) : Option (LR ((List F) × Int) ((List F)) (Int × Int × (List F))) :=
 bsel (decide (v6 < a0)) (
  obind (loopM (i_made_2Fi_weigh_1_s2 a1 a2 a3 a4 a5 a6 a7 a8 a9 r1 r2 r3 v6) (L4, 0)) fun z => osum z (fun e => i_made_2Fi_weigh_1_k2 v6 e) (fun r => some (LR.ret r))) (
  some (LR.out L4))
def i_made_2Fi_weigh_1_s3 (a0 : Int) (a1 : Int) (a2 : F) (a3 : Int) (a4 : Int) (a5 : List F) (a6 : F) (a7 : Int) (a8 : Int) (a9 : List F) (r1 : Int) (r2 : Int) (r3 : List F) : ((List F) × Int) → Option (LR ((List F) × Int) ((List F)) (Int × Int × (List F))) := fun s => i_made_2Fi_weigh_1_b3 a0 a1 a2 a3 a4 a5 a6 a7 a8 a9 r1 r2 r3 s.1 s.2
def i_made_2Fi_weigh_1_k3 (r1 : Int) (r2 : Int) (L17 : List F) : Option (Int × Int × (List F)) :=
 some (r1, r2, L17)
def i_made_2Fi_weigh_1 (a0 : Int) (a1 : Int) (a2 : F) (a3 : Int) (a4 : Int) (a5 : List F) (a6 : F) (a7 : Int) (a8 : Int) (a9 : List F) : Option (Int × Int × (List F)) :=
 obind3 (i_newMatrix a0 a1) fun (r1 : Int) (r2 : Int) (r3 : List F) =>
 obind (loopM (i_made_2Fi_weigh_1_s3 a0 a1 a2 a3 a4 a5 a6 a7 a8 a9 r1 r2 r3) (r3, 0)) fun z => osum z (fun e => i_made_2Fi_weigh_1_k3 r1 r2 e) (fun r => some r)
theorem i_made_2Fi_weigh_1_ok (a0 : Int) (a1 : Int) (a2 : F) (a3 : Int) (a4 : Int) (a5 : List F) (a6 : F) (a7 : Int) (a8 : Int) (a9 : List F) (q0 : Int) (q1 : Int) (q2 : List F) (h : i_made_2Fi_weigh_1 a0 a1 a2 a3 a4 a5 a6 a7 a8 a9 = some (q0, q1, q2)) : Ev Try.prog 64 [i64 a0, i64 a1, fn (.func 158) [] [ptr [f32 a2], ptr (mXc a3 a4 a5), ptr [f32 a6], ptr (mXc a7 a8 a9)]] [] (agg (oXc q0 q1 0 0 q2.length)) [⟨0, some (q2.map f32)⟩] := by
 refine yE Try.func64 3 65 0 ([(0, i64 a0), (1, i64 a1), (2, fn (.func 158) [] [ptr [f32 a2], ptr (mXc a3 a4 a5), ptr [f32 a6], ptr (mXc a7 a8 a9)])]) [⟨0, none⟩, ⟨0, none⟩, ⟨0, none⟩] rfl ?_
 unfold i_made_2Fi_weigh_1 at h
 refine zQ<|ye rfl (optr 0 1 0) [⟨1, some zMx⟩, ⟨0, none⟩, ⟨0, none⟩] (TOp.alloc_o (g := ⟨0, none⟩) 0 rfl zer33 zok33 rfl)<|zN ?_
 refine yS ?_
 obtain ⟨r1, r2, r3, hf1, h⟩ := obind3_some h
 refine yW<|ym rfl (i64 a0)<|ym rfl (i64 a1)<|ye rfl (agg (oXc r1 r2 1 1 r3.length)) [⟨1, some zMx⟩, ⟨1, some (r3.map f32)⟩, ⟨0, none⟩] (TOp.callBN (ls := [(r3.map f32)]) [1] (CallAs.func ent113 rfl rfl) (bP bN0) rfl (i_newMatrix_ok a0 a1 r1 r2 r3 hf1) (and_all (lts0_map (f := f32) (fun _ => rfl) _) rfl) (and_all (noss_map (f := f32) (fun _ => rfl) _) rfl) rfl (by decide) (ns_of ⟨⟨_, rfl⟩, trivial⟩))<|ye rfl (optr 2 1 0) [⟨1, some zMx⟩, ⟨1, some (r3.map f32)⟩, ⟨1, some zMx⟩] (TOp.alloc_o (g := ⟨0, none⟩) 2 rfl zer33 zok33 rfl)<|ys (agg (oXc r1 r2 1 1 r3.length)) (oXc r1 r2 1 1 r3.length) [⟨1, some zMx⟩, ⟨1, some (r3.map f32)⟩, ⟨1, some (oXc r1 r2 1 1 r3.length)⟩] siz33<|zN ?_
 refine yS<|zQ<|ym rfl (i64 a0)<|ym rfl (i64 0)<|zN ?_
 obtain ⟨z4, hz_4, h⟩ := oS h
 refine RunC.cutN (fun τ Γ => ∃ (L17 : List F), L17.length = r3.length ∧ WeakLe τ [(6, optr 0 1 0), (7, optr 2 1 0)] ∧ DeadLe Γ [⟨1, some zMx⟩, ⟨1, some (L17.map f32)⟩, ⟨1, some (oXc r1 r2 1 1 r3.length)⟩] ∧ z4 = .inl L17) ?_ ?_
 ·refine RunC.block (RunC.loop (RunL.loopM (x := z4) (i_made_2Fi_weigh_1_s3 a0 a1 a2 a3 a4 a5 a6 a7 a8 a9 r1 r2 r3) (fun (s : (List F) × Int) τ Γ => s.1.length = r3.length ∧ WeakLe τ [(1, i64 a1), (2, fn (.func 158) [] [ptr [f32 a2], ptr (mXc a3 a4 a5), ptr [f32 a6], ptr (mXc a7 a8 a9)]), (6, optr 0 1 0), (7, optr 2 1 0), (13, i64 a0), (14, i64 s.2)] ∧ DeadLe Γ [⟨1, some zMx⟩, ⟨1, some (s.1.map f32)⟩, ⟨1, some (oXc r1 r2 1 1 r3.length)⟩]) ?_ _ _ _ hz_4 ⟨rfl, ⟨aR, aR, aR, aR, aR, aR, trivial⟩, ⟨⟨rfl, .inr rfl⟩, ⟨rfl, .inr rfl⟩, ⟨rfl, .inr rfl⟩, trivial⟩⟩))
  rintro ⟨L4, v6⟩ τ4 Γ4 y4_ ⟨hl5, hw4, hd4⟩ h4_ ho4 hr4
  refine RunC.wl (τ' := [(1, i64 a1), (2, fn (.func 158) [] [ptr [f32 a2], ptr (mXc a3 a4 a5), ptr [f32 a6], ptr (mXc a7 a8 a9)]), (6, optr 0 1 0), (7, optr 2 1 0), (13, i64 a0), (14, i64 v6)]) (Γ' := [⟨1, some zMx⟩, ⟨1, some (L4.map f32)⟩, ⟨1, some (oXc r1 r2 1 1 r3.length)⟩]) hw4 hd4 ?_
  replace hl5 : L4.length = r3.length := hl5
  replace h4_ : i_made_2Fi_weigh_1_b3 a0 a1 a2 a3 a4 a5 a6 a7 a8 a9 r1 r2 r3 L4 v6 = some y4_ := h4_
  unfold i_made_2Fi_weigh_1_b3 at h4_
  refine yS ?_
  rcases oB h4_ with ⟨hc2, h4_⟩ | ⟨hc2, h4_⟩
  ·refine yW<|yl rfl (b true) (LOp.eqb (LOp.lss rfl rfl rfl) hc2)<|zN ?_
   refine yS<|yT<|RunC.skip<|yS<|RunC.block<|zQ<|ym rfl (i64 v6)<|ya rfl (i64 v6)<|zN ?_
   refine zQ<|ym rfl (i64 a1)<|ym rfl (i64 0)<|zN ?_
   obtain ⟨z5, hz_5, h4_⟩ := oS h4_
   refine RunC.cutN (fun τ Γ => ∃ (L14 : List F), L14.length = r3.length ∧ WeakLe τ [(1, i64 a1), (2, fn (.func 158) [] [ptr [f32 a2], ptr (mXc a3 a4 a5), ptr [f32 a6], ptr (mXc a7 a8 a9)]), (6, optr 0 1 0), (7, optr 2 1 0), (13, i64 a0), (14, i64 v6)] ∧ DeadLe Γ [⟨1, some zMx⟩, ⟨1, some (L14.map f32)⟩, ⟨1, some (oXc r1 r2 1 1 r3.length)⟩] ∧ z5 = .inl L14) ?_ ?_
   ·refine RunC.block (RunC.loop (RunL.loopM (x := z5) (i_made_2Fi_weigh_1_s2 a1 a2 a3 a4 a5 a6 a7 a8 a9 r1 r2 r3 v6) (fun (s : (List F) × Int) τ Γ => s.1.length = r3.length ∧ WeakLe τ [(1, i64 a1), (2, fn (.func 158) [] [ptr [f32 a2], ptr (mXc a3 a4 a5), ptr [f32 a6], ptr (mXc a7 a8 a9)]), (6, optr 0 1 0), (7, optr 2 1 0), (8, i64 v6), (13, i64 a0), (14, i64 v6), (17, i64 a1), (18, i64 s.2)] ∧ DeadLe Γ [⟨1, some zMx⟩, ⟨1, some (s.1.map f32)⟩, ⟨1, some (oXc r1 r2 1 1 r3.length)⟩]) ?_ _ _ _ hz_5 ⟨hl5, ⟨aR, aR, aR, aR, aR, aR, aR, aR, aR, trivial⟩, ⟨⟨rfl, .inr rfl⟩, ⟨rfl, .inr rfl⟩, ⟨rfl, .inr rfl⟩, trivial⟩⟩))
    rintro ⟨L7, v9⟩ τ5 Γ5 y5_ ⟨hl8, hw5, hd5⟩ h5_ ho5 hr5
    refine RunC.wl (τ' := [(1, i64 a1), (2, fn (.func 158) [] [ptr [f32 a2], ptr (mXc a3 a4 a5), ptr [f32 a6], ptr (mXc a7 a8 a9)]), (6, optr 0 1 0), (7, optr 2 1 0), (8, i64 v6), (13, i64 a0), (14, i64 v6), (17, i64 a1), (18, i64 v9)]) (Γ' := [⟨1, some zMx⟩, ⟨1, some (L7.map f32)⟩, ⟨1, some (oXc r1 r2 1 1 r3.length)⟩]) hw5 hd5 ?_
    replace hl8 : L7.length = r3.length := hl8
    replace h5_ : i_made_2Fi_weigh_1_b2 a1 a2 a3 a4 a5 a6 a7 a8 a9 r1 r2 r3 v6 L7 v9 = some y5_ := h5_
    unfold i_made_2Fi_weigh_1_b2 at h5_
    refine yS ?_
    rcases oB h5_ with ⟨hc3, h5_⟩ | ⟨hc3, h5_⟩
    ·refine yW<|yl rfl (b true) (LOp.eqb (LOp.lss rfl rfl rfl) hc3)<|zN ?_
     refine yS<|yT<|RunC.skip<|yS<|RunC.block<|zQ<|ym rfl (i64 v9)<|ya rfl (i64 v9)<|zN ?_
     obtain ⟨r11, hf5, h5_⟩ := oS h5_
     obtain ⟨r12, hf6, h5_⟩ := oS h5_
     obtain ⟨hn7, h5_⟩ := need_some h5_
     refine RunC.region_draw (Γ' := [⟨1, some zMx⟩, ⟨1, some (L7.map f32)⟩, ⟨1, some (oXc r1 r2 1 1 r3.length)⟩]) 7 mixed 
      (TR.d (r := agg (oXc r1 r2 1 1 r3.length)) (fs := []) rfl rfl (TOp.loadAgg_o rfl agg33 siz33 rfl rfl rfl rfl) <|
      (tm rfl (i64 v6) <|
      (tm rfl (i64 v9) <|
      (tm rfl (fn (.func 158) [] [ptr [f32 a2], ptr (mXc a3 a4 a5), ptr [f32 a6], ptr (mXc a7 a8 a9)]) <|
      (tm rfl (i64 v6) <|
      (tm rfl (i64 v9) <|
      (TR.d (r := f32 r11) (fs := []) rfl rfl (TOp.callB (CallAs.fn ent158 rfl rfl rfl rfl) (bP (bP (Bors.cons (Bor.ptr bN0) (Bors.cons (Bor.ptr (bP (bP (bS bN)))) (Bors.cons (Bor.ptr bN0) (Bors.cons (Bor.ptr (bP (bP (bS bN)))) bN)))))) rfl rfl (i_weigh_1_ok v6 v9 a2 a3 a4 a5 a6 a7 a8 a9 r11 hf5)) <|
      TR.nil))))))) rfl (by kernel_rfl) rfl fills_nil rfl ?_
     iterate 7 refine ROps.dropS ?_
     refine ROps.drop0<|ROps.callO (A := [agg (oXc r1 r2 1 1 r3.length), i64 v6, i64 v9, f32 r11]) (args := [agg (oXc r1 r2 0 0 L7.length), i64 v6, i64 v9, f32 r11]) (Γc := [⟨0, some (L7.map f32)⟩]) (Γc' := [⟨0, some (r12.map f32)⟩]) (r' := tup []) (Γ' := [⟨1, some zMx⟩, ⟨1, some (r12.map f32)⟩, ⟨1, some (oXc r1 r2 1 1 r3.length)⟩]) [(1, 1)] [] rfl (CallAs.func ent93 rfl rfl) rfl rfl (SelOk.of (ndB_ok rfl) (SelL.arr0 (f := f32) (fun _ => rfl) rfl trivial)) (live_of ⟨⟨_, _, rfl⟩, trivial⟩) (by simp [ren, rens, sigma, rens_f32, rens_f64, rens_i64, rens_ik, rens_str, rens_cp, hl8]) rfl (i_Matrix_set_02o_ok r1 r2 v6 v9 r11 L7 r12 hf6) rfl (news_of trivial) (ndB_ok rfl) (by simp [ren, rens, sigma, of_decide_eq_true hn7]) (by simp [backOb, sigma, ren, rens, rens_f32, rens_f64, rens_i64, rens_ik, rens_str, rens_cp])<|zN ?_
     obtain ⟨x13, hx8, h5_⟩ := oL h5_
     refine yW<|yl rfl (i64 x13) (LOp.eqr (LOp.add rfl rfl rfl) (congrArg (ik .i64) hx8))<|ym rfl (i64 x13)<|zN ?_
     cases oI h5_
     exact ⟨_, rfl, (of_decide_eq_true hn7), ⟨aR, aR, aR, aR, aR, aR, aR, aR, aR, trivial⟩, ⟨⟨rfl, .inr rfl⟩, ⟨rfl, .inr rfl⟩, ⟨rfl, .inr rfl⟩, trivial⟩⟩
    ·refine yW<|yl rfl (b false) (LOp.eqb (LOp.lss rfl rfl rfl) hc3)<|zN ?_
     refine yS<|yF<|RunC.exit ?_
     cases oI h5_
     have hx := ho5 _ rfl
     exact ⟨L7, hl8, ⟨aR, aR, aR, aR, aR, aR, trivial⟩, ⟨⟨rfl, .inr rfl⟩, ⟨rfl, .inr rfl⟩, ⟨rfl, .inr rfl⟩, trivial⟩, hx⟩
   ·rintro τ6 Γ6 ⟨L14, hl15, hw6, hd6, rfl⟩
    refine RunC.wl hw6 hd6 ?_
    replace h4_ : i_made_2Fi_weigh_1_k2 v6 L14 = some y4_ := h4_
    unfold i_made_2Fi_weigh_1_k2 at h4_
    obtain ⟨x16, hx9, h4_⟩ := oL h4_
    refine yW<|yl rfl (i64 x16) (LOp.eqr (LOp.add rfl rfl rfl) (congrArg (ik .i64) hx9))<|ym rfl (i64 x16)<|zN ?_
    cases oI h4_
    exact ⟨_, rfl, hl15, ⟨aR, aR, aR, aR, aR, aR, trivial⟩, ⟨⟨rfl, .inr rfl⟩, ⟨rfl, .inr rfl⟩, ⟨rfl, .inr rfl⟩, trivial⟩⟩
  ·refine yW<|yl rfl (b false) (LOp.eqb (LOp.lss rfl rfl rfl) hc2)<|zN ?_
   refine yS<|yF<|RunC.exit ?_
   cases oI h4_
   have hx := ho4 _ rfl
   exact ⟨L4, hl5, ⟨aR, aR, trivial⟩, ⟨⟨rfl, .inr rfl⟩, ⟨rfl, .inr rfl⟩, ⟨rfl, .inr rfl⟩, trivial⟩, hx⟩
 ·rintro τ7 Γ7 ⟨L17, hl18, hw7, hd7, rfl⟩
  refine RunC.wl hw7 hd7 ?_
  replace h : i_made_2Fi_weigh_1_k3 r1 r2 L17 = some (q0, q1, q2) := h
  unfold i_made_2Fi_weigh_1_k3 at h
  refine zQ<|yd rfl (agg (oXc r1 r2 1 1 r3.length)) (TOp.loadAgg_o rfl agg33 siz33 rfl rfl rfl rfl)<|ys (agg (oXc r1 r2 1 1 r3.length)) (oXc r1 r2 1 1 r3.length) [⟨1, some (oXc r1 r2 1 1 r3.length)⟩, ⟨1, some (L17.map f32)⟩, ⟨1, some (oXc r1 r2 1 1 r3.length)⟩] siz33<|zN ?_
  refine RunC.ret ?_
  have hq := oI h
  obtain ⟨hq0, hq⟩ := Prod.mk.inj hq
  obtain ⟨hq1, hq⟩ := Prod.mk.inj hq
  subst q0
  subst q1
  subst q2
  exact yB (agg (oXc r1 r2 1 1 L17.length)) [(1, 1)] (Res.eq (Res.one rfl (RV.cell agg33 siz33 rfl rfl rfl rfl)) (by rw [(show L17.length = r3.length from hl18)] <;> rfl)) (SelL.arr0 (f := f32) (fun _ => rfl) rfl trivial)
def i_weigh (a0 : Int) (a1 : Int) (a2 : List F) (a3 : Int) (a4 : Int) (a5 : List F) (a6 : F) (a7 : F) : Option (Int × Int × (List F)) :=
 obind3 (i_made_2Fi_weigh_1 a0 a1 a6 a0 a1 a2 a7 a3 a4 a5) fun (r1 : Int) (r2 : Int) (r3 : List F) =>
 some (r1, r2, r3)
theorem i_weigh_ok (a0 : Int) (a1 : Int) (a2 : List F) (a3 : Int) (a4 : Int) (a5 : List F) (a6 : F) (a7 : F) (q0 : Int) (q1 : Int) (q2 : List F) (h : i_weigh a0 a1 a2 a3 a4 a5 a6 a7 = some (q0, q1, q2)) : Ev Try.prog 106 [agg (mXc a0 a1 a2), agg (mXc a3 a4 a5), f32 a6, f32 a7] [] (agg (oXc q0 q1 0 0 q2.length)) [⟨0, some (q2.map f32)⟩] := by
 refine yE Try.func106 2 31 0 [(0, agg (mXc a0 a1 a2)), (1, agg (mXc a3 a4 a5)), (2, f32 a6), (3, f32 a7)] [⟨0, none⟩, ⟨0, none⟩] rfl ?_
 unfold i_weigh at h
 refine zQ<|yd rfl (ptr (mXc a0 a1 a2)) (TOp.box_s rfl rfl rfl)<|yd rfl (ptr (mXc a3 a4 a5)) (TOp.box_s rfl rfl rfl)<|yd rfl (ptr [f32 a6]) (TOp.box_s rfl rfl rfl)<|yd rfl (ptr [f32 a7]) (TOp.box_s rfl rfl rfl)<|ye rfl (optr 0 1 0) [⟨1, some zMx⟩, ⟨0, none⟩] (TOp.alloc_o (g := ⟨0, none⟩) 0 rfl zer33 zok33 rfl)<|zN ?_
 refine yS ?_
 obtain ⟨r1, r2, r3, hf1, h⟩ := obind3_some h
 refine yW<|yl rfl (ptr (mXc a0 a1 a2)) (LOp.fap und33 rfl siz2 rfl rfl rfl)<|yl rfl (i64 a0) (y2 agg2)<|yl rfl (ptr [i64 a1, (sFc a2)]) (LOp.fap und33 rfl siz2 rfl rfl rfl)<|yl rfl (i64 a1) (y2 agg2)<|yl rfl (fn (.func 158) [] [ptr [f32 a6], ptr (mXc a0 a1 a2), ptr [f32 a7], ptr (mXc a3 a4 a5)]) (LOp.makeFunc rfl rfl)<|ye rfl (agg (oXc r1 r2 1 1 r3.length)) [⟨1, some zMx⟩, ⟨1, some (r3.map f32)⟩] (TOp.callBN (ls := [(r3.map f32)]) [1] (CallAs.func ent64 rfl rfl) (bP (bP (Bors.cons (Bor.fn bN (Bors.cons (Bor.ptr bN0) (Bors.cons (Bor.ptr (bP (bP (bS bN)))) (Bors.cons (Bor.ptr bN0) (Bors.cons (Bor.ptr (bP (bP (bS bN)))) bN))))) bN))) rfl (i_made_2Fi_weigh_1_ok a0 a1 a6 a0 a1 a2 a7 a3 a4 a5 r1 r2 r3 hf1) (and_all (lts0_map (f := f32) (fun _ => rfl) _) rfl) (and_all (noss_map (f := f32) (fun _ => rfl) _) rfl) rfl (by decide) (ns_of ⟨⟨_, rfl⟩, trivial⟩))<|ys (agg (oXc r1 r2 1 1 r3.length)) (oXc r1 r2 1 1 r3.length) [⟨1, some (oXc r1 r2 1 1 r3.length)⟩, ⟨1, some (r3.map f32)⟩] siz33<|zN ?_
 refine RunC.ret ?_
 have hq := oI h
 obtain ⟨hq0, hq⟩ := Prod.mk.inj hq
 obtain ⟨hq1, hq⟩ := Prod.mk.inj hq
 subst q0
 subst q1
 subst q2
 exact yB (agg (oXc r1 r2 1 1 r3.length)) [(1, 1)] (Res.one rfl (RV.cell agg33 siz33 rfl rfl rfl rfl)) (SelL.arr0 (f := f32) (fun _ => rfl) rfl trivial)
def i_WeighMatrices (a0 : Int) (a1 : Int) (a2 : List F) (a3 : Int) (a4 : Int) (a5 : List F) (a6 : F) (a7 : F) : Option (Int × Int × Bool × (List F)) :=
 obind (i_ValidMatrix a0 a1 a2) fun (r1 : Bool) =>
 bsel r1 (
  obind (i_ValidMatrix a3 a4 a5) fun (r2 : Bool) =>
  bsel r2 (
   bsel (!decide (a0 = a3)) (
    some (0, 0, false, ([] : List F))) (
    bsel (!decide (a1 = a4)) (
     some (0, 0, false, ([] : List F))) (
     obind (i_areFinite ([a6, a7] : List F)) fun (r3 : Bool) =>
     bsel r3 (
      obind3 (i_weigh a0 a1 a2 a3 a4 a5 a6 a7) fun (r4 : Int) (r5 : Int) (r6 : List F) =>
      obind (i_Matrix_valid_02o r4 r5 r6) (fun z => osum z (fun y => obind4 (some y) fun (r7 : Int) (r8 : Int) (r9 : Bool) (r10 : List F) =>
       need (decide (r10.length = r6.length)) <|
       some (r7, r8, r9, r10)) (fun y => obind5 (some y) fun (r11 : Int) (r12 : Int) (r13 : Bool) (r14 : List F) (r15 : List F) =>
       need (decide (r14.length = r6.length)) <|
       some (r11, r12, r13, r15)))) (
      some (0, 0, false, ([] : List F)))))) (
   some (0, 0, false, ([] : List F)))) (
  some (0, 0, false, ([] : List F)))
theorem i_WeighMatrices_ok (a0 : Int) (a1 : Int) (a2 : List F) (a3 : Int) (a4 : Int) (a5 : List F) (a6 : F) (a7 : F) (q0 : Int) (q1 : Int) (q2 : Bool) (q3 : List F) (h : i_WeighMatrices a0 a1 a2 a3 a4 a5 a6 a7 = some (q0, q1, q2, q3)) : Ev Try.prog 41 [agg (mXc a0 a1 a2), agg (mXc a3 a4 a5), f32 a6, f32 a7] [] (tup [agg (oXc q0 q1 0 0 q3.length), b q2]) [⟨0, some (q3.map f32)⟩] := by
 refine yE Try.func41 3 97 0 [(0, agg (mXc a0 a1 a2)), (1, agg (mXc a3 a4 a5)), (2, f32 a6), (3, f32 a7)] [⟨0, none⟩, ⟨0, none⟩, ⟨0, none⟩] rfl ?_
 unfold i_WeighMatrices at h
 refine zQ<|yd rfl (ptr (mXc a0 a1 a2)) (TOp.box_s rfl rfl rfl)<|yd rfl (ptr (mXc a3 a4 a5)) (TOp.box_s rfl rfl rfl)<|ye rfl (optr 0 1 0) [⟨1, some zMx⟩, ⟨0, none⟩, ⟨0, none⟩] (TOp.alloc_o (g := ⟨0, none⟩) 0 rfl zer33 zok33 rfl)<|ya rfl (b false)<|zN ?_
 refine yS<|yS ?_
 obtain ⟨r1, hf1, h⟩ := oS h
 rcases oB h with ⟨hc2, h⟩ | ⟨hc2, h⟩
 ·obtain ⟨r2, hf3, h⟩ := oS h
  rcases oB h with ⟨hc4, h⟩ | ⟨hc4, h⟩
  ·rcases oB h with ⟨hc5, h⟩ | ⟨hc5, h⟩
   ·refine yW<|yl rfl (agg (mXc a0 a1 a2)) (yL agg33 siz33)<|yd rfl (b true) (TOp.eqb (TOp.callB (CallAs.func ent102 rfl rfl) (Bors.cons (Bor.agg (bP (bP (bS bN)))) bN) rfl rfl (i_ValidMatrix_ok a0 a1 a2 r1 hf1)) hc2)<|yl rfl (b false) y1<|ym rfl (b false)<|yl rfl (agg (mXc a3 a4 a5)) (yL agg33 siz33)<|yd rfl (b true) (TOp.eqb (TOp.callB (CallAs.func ent102 rfl rfl) (Bors.cons (Bor.agg (bP (bP (bS bN)))) bN) rfl rfl (i_ValidMatrix_ok a3 a4 a5 r2 hf3)) hc4)<|yl rfl (b false) y1<|yl rfl (b false) yp<|ym rfl (b false)<|yl rfl (ptr (mXc a0 a1 a2)) (LOp.fap und33 rfl siz2 rfl rfl rfl)<|yl rfl (i64 a0) (y2 agg2)<|yl rfl (ptr (mXc a3 a4 a5)) (LOp.fap und33 rfl siz2 rfl rfl rfl)<|yl rfl (i64 a3) (y2 agg2)<|yl rfl (b true) (LOp.eqb (LOp.neq rfl rfl rfl) hc5)<|yl rfl (b true) yp<|ym rfl (b true)<|ROps.s rfl rfl rfl<|ROps.s rfl rfl rfl<|ROps.s rfl rfl rfl<|ROps.s rfl rfl rfl<|ROps.s rfl rfl rfl<|yl rfl (b true) yq<|ym rfl (b true)<|ROps.s rfl rfl rfl<|ROps.s rfl rfl rfl<|ROps.s rfl rfl rfl<|ROps.s rfl rfl rfl<|ROps.s rfl rfl rfl<|yl rfl (b true) yq<|zN ?_
    refine RunC.wl (τ' := [(2, f32 a6), (3, f32 a7), (4, ptr (mXc a0 a1 a2)), (5, ptr (mXc a3 a4 a5)), (8, optr 0 1 0), (38, b true)]) (Γ' := [⟨1, some zMx⟩, ⟨0, none⟩, ⟨0, none⟩]) ⟨aR, aR, aR, aR, aR, aR, trivial⟩ ⟨⟨rfl, .inr rfl⟩, ⟨rfl, .inr rfl⟩, ⟨rfl, .inr rfl⟩, trivial⟩<|yT<|zQ<|yl rfl (agg zMx) (LOp.build (qs := []) zer33 zok33 und33 plc33 rfl trivial rfl)<|ys (agg zMx) zMx [⟨1, some zMx⟩, ⟨0, none⟩, ⟨0, none⟩] siz33<|ya rfl (b false)<|zN ?_
    refine RunC.nil_cell (l' := [i64 0, i64 0, oref 1 1 0 0]) (Γ' := [⟨1, some [i64 0, i64 0, oref 1 1 0 0]⟩, ⟨1, some (([] : List F).map f32)⟩, ⟨0, none⟩]) 0 2 1 rfl rfl rfl rfl rfl<|RunC.ret ?_
    have hq := oI h
    obtain ⟨hq0, hq⟩ := Prod.mk.inj hq
    obtain ⟨hq1, hq⟩ := Prod.mk.inj hq
    obtain ⟨hq2, hq⟩ := Prod.mk.inj hq
    subst q0
    subst q1
    subst q2
    subst q3
    exact yB (tup [agg [i64 0, i64 0, oref 1 1 0 (([] : List F).length)], b false]) [(1, 1)] (Res.eq (Res.two rfl (RV.cell agg33 siz33 rfl rfl rfl rfl) (RV.tmp rfl)) (by rw [(show ([] : List F).length = 0 from rfl)] <;> rfl)) (SelL.arr0 (f := f32) (fun _ => rfl) rfl trivial)
   ·rcases oB h with ⟨hc6, h⟩ | ⟨hc6, h⟩
    ·refine yW<|yl rfl (agg (mXc a0 a1 a2)) (yL agg33 siz33)<|yd rfl (b true) (TOp.eqb (TOp.callB (CallAs.func ent102 rfl rfl) (Bors.cons (Bor.agg (bP (bP (bS bN)))) bN) rfl rfl (i_ValidMatrix_ok a0 a1 a2 r1 hf1)) hc2)<|yl rfl (b false) y1<|ym rfl (b false)<|yl rfl (agg (mXc a3 a4 a5)) (yL agg33 siz33)<|yd rfl (b true) (TOp.eqb (TOp.callB (CallAs.func ent102 rfl rfl) (Bors.cons (Bor.agg (bP (bP (bS bN)))) bN) rfl rfl (i_ValidMatrix_ok a3 a4 a5 r2 hf3)) hc4)<|yl rfl (b false) y1<|yl rfl (b false) yp<|ym rfl (b false)<|yl rfl (ptr (mXc a0 a1 a2)) (LOp.fap und33 rfl siz2 rfl rfl rfl)<|yl rfl (i64 a0) (y2 agg2)<|yl rfl (ptr (mXc a3 a4 a5)) (LOp.fap und33 rfl siz2 rfl rfl rfl)<|yl rfl (i64 a3) (y2 agg2)<|yl rfl (b false) (LOp.eqb (LOp.neq rfl rfl rfl) hc5)<|yl rfl (b false) yp<|ym rfl (b false)<|yl rfl (ptr [i64 a1, (sFc a2)]) (LOp.fap und33 rfl siz2 rfl rfl rfl)<|yl rfl (i64 a1) (y2 agg2)<|yl rfl (ptr [i64 a4, (sFc a5)]) (LOp.fap und33 rfl siz2 rfl rfl rfl)<|yl rfl (i64 a4) (y2 agg2)<|yl rfl (b true) (LOp.eqb (LOp.neq rfl rfl rfl) hc6)<|yl rfl (b true) yp<|ym rfl (b true)<|ROps.s rfl rfl rfl<|ROps.s rfl rfl rfl<|ROps.s rfl rfl rfl<|ROps.s rfl rfl rfl<|ROps.s rfl rfl rfl<|yl rfl (b true) yq<|zN ?_
     refine RunC.wl (τ' := [(2, f32 a6), (3, f32 a7), (4, ptr (mXc a0 a1 a2)), (5, ptr (mXc a3 a4 a5)), (8, optr 0 1 0), (38, b true)]) (Γ' := [⟨1, some zMx⟩, ⟨0, none⟩, ⟨0, none⟩]) ⟨aR, aR, aR, aR, aR, aR, trivial⟩ ⟨⟨rfl, .inr rfl⟩, ⟨rfl, .inr rfl⟩, ⟨rfl, .inr rfl⟩, trivial⟩<|yT<|zQ<|yl rfl (agg zMx) (LOp.build (qs := []) zer33 zok33 und33 plc33 rfl trivial rfl)<|ys (agg zMx) zMx [⟨1, some zMx⟩, ⟨0, none⟩, ⟨0, none⟩] siz33<|ya rfl (b false)<|zN ?_
     refine RunC.nil_cell (l' := [i64 0, i64 0, oref 1 1 0 0]) (Γ' := [⟨1, some [i64 0, i64 0, oref 1 1 0 0]⟩, ⟨1, some (([] : List F).map f32)⟩, ⟨0, none⟩]) 0 2 1 rfl rfl rfl rfl rfl<|RunC.ret ?_
     have hq := oI h
     obtain ⟨hq0, hq⟩ := Prod.mk.inj hq
     obtain ⟨hq1, hq⟩ := Prod.mk.inj hq
     obtain ⟨hq2, hq⟩ := Prod.mk.inj hq
     subst q0
     subst q1
     subst q2
     subst q3
     exact yB (tup [agg [i64 0, i64 0, oref 1 1 0 (([] : List F).length)], b false]) [(1, 1)] (Res.eq (Res.two rfl (RV.cell agg33 siz33 rfl rfl rfl rfl) (RV.tmp rfl)) (by rw [(show ([] : List F).length = 0 from rfl)] <;> rfl)) (SelL.arr0 (f := f32) (fun _ => rfl) rfl trivial)
    ·obtain ⟨r3, hf7, h⟩ := oS h
     rcases oB h with ⟨hc8, h⟩ | ⟨hc8, h⟩
     ·refine yW<|yl rfl (agg (mXc a0 a1 a2)) (yL agg33 siz33)<|yd rfl (b true) (TOp.eqb (TOp.callB (CallAs.func ent102 rfl rfl) (Bors.cons (Bor.agg (bP (bP (bS bN)))) bN) rfl rfl (i_ValidMatrix_ok a0 a1 a2 r1 hf1)) hc2)<|yl rfl (b false) y1<|ym rfl (b false)<|yl rfl (agg (mXc a3 a4 a5)) (yL agg33 siz33)<|yd rfl (b true) (TOp.eqb (TOp.callB (CallAs.func ent102 rfl rfl) (Bors.cons (Bor.agg (bP (bP (bS bN)))) bN) rfl rfl (i_ValidMatrix_ok a3 a4 a5 r2 hf3)) hc4)<|yl rfl (b false) y1<|yl rfl (b false) yp<|ym rfl (b false)<|yl rfl (ptr (mXc a0 a1 a2)) (LOp.fap und33 rfl siz2 rfl rfl rfl)<|yl rfl (i64 a0) (y2 agg2)<|yl rfl (ptr (mXc a3 a4 a5)) (LOp.fap und33 rfl siz2 rfl rfl rfl)<|yl rfl (i64 a3) (y2 agg2)<|yl rfl (b false) (LOp.eqb (LOp.neq rfl rfl rfl) hc5)<|yl rfl (b false) yp<|ym rfl (b false)<|yl rfl (ptr [i64 a1, (sFc a2)]) (LOp.fap und33 rfl siz2 rfl rfl rfl)<|yl rfl (i64 a1) (y2 agg2)<|yl rfl (ptr [i64 a4, (sFc a5)]) (LOp.fap und33 rfl siz2 rfl rfl rfl)<|yl rfl (i64 a4) (y2 agg2)<|yl rfl (b false) (LOp.eqb (LOp.neq rfl rfl rfl) hc6)<|yl rfl (b false) yp<|ym rfl (b false)<|ym rfl (f32 a6)<|ym rfl (f32 a7)<|ye rfl (oref 1 1 0 2) ([⟨1, some zMx⟩, ⟨1, some (([a6, a7] : List F).map f32)⟩, ⟨0, none⟩]) (TOp.buildSlice_o (g := ⟨0, none⟩) (za := f32 (some 0)) (qs := [(0, [f32 a6]), (1, [f32 a7])]) 1 rfl und26 siz28 zer28 rfl zel28 rfl rfl ⟨rfl, ⟨_, ALe.refl _, rfl⟩, ⟨rfl, ⟨_, ALe.refl _, rfl⟩, trivial⟩⟩ rfl)<|yd rfl (b true) (TOp.eqb (yc ent74 rfl rfl (Bors.cons (Bor.own (f := f32) (n := 2) (l := ([a6, a7] : List F)) (fun _ => rfl) rfl rfl) bN) (i_areFinite_ok ([a6, a7] : List F) r3 hf7)) hc8)<|yl rfl (b false) y1<|yl rfl (b false) yp<|zN ?_
      refine RunC.wl (τ' := [(2, f32 a6), (3, f32 a7), (4, ptr (mXc a0 a1 a2)), (5, ptr (mXc a3 a4 a5)), (8, optr 0 1 0), (38, b false)]) (Γ' := [⟨1, some zMx⟩, ⟨1, none⟩, ⟨0, none⟩]) ⟨aR, aR, aR, aR, aR, aR, trivial⟩ ⟨⟨rfl, .inr rfl⟩, ⟨rfl, .inl rfl⟩, ⟨rfl, .inr rfl⟩, trivial⟩<|yF<|RunC.skip<|yS ?_
      obtain ⟨r4, r5, r6, hf9, h⟩ := obind3_some h
      obtain ⟨z1, hf10, h⟩ := oS h
      rcases z1 with z1 | z1
      ·replace h := (osum_inl _ _ _).symm.trans h
       obtain ⟨r7, r8, r9, r10, hz2, h⟩ := obind4_some h
       cases hz2
       obtain ⟨hn11, h⟩ := need_some h
       refine yW<|yl rfl (agg (mXc a0 a1 a2)) (yL agg33 siz33)<|yl rfl (agg (mXc a3 a4 a5)) (yL agg33 siz33)<|ym rfl (f32 a6)<|ym rfl (f32 a7)<|ye rfl (agg (oXc r4 r5 1 2 r6.length)) [⟨1, some zMx⟩, ⟨2, some (r6.map f32)⟩, ⟨0, none⟩] (TOp.callBN (ls := [(r6.map f32)]) [1] (CallAs.func ent106 rfl rfl) (Bors.cons (Bor.agg (bP (bP (bS bN)))) (Bors.cons (Bor.agg (bP (bP (bS bN)))) (bP bN0))) rfl (i_weigh_ok a0 a1 a2 a3 a4 a5 a6 a7 r4 r5 r6 hf9) (and_all (lts0_map (f := f32) (fun _ => rfl) _) rfl) (and_all (noss_map (f := f32) (fun _ => rfl) _) rfl) rfl (by decide) (ns_of ⟨⟨_, rfl⟩, trivial⟩))<|ROps.callO (A := [agg (oXc r4 r5 1 2 r6.length)]) (args := [agg (oXc r4 r5 0 0 r6.length)]) (Γc := [⟨0, some (r6.map f32)⟩]) (Γc' := [⟨0, some (r10.map f32)⟩]) (r' := tup [agg (oXc r7 r8 1 2 r6.length), b r9]) (Γ' := [⟨1, some zMx⟩, ⟨2, some (r10.map f32)⟩, ⟨0, none⟩]) [(1, 2)] [] rfl (CallAs.func ent107 rfl rfl) rfl rfl (SelOk.of (ndB_ok rfl) (SelL.arr0 (f := f32) (fun _ => rfl) rfl trivial)) (live_of ⟨⟨_, _, rfl⟩, trivial⟩) (by simp [ren, rens, sigma, rens_f32, rens_f64, rens_i64, rens_ik, rens_str, rens_cp]) rfl (i_Matrix_valid_02o_ok0 r4 r5 r6 r7 r8 r9 r10 hf10) rfl (news_of trivial) (ndB_ok rfl) (by simp [ren, rens, sigma, of_decide_eq_true hn11]) (by simp [backOb, sigma, ren, rens, rens_f32, rens_f64, rens_i64, rens_ik, rens_str, rens_cp])<|yl rfl (agg (oXc r7 r8 1 2 r6.length)) y3<|yl rfl (b r9) y3<|ys (agg (oXc r7 r8 1 2 r6.length)) (oXc r7 r8 1 2 r6.length) [⟨1, some (oXc r7 r8 1 2 r6.length)⟩, ⟨2, some (r10.map f32)⟩, ⟨0, none⟩] siz33<|ya rfl (b r9)<|zN ?_
       refine RunC.ret ?_
       have hq := oI h
       obtain ⟨hq0, hq⟩ := Prod.mk.inj hq
       obtain ⟨hq1, hq⟩ := Prod.mk.inj hq
       obtain ⟨hq2, hq⟩ := Prod.mk.inj hq
       subst q0
       subst q1
       subst q2
       subst q3
       exact yB (tup [agg (oXc r7 r8 1 2 r10.length), b r9]) [(1, 2)] (Res.eq (Res.two rfl (RV.cell agg33 siz33 rfl rfl rfl rfl) (RV.tmp rfl)) (by rw [(show r10.length = r6.length from (of_decide_eq_true hn11))] <;> rfl)) (SelL.arr0 (f := f32) (fun _ => rfl) rfl trivial)
      ·replace h := (osum_inr _ _ _).symm.trans h
       obtain ⟨r11, r12, r13, r14, r15, hz3, h⟩ := obind5_some h
       cases hz3
       obtain ⟨hn12, h⟩ := need_some h
       refine yW<|yl rfl (agg (mXc a0 a1 a2)) (yL agg33 siz33)<|yl rfl (agg (mXc a3 a4 a5)) (yL agg33 siz33)<|ym rfl (f32 a6)<|ym rfl (f32 a7)<|ye rfl (agg (oXc r4 r5 1 2 r6.length)) [⟨1, some zMx⟩, ⟨2, some (r6.map f32)⟩, ⟨0, none⟩] (TOp.callBN (ls := [(r6.map f32)]) [1] (CallAs.func ent106 rfl rfl) (Bors.cons (Bor.agg (bP (bP (bS bN)))) (Bors.cons (Bor.agg (bP (bP (bS bN)))) (bP bN0))) rfl (i_weigh_ok a0 a1 a2 a3 a4 a5 a6 a7 r4 r5 r6 hf9) (and_all (lts0_map (f := f32) (fun _ => rfl) _) rfl) (and_all (noss_map (f := f32) (fun _ => rfl) _) rfl) rfl (by decide) (ns_of ⟨⟨_, rfl⟩, trivial⟩))<|ROps.callO (A := [agg (oXc r4 r5 1 2 r6.length)]) (args := [agg (oXc r4 r5 0 0 r6.length)]) (Γc := [⟨0, some (r6.map f32)⟩]) (Γc' := [⟨0, some (r14.map f32)⟩, ⟨0, some (r15.map f32)⟩]) (r' := tup [agg (oXc r11 r12 2 1 r15.length), b r13]) (Γ' := [⟨1, some zMx⟩, ⟨2, some (r14.map f32)⟩, ⟨1, some (r15.map f32)⟩]) [(1, 2)] [(2, 1)] rfl (CallAs.func ent107 rfl rfl) rfl rfl (SelOk.of (ndB_ok rfl) (SelL.arr0 (f := f32) (fun _ => rfl) rfl trivial)) (live_of ⟨⟨_, _, rfl⟩, trivial⟩) (by simp [ren, rens, sigma, rens_f32, rens_f64, rens_i64, rens_ik, rens_str, rens_cp]) rfl (i_Matrix_valid_02o_ok1 r4 r5 r6 r11 r12 r13 r14 r15 hf10) rfl (news_of ⟨⟨_, rfl, rfl⟩, trivial⟩) (show List.Nodup [1, 2] from by decide) (by simp [ren, rens, sigma, of_decide_eq_true hn12]) (by simp [backOb, sigma, ren, rens, rens_f32, rens_f64, rens_i64, rens_ik, rens_str, rens_cp])<|yl rfl (agg (oXc r11 r12 2 1 r15.length)) y3<|yl rfl (b r13) y3<|ys (agg (oXc r11 r12 2 1 r15.length)) (oXc r11 r12 2 1 r15.length) [⟨1, some (oXc r11 r12 2 1 r15.length)⟩, ⟨2, some (r14.map f32)⟩, ⟨1, some (r15.map f32)⟩] siz33<|ya rfl (b r13)<|zN ?_
       refine RunC.ret ?_
       have hq := oI h
       obtain ⟨hq0, hq⟩ := Prod.mk.inj hq
       obtain ⟨hq1, hq⟩ := Prod.mk.inj hq
       obtain ⟨hq2, hq⟩ := Prod.mk.inj hq
       subst q0
       subst q1
       subst q2
       subst q3
       exact yB (tup [agg (oXc r11 r12 2 1 r15.length), b r13]) [(2, 1)] (Res.two rfl (RV.cell agg33 siz33 rfl rfl rfl rfl) (RV.tmp rfl)) (SelL.arr0 (f := f32) (fun _ => rfl) rfl trivial)
     ·refine yW<|yl rfl (agg (mXc a0 a1 a2)) (yL agg33 siz33)<|yd rfl (b true) (TOp.eqb (TOp.callB (CallAs.func ent102 rfl rfl) (Bors.cons (Bor.agg (bP (bP (bS bN)))) bN) rfl rfl (i_ValidMatrix_ok a0 a1 a2 r1 hf1)) hc2)<|yl rfl (b false) y1<|ym rfl (b false)<|yl rfl (agg (mXc a3 a4 a5)) (yL agg33 siz33)<|yd rfl (b true) (TOp.eqb (TOp.callB (CallAs.func ent102 rfl rfl) (Bors.cons (Bor.agg (bP (bP (bS bN)))) bN) rfl rfl (i_ValidMatrix_ok a3 a4 a5 r2 hf3)) hc4)<|yl rfl (b false) y1<|yl rfl (b false) yp<|ym rfl (b false)<|yl rfl (ptr (mXc a0 a1 a2)) (LOp.fap und33 rfl siz2 rfl rfl rfl)<|yl rfl (i64 a0) (y2 agg2)<|yl rfl (ptr (mXc a3 a4 a5)) (LOp.fap und33 rfl siz2 rfl rfl rfl)<|yl rfl (i64 a3) (y2 agg2)<|yl rfl (b false) (LOp.eqb (LOp.neq rfl rfl rfl) hc5)<|yl rfl (b false) yp<|ym rfl (b false)<|yl rfl (ptr [i64 a1, (sFc a2)]) (LOp.fap und33 rfl siz2 rfl rfl rfl)<|yl rfl (i64 a1) (y2 agg2)<|yl rfl (ptr [i64 a4, (sFc a5)]) (LOp.fap und33 rfl siz2 rfl rfl rfl)<|yl rfl (i64 a4) (y2 agg2)<|yl rfl (b false) (LOp.eqb (LOp.neq rfl rfl rfl) hc6)<|yl rfl (b false) yp<|ym rfl (b false)<|ym rfl (f32 a6)<|ym rfl (f32 a7)<|ye rfl (oref 1 1 0 2) ([⟨1, some zMx⟩, ⟨1, some (([a6, a7] : List F).map f32)⟩, ⟨0, none⟩]) (TOp.buildSlice_o (g := ⟨0, none⟩) (za := f32 (some 0)) (qs := [(0, [f32 a6]), (1, [f32 a7])]) 1 rfl und26 siz28 zer28 rfl zel28 rfl rfl ⟨rfl, ⟨_, ALe.refl _, rfl⟩, ⟨rfl, ⟨_, ALe.refl _, rfl⟩, trivial⟩⟩ rfl)<|yd rfl (b false) (TOp.eqb (yc ent74 rfl rfl (Bors.cons (Bor.own (f := f32) (n := 2) (l := ([a6, a7] : List F)) (fun _ => rfl) rfl rfl) bN) (i_areFinite_ok ([a6, a7] : List F) r3 hf7)) hc8)<|yl rfl (b true) y0<|yl rfl (b true) yp<|zN ?_
      refine RunC.wl (τ' := [(2, f32 a6), (3, f32 a7), (4, ptr (mXc a0 a1 a2)), (5, ptr (mXc a3 a4 a5)), (8, optr 0 1 0), (38, b true)]) (Γ' := [⟨1, some zMx⟩, ⟨1, none⟩, ⟨0, none⟩]) ⟨aR, aR, aR, aR, aR, aR, trivial⟩ ⟨⟨rfl, .inr rfl⟩, ⟨rfl, .inl rfl⟩, ⟨rfl, .inr rfl⟩, trivial⟩<|yT<|zQ<|yl rfl (agg zMx) (LOp.build (qs := []) zer33 zok33 und33 plc33 rfl trivial rfl)<|ys (agg zMx) zMx [⟨1, some zMx⟩, ⟨1, none⟩, ⟨0, none⟩] siz33<|ya rfl (b false)<|zN ?_
      refine RunC.nil_cell (l' := [i64 0, i64 0, oref 1 2 0 0]) (Γ' := [⟨1, some [i64 0, i64 0, oref 1 2 0 0]⟩, ⟨2, some (([] : List F).map f32)⟩, ⟨0, none⟩]) 0 2 1 rfl rfl rfl rfl rfl<|RunC.ret ?_
      have hq := oI h
      obtain ⟨hq0, hq⟩ := Prod.mk.inj hq
      obtain ⟨hq1, hq⟩ := Prod.mk.inj hq
      obtain ⟨hq2, hq⟩ := Prod.mk.inj hq
      subst q0
      subst q1
      subst q2
      subst q3
      exact yB (tup [agg [i64 0, i64 0, oref 1 2 0 (([] : List F).length)], b false]) [(1, 2)] (Res.eq (Res.two rfl (RV.cell agg33 siz33 rfl rfl rfl rfl) (RV.tmp rfl)) (by rw [(show ([] : List F).length = 0 from rfl)] <;> rfl)) (SelL.arr0 (f := f32) (fun _ => rfl) rfl trivial)
  ·refine yW<|yl rfl (agg (mXc a0 a1 a2)) (yL agg33 siz33)<|yd rfl (b true) (TOp.eqb (TOp.callB (CallAs.func ent102 rfl rfl) (Bors.cons (Bor.agg (bP (bP (bS bN)))) bN) rfl rfl (i_ValidMatrix_ok a0 a1 a2 r1 hf1)) hc2)<|yl rfl (b false) y1<|ym rfl (b false)<|yl rfl (agg (mXc a3 a4 a5)) (yL agg33 siz33)<|yd rfl (b false) (TOp.eqb (TOp.callB (CallAs.func ent102 rfl rfl) (Bors.cons (Bor.agg (bP (bP (bS bN)))) bN) rfl rfl (i_ValidMatrix_ok a3 a4 a5 r2 hf3)) hc4)<|yl rfl (b true) y0<|yl rfl (b true) yp<|ym rfl (b true)<|ROps.s rfl rfl rfl<|ROps.s rfl rfl rfl<|ROps.s rfl rfl rfl<|ROps.s rfl rfl rfl<|ROps.s rfl rfl rfl<|yl rfl (b true) yq<|ym rfl (b true)<|ROps.s rfl rfl rfl<|ROps.s rfl rfl rfl<|ROps.s rfl rfl rfl<|ROps.s rfl rfl rfl<|ROps.s rfl rfl rfl<|yl rfl (b true) yq<|ym rfl (b true)<|ROps.s rfl rfl rfl<|ROps.s rfl rfl rfl<|ROps.s rfl rfl rfl<|ROps.s rfl rfl rfl<|ROps.s rfl rfl rfl<|yl rfl (b true) yq<|zN ?_
   refine RunC.wl (τ' := [(2, f32 a6), (3, f32 a7), (4, ptr (mXc a0 a1 a2)), (5, ptr (mXc a3 a4 a5)), (8, optr 0 1 0), (38, b true)]) (Γ' := [⟨1, some zMx⟩, ⟨0, none⟩, ⟨0, none⟩]) ⟨aR, aR, aR, aR, aR, aR, trivial⟩ ⟨⟨rfl, .inr rfl⟩, ⟨rfl, .inr rfl⟩, ⟨rfl, .inr rfl⟩, trivial⟩<|yT<|zQ<|yl rfl (agg zMx) (LOp.build (qs := []) zer33 zok33 und33 plc33 rfl trivial rfl)<|ys (agg zMx) zMx [⟨1, some zMx⟩, ⟨0, none⟩, ⟨0, none⟩] siz33<|ya rfl (b false)<|zN ?_
   refine RunC.nil_cell (l' := [i64 0, i64 0, oref 1 1 0 0]) (Γ' := [⟨1, some [i64 0, i64 0, oref 1 1 0 0]⟩, ⟨1, some (([] : List F).map f32)⟩, ⟨0, none⟩]) 0 2 1 rfl rfl rfl rfl rfl<|RunC.ret ?_
   have hq := oI h
   obtain ⟨hq0, hq⟩ := Prod.mk.inj hq
   obtain ⟨hq1, hq⟩ := Prod.mk.inj hq
   obtain ⟨hq2, hq⟩ := Prod.mk.inj hq
   subst q0
   subst q1
   subst q2
   subst q3
   exact yB (tup [agg [i64 0, i64 0, oref 1 1 0 (([] : List F).length)], b false]) [(1, 1)] (Res.eq (Res.two rfl (RV.cell agg33 siz33 rfl rfl rfl rfl) (RV.tmp rfl)) (by rw [(show ([] : List F).length = 0 from rfl)] <;> rfl)) (SelL.arr0 (f := f32) (fun _ => rfl) rfl trivial)
 ·refine yW<|yl rfl (agg (mXc a0 a1 a2)) (yL agg33 siz33)<|yd rfl (b false) (TOp.eqb (TOp.callB (CallAs.func ent102 rfl rfl) (Bors.cons (Bor.agg (bP (bP (bS bN)))) bN) rfl rfl (i_ValidMatrix_ok a0 a1 a2 r1 hf1)) hc2)<|yl rfl (b true) y0<|ym rfl (b true)<|ROps.s rfl rfl rfl<|ROps.s rfl rfl rfl<|ROps.s rfl rfl rfl<|yl rfl (b true) yq<|ym rfl (b true)<|ROps.s rfl rfl rfl<|ROps.s rfl rfl rfl<|ROps.s rfl rfl rfl<|ROps.s rfl rfl rfl<|ROps.s rfl rfl rfl<|yl rfl (b true) yq<|ym rfl (b true)<|ROps.s rfl rfl rfl<|ROps.s rfl rfl rfl<|ROps.s rfl rfl rfl<|ROps.s rfl rfl rfl<|ROps.s rfl rfl rfl<|yl rfl (b true) yq<|ym rfl (b true)<|ROps.s rfl rfl rfl<|ROps.s rfl rfl rfl<|ROps.s rfl rfl rfl<|ROps.s rfl rfl rfl<|ROps.s rfl rfl rfl<|yl rfl (b true) yq<|zN ?_
  refine RunC.wl (τ' := [(2, f32 a6), (3, f32 a7), (4, ptr (mXc a0 a1 a2)), (5, ptr (mXc a3 a4 a5)), (8, optr 0 1 0), (38, b true)]) (Γ' := [⟨1, some zMx⟩, ⟨0, none⟩, ⟨0, none⟩]) ⟨aR, aR, aR, aR, aR, aR, trivial⟩ ⟨⟨rfl, .inr rfl⟩, ⟨rfl, .inr rfl⟩, ⟨rfl, .inr rfl⟩, trivial⟩<|yT<|zQ<|yl rfl (agg zMx) (LOp.build (qs := []) zer33 zok33 und33 plc33 rfl trivial rfl)<|ys (agg zMx) zMx [⟨1, some zMx⟩, ⟨0, none⟩, ⟨0, none⟩] siz33<|ya rfl (b false)<|zN ?_
  refine RunC.nil_cell (l' := [i64 0, i64 0, oref 1 1 0 0]) (Γ' := [⟨1, some [i64 0, i64 0, oref 1 1 0 0]⟩, ⟨1, some (([] : List F).map f32)⟩, ⟨0, none⟩]) 0 2 1 rfl rfl rfl rfl rfl<|RunC.ret ?_
  have hq := oI h
  obtain ⟨hq0, hq⟩ := Prod.mk.inj hq
  obtain ⟨hq1, hq⟩ := Prod.mk.inj hq
  obtain ⟨hq2, hq⟩ := Prod.mk.inj hq
  subst q0
  subst q1
  subst q2
  subst q3
  exact yB (tup [agg [i64 0, i64 0, oref 1 1 0 (([] : List F).length)], b false]) [(1, 1)] (Res.eq (Res.two rfl (RV.cell agg33 siz33 rfl rfl rfl rfl) (RV.tmp rfl)) (by rw [(show ([] : List F).length = 0 from rfl)] <;> rfl)) (SelL.arr0 (f := f32) (fun _ => rfl) rfl trivial)
def i_isRounds (a0 : Int) : Option (Bool) :=
 obind (i_inRange a0 0 64) fun (r1 : Bool) =>
 some r1
theorem i_isRounds_ok (a0 : Int) (q0 : Bool) (h : i_isRounds a0 = some q0) : Ev Try.prog 108 [i64 a0] [] (b q0) [] := by
 refine yE Try.func108 0 11 0 [(0, i64 a0)] [] rfl ?_
 unfold i_isRounds at h
 refine zQ<|ya rfl (b false)<|zN ?_
 refine yS ?_
 obtain ⟨r1, hf1, h⟩ := oS h
 refine yW<|ym rfl (i64 a0)<|yd rfl (b r1) (yc ent85 rfl rfl (bP (bP bN0)) (i_inRange_ok a0 0 64 r1 hf1))<|ya rfl (b r1)<|zN ?_
 refine RunC.ret ?_
 have hq := oI h
 subst q0
 exact bodyQ.pure (.inr rfl) rfl (Res.one rfl (RV.tmp rfl))
def x_math_Sqrt (a0 : F) : Option (F) :=
 olet (fsqrt a0) fun (x1 : F) =>
 some x1
theorem x_math_Sqrt_ok (a0 : F) (q0 : F) (h : x_math_Sqrt a0 = some q0) : Ev Try.prog 138 [f64 a0] [] (f64 q0) [] := by
 refine yE Try.func138 0 11 0 [(0, f64 a0)] [] rfl ?_
 unfold x_math_Sqrt at h
 refine zQ<|yl rfl (f64 (some 0)) (LOp.le (LOp.assign rfl rfl) (ALe.fl (by kernel_rfl) (by kernel_rfl)))<|zN ?_
 refine yS ?_
 obtain ⟨x1, hx1, h⟩ := oL h
 refine yW<|ym rfl (f64 a0)<|yd rfl (f64 x1) (TOp.eqr (TOp.fsqrt ext172 rfl (OpF.tmp rfl)) (congrArg (f .f64) hx1))<|ya rfl (f64 x1)<|zN ?_
 refine RunC.ret ?_
 have hq := oI h
 subst q0
 exact bodyQ.pure (.inr rfl) rfl (Res.one rfl (RV.tmp rfl))
def i_RootNumber (a0 : F) : Option (F) :=
 olet (fwiden a0) fun (x1 : F) =>
 obind (x_math_Sqrt x1) fun (r2 : F) =>
 obind (fnarrow r2) fun (y3 : F) =>
 some y3
theorem i_RootNumber_ok (a0 : F) (q0 : F) (h : i_RootNumber a0 = some q0) : Ev Try.prog 114 [f32 a0] [] (f32 q0) [] := by
 refine yE Try.func114 0 15 0 [(0, f32 a0)] [] rfl ?_
 unfold i_RootNumber at h
 refine zQ<|yl rfl (f32 (some 0)) (LOp.le (LOp.assign rfl rfl) (ALe.fl (by kernel_rfl) (by kernel_rfl)))<|zN ?_
 refine yS ?_
 obtain ⟨x1, hx1, h⟩ := oL h
 obtain ⟨r2, hf2, h⟩ := oS h
 obtain ⟨y3, hy3, h⟩ := oS h
 refine yW<|ym rfl (f32 a0)<|yd rfl (f64 x1) (TOp.eqr (TOp.widen (src := 28) (dst := 40) ⟨_, pun28⟩ pun40 rfl (OpF.tmp rfl)) (congrArg (f .f64) hx1))<|yd rfl (f64 r2) (yc ent138 rfl rfl bN0 (x_math_Sqrt_ok x1 r2 hf2))<|yd rfl (f32 y3) (TOp.narrow (src := 40) (dst := 28) ⟨_, pun40⟩ pun28 rfl (OpF.tmp rfl) hy3)<|ya rfl (f32 y3)<|zN ?_
 refine RunC.ret ?_
 have hq := oI h
 subst q0
 exact bodyQ.pure (.inr rfl) rfl (Res.one rfl (RV.tmp rfl))
def i_norm (a0 : List F) : Option (F) :=
 obind (i_dot a0 a0) fun (r1 : F) =>
 obind (i_RootNumber r1) fun (r2 : F) =>
 some r2
theorem i_norm_ok (a0 : List F) (q0 : F) (h : i_norm a0 = some q0) : Ev Try.prog 159 [(sFc a0)] [] (f32 q0) [] := by
 refine yE Try.func159 0 15 0 [(0, (sFc a0))] [] rfl ?_
 unfold i_norm at h
 refine zQ<|yl rfl (f32 (some 0)) (LOp.le (LOp.assign rfl rfl) (ALe.fl (by kernel_rfl) (by kernel_rfl)))<|zN ?_
 refine yS ?_
 obtain ⟨r1, hf1, h⟩ := oS h
 obtain ⟨r2, hf2, h⟩ := oS h
 refine yW<|ym rfl (sFc a0)<|ym rfl (sFc a0)<|yd rfl (f32 r1) (yc ent143 rfl rfl (bS (bS bN)) (i_dot_ok a0 a0 r1 hf1))<|yd rfl (f32 r2) (yc ent114 rfl rfl bN0 (i_RootNumber_ok r1 r2 hf2))<|ya rfl (f32 r2)<|zN ?_
 refine RunC.ret ?_
 have hq := oI h
 subst q0
 exact bodyQ.pure (.inr rfl) rfl (Res.one rfl (RV.tmp rfl))
def i_WholeNorm (a0 : Int) (a1 : Int) (a2 : List F) : Option (F × Bool) :=
 obind (i_ValidMatrix a0 a1 a2) fun (r1 : Bool) =>
 bsel r1 (
  obind (i_norm a2) fun (r2 : F) =>
  obind2 (i_finite r2) fun (r3 : F) (r4 : Bool) =>
  some (r3, r4)) (
  some (some 0, false))
theorem i_WholeNorm_ok (a0 : Int) (a1 : Int) (a2 : List F) (q0 : F) (q1 : Bool) (h : i_WholeNorm a0 a1 a2 = some (q0, q1)) : Ev Try.prog 109 [agg (mXc a0 a1 a2)] [] (tup [f32 q0, b q1]) [] := by
 refine yE Try.func109 0 27 0 [(0, agg (mXc a0 a1 a2))] [] rfl ?_
 unfold i_WholeNorm at h
 refine zQ<|yd rfl (ptr (mXc a0 a1 a2)) (TOp.box_s rfl rfl rfl)<|yl rfl (f32 (some 0)) (LOp.le (LOp.assign rfl rfl) (ALe.fl (by kernel_rfl) (by kernel_rfl)))<|ya rfl (b false)<|zN ?_
 refine yS<|yS ?_
 obtain ⟨r1, hf1, h⟩ := oS h
 rcases oB h with ⟨hc2, h⟩ | ⟨hc2, h⟩
 ·refine yW<|yl rfl (agg (mXc a0 a1 a2)) (yL agg33 siz33)<|yd rfl (b true) (TOp.eqb (TOp.callB (CallAs.func ent102 rfl rfl) (Bors.cons (Bor.agg (bP (bP (bS bN)))) bN) rfl rfl (i_ValidMatrix_ok a0 a1 a2 r1 hf1)) hc2)<|yl rfl (b false) y1<|zN ?_
  refine yF<|RunC.skip<|yS ?_
  obtain ⟨r2, hf3, h⟩ := oS h
  obtain ⟨r3, r4, hf4, h⟩ := obind2_some h
  refine yW<|yl rfl (ptr [(sFc a2)]) (LOp.fap und33 rfl siz26 rfl rfl rfl)<|yl rfl (sFc a2) (y2 agg26)<|yd rfl (f32 r2) (yc ent159 rfl rfl (bS bN) (i_norm_ok a2 r2 hf3))<|yd rfl (tup [f32 r3, b r4]) (yc ent151 rfl rfl bN0 (i_finite_ok r2 r3 r4 hf4))<|yl rfl (f32 r3) y3<|yl rfl (b r4) y3<|ya rfl (f32 r3)<|ya rfl (b r4)<|zN ?_
  refine RunC.ret ?_
  have hq := oI h
  obtain ⟨hq0, hq⟩ := Prod.mk.inj hq
  subst q0
  subst q1
  exact bodyQ.pure (.inr rfl) rfl (Res.two rfl (RV.tmp rfl) (RV.tmp rfl))
 ·refine yW<|yl rfl (agg (mXc a0 a1 a2)) (yL agg33 siz33)<|yd rfl (b false) (TOp.eqb (TOp.callB (CallAs.func ent102 rfl rfl) (Bors.cons (Bor.agg (bP (bP (bS bN)))) bN) rfl rfl (i_ValidMatrix_ok a0 a1 a2 r1 hf1)) hc2)<|yl rfl (b true) y0<|zN ?_
  refine yT<|zQ<|yl rfl (f32 (some 0)) (LOp.le (LOp.assign rfl rfl) (ALe.fl (by kernel_rfl) (by kernel_rfl)))<|ya rfl (b false)<|zN ?_
  refine RunC.ret ?_
  have hq := oI h
  obtain ⟨hq0, hq⟩ := Prod.mk.inj hq
  subst q0
  subst q1
  exact bodyQ.pure (.inr rfl) rfl (Res.two rfl (RV.tmp rfl) (RV.tmp rfl))
def i_PolarPart_1 (a0 : Int) (a1 : Int) (a2 : Int) (a3 : Int) (a4 : List F) (a5 : F) : Option (F) :=
 obind (i_Matrix_at a2 a3 a4 a0 a1) fun (r1 : F) =>
 olet (fop .quo .f32 r1 a5) fun (x2 : F) =>
 some x2
theorem i_PolarPart_1_ok (a0 : Int) (a1 : Int) (a2 : Int) (a3 : Int) (a4 : List F) (a5 : F) (q0 : F) (h : i_PolarPart_1 a0 a1 a2 a3 a4 a5 = some q0) : Ev Try.prog 110 [i64 a0, i64 a1, ptr (mXc a2 a3 a4), ptr [f32 a5]] [] (f32 q0) [] := by
 refine yE Try.func110 0 27 0 ([(0, i64 a0), (1, i64 a1), (2, ptr (mXc a2 a3 a4)), (3, ptr [f32 a5])]) [] rfl ?_
 unfold i_PolarPart_1 at h
 refine zQ<|yl rfl (f32 (some 0)) (LOp.le (LOp.assign rfl rfl) (ALe.fl (by kernel_rfl) (by kernel_rfl)))<|zN ?_
 refine yS ?_
 obtain ⟨r1, hf1, h⟩ := oS h
 obtain ⟨x2, hx2, h⟩ := oL h
 refine RunC.region_draw (Γ' := []) 7 mixed 
  (tl rfl (agg (mXc a2 a3 a4)) (yL agg33 siz33) <|
  (tm rfl (i64 a0) <|
  (tm rfl (i64 a1) <|
  (TR.d (r := f32 r1) (fs := []) rfl rfl (TOp.callB (CallAs.func ent94 rfl rfl) (Bors.cons (Bor.agg (bP (bP (bS bN)))) (bP bN0)) rfl rfl (i_Matrix_at_ok a2 a3 a4 a0 a1 r1 hf1)) <|
  (tl rfl (f32 a5) (y2 agg28) <|
  (TR.d (r := f32 x2) (fs := []) rfl rfl (TOp.eqr (TOp.fop (.inr (.inr (.inr rfl))) rfl (OpF.tmp rfl) (OpF.tmp rfl)) (congrArg (f .f32) hx2)) <|
  (tl rfl (f32 x2) (LOp.assign rfl rfl) <|
  TR.nil))))))) rfl (by kernel_rfl) rfl fills_nil rfl ?_
 iterate 7 refine ROps.dropS ?_
 refine ROps.drop0<|zN ?_
 refine RunC.ret ?_
 have hq := oI h
 subst q0
 exact bodyQ.pure (.inr rfl) rfl (Res.one rfl (RV.tmp rfl))
def i_made_2Fi_PolarPart_1_b2 (a1 : Int) (a2 : Int) (a3 : Int) (a4 : List F) (a5 : F) (r1 : Int) (r2 : Int) (r3 : List F) (v6 : Int) (L7 : List F) (v9 : Int) : Option (LR ((List F) × Int) ((List F)) (Int × Int × (List F))) :=
 bsel (decide (v9 < a1)) (
  obind (i_PolarPart_1 v6 v9 a2 a3 a4 a5) fun (r11 : F) =>
  obind (i_Matrix_set_02o r1 r2 v6 v9 r11 L7) fun (r12 : List F) =>
  need (decide (r12.length = r3.length)) <|
  olet (IntKind.i64.wrap (v9 + 1)) fun (x13 : Int) =>
  some (LR.next (r12, x13))) (
  some (LR.out L7))
def i_made_2Fi_PolarPart_1_s2 (a1 : Int) (a2 : Int) (a3 : Int) (a4 : List F) (a5 : F) (r1 : Int) (r2 : Int) (r3 : List F) (v6 : Int) : ((List F) × Int) → Option (LR ((List F) × Int) ((List F)) (Int × Int × (List F))) := fun s => i_made_2Fi_PolarPart_1_b2 a1 a2 a3 a4 a5 r1 r2 r3 v6 s.1 s.2
def i_made_2Fi_PolarPart_1_k2 (v6 : Int) (L14 : List F) : Option (LR ((List F) × Int) ((List F)) (Int × Int × (List F))) :=
 olet (IntKind.i64.wrap (v6 + 1)) fun (x16 : Int) =>
 some (LR.next (L14, x16))
def i_made_2Fi_PolarPart_1_b3 (a0 : Int) (a1 : Int) (a2 : Int) (a3 : Int) (a4 : List F) (a5 : F) (r1 : Int) (r2 : Int) (r3 : List F) (L4 : List F) (v6 : Int) : Option (LR ((List F) × Int) ((List F)) (Int × Int × (List F))) :=
 bsel (decide (v6 < a0)) (
  obind (loopM (i_made_2Fi_PolarPart_1_s2 a1 a2 a3 a4 a5 r1 r2 r3 v6) (L4, 0)) fun z => osum z (fun e => i_made_2Fi_PolarPart_1_k2 v6 e) (fun r => some (LR.ret r))) (
  some (LR.out L4))
def i_made_2Fi_PolarPart_1_s3 (a0 : Int) (a1 : Int) (a2 : Int) (a3 : Int) (a4 : List F) (a5 : F) (r1 : Int) (r2 : Int) (r3 : List F) : ((List F) × Int) → Option (LR ((List F) × Int) ((List F)) (Int × Int × (List F))) := fun s => i_made_2Fi_PolarPart_1_b3 a0 a1 a2 a3 a4 a5 r1 r2 r3 s.1 s.2
def i_made_2Fi_PolarPart_1_k3 (r1 : Int) (r2 : Int) (L17 : List F) : Option (Int × Int × (List F)) :=
 some (r1, r2, L17)
def i_made_2Fi_PolarPart_1 (a0 : Int) (a1 : Int) (a2 : Int) (a3 : Int) (a4 : List F) (a5 : F) : Option (Int × Int × (List F)) :=
 obind3 (i_newMatrix a0 a1) fun (r1 : Int) (r2 : Int) (r3 : List F) =>
 obind (loopM (i_made_2Fi_PolarPart_1_s3 a0 a1 a2 a3 a4 a5 r1 r2 r3) (r3, 0)) fun z => osum z (fun e => i_made_2Fi_PolarPart_1_k3 r1 r2 e) (fun r => some r)
theorem i_made_2Fi_PolarPart_1_ok (a0 : Int) (a1 : Int) (a2 : Int) (a3 : Int) (a4 : List F) (a5 : F) (q0 : Int) (q1 : Int) (q2 : List F) (h : i_made_2Fi_PolarPart_1 a0 a1 a2 a3 a4 a5 = some (q0, q1, q2)) : Ev Try.prog 64 [i64 a0, i64 a1, fn (.func 110) [] [ptr (mXc a2 a3 a4), ptr [f32 a5]]] [] (agg (oXc q0 q1 0 0 q2.length)) [⟨0, some (q2.map f32)⟩] := by
 refine yE Try.func64 3 65 0 ([(0, i64 a0), (1, i64 a1), (2, fn (.func 110) [] [ptr (mXc a2 a3 a4), ptr [f32 a5]])]) [⟨0, none⟩, ⟨0, none⟩, ⟨0, none⟩] rfl ?_
 unfold i_made_2Fi_PolarPart_1 at h
 refine zQ<|ye rfl (optr 0 1 0) [⟨1, some zMx⟩, ⟨0, none⟩, ⟨0, none⟩] (TOp.alloc_o (g := ⟨0, none⟩) 0 rfl zer33 zok33 rfl)<|zN ?_
 refine yS ?_
 obtain ⟨r1, r2, r3, hf1, h⟩ := obind3_some h
 refine yW<|ym rfl (i64 a0)<|ym rfl (i64 a1)<|ye rfl (agg (oXc r1 r2 1 1 r3.length)) [⟨1, some zMx⟩, ⟨1, some (r3.map f32)⟩, ⟨0, none⟩] (TOp.callBN (ls := [(r3.map f32)]) [1] (CallAs.func ent113 rfl rfl) (bP bN0) rfl (i_newMatrix_ok a0 a1 r1 r2 r3 hf1) (and_all (lts0_map (f := f32) (fun _ => rfl) _) rfl) (and_all (noss_map (f := f32) (fun _ => rfl) _) rfl) rfl (by decide) (ns_of ⟨⟨_, rfl⟩, trivial⟩))<|ye rfl (optr 2 1 0) [⟨1, some zMx⟩, ⟨1, some (r3.map f32)⟩, ⟨1, some zMx⟩] (TOp.alloc_o (g := ⟨0, none⟩) 2 rfl zer33 zok33 rfl)<|ys (agg (oXc r1 r2 1 1 r3.length)) (oXc r1 r2 1 1 r3.length) [⟨1, some zMx⟩, ⟨1, some (r3.map f32)⟩, ⟨1, some (oXc r1 r2 1 1 r3.length)⟩] siz33<|zN ?_
 refine yS<|zQ<|ym rfl (i64 a0)<|ym rfl (i64 0)<|zN ?_
 obtain ⟨z4, hz_4, h⟩ := oS h
 refine RunC.cutN (fun τ Γ => ∃ (L17 : List F), L17.length = r3.length ∧ WeakLe τ [(6, optr 0 1 0), (7, optr 2 1 0)] ∧ DeadLe Γ [⟨1, some zMx⟩, ⟨1, some (L17.map f32)⟩, ⟨1, some (oXc r1 r2 1 1 r3.length)⟩] ∧ z4 = .inl L17) ?_ ?_
 ·refine RunC.block (RunC.loop (RunL.loopM (x := z4) (i_made_2Fi_PolarPart_1_s3 a0 a1 a2 a3 a4 a5 r1 r2 r3) (fun (s : (List F) × Int) τ Γ => s.1.length = r3.length ∧ WeakLe τ [(1, i64 a1), (2, fn (.func 110) [] [ptr (mXc a2 a3 a4), ptr [f32 a5]]), (6, optr 0 1 0), (7, optr 2 1 0), (13, i64 a0), (14, i64 s.2)] ∧ DeadLe Γ [⟨1, some zMx⟩, ⟨1, some (s.1.map f32)⟩, ⟨1, some (oXc r1 r2 1 1 r3.length)⟩]) ?_ _ _ _ hz_4 ⟨rfl, ⟨aR, aR, aR, aR, aR, aR, trivial⟩, ⟨⟨rfl, .inr rfl⟩, ⟨rfl, .inr rfl⟩, ⟨rfl, .inr rfl⟩, trivial⟩⟩))
  rintro ⟨L4, v6⟩ τ4 Γ4 y4_ ⟨hl5, hw4, hd4⟩ h4_ ho4 hr4
  refine RunC.wl (τ' := [(1, i64 a1), (2, fn (.func 110) [] [ptr (mXc a2 a3 a4), ptr [f32 a5]]), (6, optr 0 1 0), (7, optr 2 1 0), (13, i64 a0), (14, i64 v6)]) (Γ' := [⟨1, some zMx⟩, ⟨1, some (L4.map f32)⟩, ⟨1, some (oXc r1 r2 1 1 r3.length)⟩]) hw4 hd4 ?_
  replace hl5 : L4.length = r3.length := hl5
  replace h4_ : i_made_2Fi_PolarPart_1_b3 a0 a1 a2 a3 a4 a5 r1 r2 r3 L4 v6 = some y4_ := h4_
  unfold i_made_2Fi_PolarPart_1_b3 at h4_
  refine yS ?_
  rcases oB h4_ with ⟨hc2, h4_⟩ | ⟨hc2, h4_⟩
  ·refine yW<|yl rfl (b true) (LOp.eqb (LOp.lss rfl rfl rfl) hc2)<|zN ?_
   refine yS<|yT<|RunC.skip<|yS<|RunC.block<|zQ<|ym rfl (i64 v6)<|ya rfl (i64 v6)<|zN ?_
   refine zQ<|ym rfl (i64 a1)<|ym rfl (i64 0)<|zN ?_
   obtain ⟨z5, hz_5, h4_⟩ := oS h4_
   refine RunC.cutN (fun τ Γ => ∃ (L14 : List F), L14.length = r3.length ∧ WeakLe τ [(1, i64 a1), (2, fn (.func 110) [] [ptr (mXc a2 a3 a4), ptr [f32 a5]]), (6, optr 0 1 0), (7, optr 2 1 0), (13, i64 a0), (14, i64 v6)] ∧ DeadLe Γ [⟨1, some zMx⟩, ⟨1, some (L14.map f32)⟩, ⟨1, some (oXc r1 r2 1 1 r3.length)⟩] ∧ z5 = .inl L14) ?_ ?_
   ·refine RunC.block (RunC.loop (RunL.loopM (x := z5) (i_made_2Fi_PolarPart_1_s2 a1 a2 a3 a4 a5 r1 r2 r3 v6) (fun (s : (List F) × Int) τ Γ => s.1.length = r3.length ∧ WeakLe τ [(1, i64 a1), (2, fn (.func 110) [] [ptr (mXc a2 a3 a4), ptr [f32 a5]]), (6, optr 0 1 0), (7, optr 2 1 0), (8, i64 v6), (13, i64 a0), (14, i64 v6), (17, i64 a1), (18, i64 s.2)] ∧ DeadLe Γ [⟨1, some zMx⟩, ⟨1, some (s.1.map f32)⟩, ⟨1, some (oXc r1 r2 1 1 r3.length)⟩]) ?_ _ _ _ hz_5 ⟨hl5, ⟨aR, aR, aR, aR, aR, aR, aR, aR, aR, trivial⟩, ⟨⟨rfl, .inr rfl⟩, ⟨rfl, .inr rfl⟩, ⟨rfl, .inr rfl⟩, trivial⟩⟩))
    rintro ⟨L7, v9⟩ τ5 Γ5 y5_ ⟨hl8, hw5, hd5⟩ h5_ ho5 hr5
    refine RunC.wl (τ' := [(1, i64 a1), (2, fn (.func 110) [] [ptr (mXc a2 a3 a4), ptr [f32 a5]]), (6, optr 0 1 0), (7, optr 2 1 0), (8, i64 v6), (13, i64 a0), (14, i64 v6), (17, i64 a1), (18, i64 v9)]) (Γ' := [⟨1, some zMx⟩, ⟨1, some (L7.map f32)⟩, ⟨1, some (oXc r1 r2 1 1 r3.length)⟩]) hw5 hd5 ?_
    replace hl8 : L7.length = r3.length := hl8
    replace h5_ : i_made_2Fi_PolarPart_1_b2 a1 a2 a3 a4 a5 r1 r2 r3 v6 L7 v9 = some y5_ := h5_
    unfold i_made_2Fi_PolarPart_1_b2 at h5_
    refine yS ?_
    rcases oB h5_ with ⟨hc3, h5_⟩ | ⟨hc3, h5_⟩
    ·refine yW<|yl rfl (b true) (LOp.eqb (LOp.lss rfl rfl rfl) hc3)<|zN ?_
     refine yS<|yT<|RunC.skip<|yS<|RunC.block<|zQ<|ym rfl (i64 v9)<|ya rfl (i64 v9)<|zN ?_
     obtain ⟨r11, hf5, h5_⟩ := oS h5_
     obtain ⟨r12, hf6, h5_⟩ := oS h5_
     obtain ⟨hn7, h5_⟩ := need_some h5_
     refine RunC.region_draw (Γ' := [⟨1, some zMx⟩, ⟨1, some (L7.map f32)⟩, ⟨1, some (oXc r1 r2 1 1 r3.length)⟩]) 7 mixed 
      (TR.d (r := agg (oXc r1 r2 1 1 r3.length)) (fs := []) rfl rfl (TOp.loadAgg_o rfl agg33 siz33 rfl rfl rfl rfl) <|
      (tm rfl (i64 v6) <|
      (tm rfl (i64 v9) <|
      (tm rfl (fn (.func 110) [] [ptr (mXc a2 a3 a4), ptr [f32 a5]]) <|
      (tm rfl (i64 v6) <|
      (tm rfl (i64 v9) <|
      (TR.d (r := f32 r11) (fs := []) rfl rfl (TOp.callB (CallAs.fn ent110 rfl rfl rfl rfl) (bP (bP (Bors.cons (Bor.ptr (bP (bP (bS bN)))) (Bors.cons (Bor.ptr bN0) bN)))) rfl rfl (i_PolarPart_1_ok v6 v9 a2 a3 a4 a5 r11 hf5)) <|
      TR.nil))))))) rfl (by kernel_rfl) rfl fills_nil rfl ?_
     iterate 7 refine ROps.dropS ?_
     refine ROps.drop0<|ROps.callO (A := [agg (oXc r1 r2 1 1 r3.length), i64 v6, i64 v9, f32 r11]) (args := [agg (oXc r1 r2 0 0 L7.length), i64 v6, i64 v9, f32 r11]) (Γc := [⟨0, some (L7.map f32)⟩]) (Γc' := [⟨0, some (r12.map f32)⟩]) (r' := tup []) (Γ' := [⟨1, some zMx⟩, ⟨1, some (r12.map f32)⟩, ⟨1, some (oXc r1 r2 1 1 r3.length)⟩]) [(1, 1)] [] rfl (CallAs.func ent93 rfl rfl) rfl rfl (SelOk.of (ndB_ok rfl) (SelL.arr0 (f := f32) (fun _ => rfl) rfl trivial)) (live_of ⟨⟨_, _, rfl⟩, trivial⟩) (by simp [ren, rens, sigma, rens_f32, rens_f64, rens_i64, rens_ik, rens_str, rens_cp, hl8]) rfl (i_Matrix_set_02o_ok r1 r2 v6 v9 r11 L7 r12 hf6) rfl (news_of trivial) (ndB_ok rfl) (by simp [ren, rens, sigma, of_decide_eq_true hn7]) (by simp [backOb, sigma, ren, rens, rens_f32, rens_f64, rens_i64, rens_ik, rens_str, rens_cp])<|zN ?_
     obtain ⟨x13, hx8, h5_⟩ := oL h5_
     refine yW<|yl rfl (i64 x13) (LOp.eqr (LOp.add rfl rfl rfl) (congrArg (ik .i64) hx8))<|ym rfl (i64 x13)<|zN ?_
     cases oI h5_
     exact ⟨_, rfl, (of_decide_eq_true hn7), ⟨aR, aR, aR, aR, aR, aR, aR, aR, aR, trivial⟩, ⟨⟨rfl, .inr rfl⟩, ⟨rfl, .inr rfl⟩, ⟨rfl, .inr rfl⟩, trivial⟩⟩
    ·refine yW<|yl rfl (b false) (LOp.eqb (LOp.lss rfl rfl rfl) hc3)<|zN ?_
     refine yS<|yF<|RunC.exit ?_
     cases oI h5_
     have hx := ho5 _ rfl
     exact ⟨L7, hl8, ⟨aR, aR, aR, aR, aR, aR, trivial⟩, ⟨⟨rfl, .inr rfl⟩, ⟨rfl, .inr rfl⟩, ⟨rfl, .inr rfl⟩, trivial⟩, hx⟩
   ·rintro τ6 Γ6 ⟨L14, hl15, hw6, hd6, rfl⟩
    refine RunC.wl hw6 hd6 ?_
    replace h4_ : i_made_2Fi_PolarPart_1_k2 v6 L14 = some y4_ := h4_
    unfold i_made_2Fi_PolarPart_1_k2 at h4_
    obtain ⟨x16, hx9, h4_⟩ := oL h4_
    refine yW<|yl rfl (i64 x16) (LOp.eqr (LOp.add rfl rfl rfl) (congrArg (ik .i64) hx9))<|ym rfl (i64 x16)<|zN ?_
    cases oI h4_
    exact ⟨_, rfl, hl15, ⟨aR, aR, aR, aR, aR, aR, trivial⟩, ⟨⟨rfl, .inr rfl⟩, ⟨rfl, .inr rfl⟩, ⟨rfl, .inr rfl⟩, trivial⟩⟩
  ·refine yW<|yl rfl (b false) (LOp.eqb (LOp.lss rfl rfl rfl) hc2)<|zN ?_
   refine yS<|yF<|RunC.exit ?_
   cases oI h4_
   have hx := ho4 _ rfl
   exact ⟨L4, hl5, ⟨aR, aR, trivial⟩, ⟨⟨rfl, .inr rfl⟩, ⟨rfl, .inr rfl⟩, ⟨rfl, .inr rfl⟩, trivial⟩, hx⟩
 ·rintro τ7 Γ7 ⟨L17, hl18, hw7, hd7, rfl⟩
  refine RunC.wl hw7 hd7 ?_
  replace h : i_made_2Fi_PolarPart_1_k3 r1 r2 L17 = some (q0, q1, q2) := h
  unfold i_made_2Fi_PolarPart_1_k3 at h
  refine zQ<|yd rfl (agg (oXc r1 r2 1 1 r3.length)) (TOp.loadAgg_o rfl agg33 siz33 rfl rfl rfl rfl)<|ys (agg (oXc r1 r2 1 1 r3.length)) (oXc r1 r2 1 1 r3.length) [⟨1, some (oXc r1 r2 1 1 r3.length)⟩, ⟨1, some (L17.map f32)⟩, ⟨1, some (oXc r1 r2 1 1 r3.length)⟩] siz33<|zN ?_
  refine RunC.ret ?_
  have hq := oI h
  obtain ⟨hq0, hq⟩ := Prod.mk.inj hq
  obtain ⟨hq1, hq⟩ := Prod.mk.inj hq
  subst q0
  subst q1
  subst q2
  exact yB (agg (oXc r1 r2 1 1 L17.length)) [(1, 1)] (Res.eq (Res.one rfl (RV.cell agg33 siz33 rfl rfl rfl rfl)) (by rw [(show L17.length = r3.length from hl18)] <;> rfl)) (SelL.arr0 (f := f32) (fun _ => rfl) rfl trivial)
def i_Matrix_flip_1 (a0 : Int) (a1 : Int) (a2 : Int) (a3 : Int) (a4 : List F) : Option (F) :=
 obind (i_Matrix_at a2 a3 a4 a1 a0) fun (r1 : F) =>
 some r1
theorem i_Matrix_flip_1_ok (a0 : Int) (a1 : Int) (a2 : Int) (a3 : Int) (a4 : List F) (q0 : F) (h : i_Matrix_flip_1 a0 a1 a2 a3 a4 = some q0) : Ev Try.prog 160 [i64 a0, i64 a1, ptr (mXc a2 a3 a4)] [] (f32 q0) [] := by
 refine yE Try.func160 0 21 0 [(0, i64 a0), (1, i64 a1), (2, ptr (mXc a2 a3 a4))] [] rfl ?_
 unfold i_Matrix_flip_1 at h
 refine zQ<|yl rfl (f32 (some 0)) (LOp.le (LOp.assign rfl rfl) (ALe.fl (by kernel_rfl) (by kernel_rfl)))<|zN ?_
 refine yS ?_
 obtain ⟨r1, hf1, h⟩ := oS h
 refine yW<|yl rfl (agg (mXc a2 a3 a4)) (yL agg33 siz33)<|ym rfl (i64 a1)<|ym rfl (i64 a0)<|yd rfl (f32 r1) (TOp.callB (CallAs.func ent94 rfl rfl) (Bors.cons (Bor.agg (bP (bP (bS bN)))) (bP bN0)) rfl rfl (i_Matrix_at_ok a2 a3 a4 a1 a0 r1 hf1))<|ya rfl (f32 r1)<|zN ?_
 refine RunC.ret ?_
 have hq := oI h
 subst q0
 exact bodyQ.pure (.inr rfl) rfl (Res.one rfl (RV.tmp rfl))
def i_made_2Fi_Matrix_flip_1_b2 (a1 : Int) (a2 : Int) (a3 : Int) (a4 : List F) (r1 : Int) (r2 : Int) (r3 : List F) (v6 : Int) (L7 : List F) (v9 : Int) : Option (LR ((List F) × Int) ((List F)) (Int × Int × (List F))) :=
 bsel (decide (v9 < a1)) (
  obind (i_Matrix_flip_1 v6 v9 a2 a3 a4) fun (r11 : F) =>
  obind (i_Matrix_set_02o r1 r2 v6 v9 r11 L7) fun (r12 : List F) =>
  need (decide (r12.length = r3.length)) <|
  olet (IntKind.i64.wrap (v9 + 1)) fun (x13 : Int) =>
  some (LR.next (r12, x13))) (
  some (LR.out L7))
def i_made_2Fi_Matrix_flip_1_s2 (a1 : Int) (a2 : Int) (a3 : Int) (a4 : List F) (r1 : Int) (r2 : Int) (r3 : List F) (v6 : Int) : ((List F) × Int) → Option (LR ((List F) × Int) ((List F)) (Int × Int × (List F))) := fun s => i_made_2Fi_Matrix_flip_1_b2 a1 a2 a3 a4 r1 r2 r3 v6 s.1 s.2
def i_made_2Fi_Matrix_flip_1_k2 (v6 : Int) (L14 : List F) : Option (LR ((List F) × Int) ((List F)) (Int × Int × (List F))) :=
 olet (IntKind.i64.wrap (v6 + 1)) fun (x16 : Int) =>
 some (LR.next (L14, x16))
def i_made_2Fi_Matrix_flip_1_b3 (a0 : Int) (a1 : Int) (a2 : Int) (a3 : Int) (a4 : List F) (r1 : Int) (r2 : Int) (r3 : List F) (L4 : List F) (v6 : Int) : Option (LR ((List F) × Int) ((List F)) (Int × Int × (List F))) :=
 bsel (decide (v6 < a0)) (
  obind (loopM (i_made_2Fi_Matrix_flip_1_s2 a1 a2 a3 a4 r1 r2 r3 v6) (L4, 0)) fun z => osum z (fun e => i_made_2Fi_Matrix_flip_1_k2 v6 e) (fun r => some (LR.ret r))) (
  some (LR.out L4))
def i_made_2Fi_Matrix_flip_1_s3 (a0 : Int) (a1 : Int) (a2 : Int) (a3 : Int) (a4 : List F) (r1 : Int) (r2 : Int) (r3 : List F) : ((List F) × Int) → Option (LR ((List F) × Int) ((List F)) (Int × Int × (List F))) := fun s => i_made_2Fi_Matrix_flip_1_b3 a0 a1 a2 a3 a4 r1 r2 r3 s.1 s.2
def i_made_2Fi_Matrix_flip_1_k3 (r1 : Int) (r2 : Int) (L17 : List F) : Option (Int × Int × (List F)) :=
 some (r1, r2, L17)
def i_made_2Fi_Matrix_flip_1 (a0 : Int) (a1 : Int) (a2 : Int) (a3 : Int) (a4 : List F) : Option (Int × Int × (List F)) :=
 obind3 (i_newMatrix a0 a1) fun (r1 : Int) (r2 : Int) (r3 : List F) =>
 obind (loopM (i_made_2Fi_Matrix_flip_1_s3 a0 a1 a2 a3 a4 r1 r2 r3) (r3, 0)) fun z => osum z (fun e => i_made_2Fi_Matrix_flip_1_k3 r1 r2 e) (fun r => some r)
theorem i_made_2Fi_Matrix_flip_1_ok (a0 : Int) (a1 : Int) (a2 : Int) (a3 : Int) (a4 : List F) (q0 : Int) (q1 : Int) (q2 : List F) (h : i_made_2Fi_Matrix_flip_1 a0 a1 a2 a3 a4 = some (q0, q1, q2)) : Ev Try.prog 64 [i64 a0, i64 a1, fn (.func 160) [] [ptr (mXc a2 a3 a4)]] [] (agg (oXc q0 q1 0 0 q2.length)) [⟨0, some (q2.map f32)⟩] := by
 refine yE Try.func64 3 65 0 ([(0, i64 a0), (1, i64 a1), (2, fn (.func 160) [] [ptr (mXc a2 a3 a4)])]) [⟨0, none⟩, ⟨0, none⟩, ⟨0, none⟩] rfl ?_
 unfold i_made_2Fi_Matrix_flip_1 at h
 refine zQ<|ye rfl (optr 0 1 0) [⟨1, some zMx⟩, ⟨0, none⟩, ⟨0, none⟩] (TOp.alloc_o (g := ⟨0, none⟩) 0 rfl zer33 zok33 rfl)<|zN ?_
 refine yS ?_
 obtain ⟨r1, r2, r3, hf1, h⟩ := obind3_some h
 refine yW<|ym rfl (i64 a0)<|ym rfl (i64 a1)<|ye rfl (agg (oXc r1 r2 1 1 r3.length)) [⟨1, some zMx⟩, ⟨1, some (r3.map f32)⟩, ⟨0, none⟩] (TOp.callBN (ls := [(r3.map f32)]) [1] (CallAs.func ent113 rfl rfl) (bP bN0) rfl (i_newMatrix_ok a0 a1 r1 r2 r3 hf1) (and_all (lts0_map (f := f32) (fun _ => rfl) _) rfl) (and_all (noss_map (f := f32) (fun _ => rfl) _) rfl) rfl (by decide) (ns_of ⟨⟨_, rfl⟩, trivial⟩))<|ye rfl (optr 2 1 0) [⟨1, some zMx⟩, ⟨1, some (r3.map f32)⟩, ⟨1, some zMx⟩] (TOp.alloc_o (g := ⟨0, none⟩) 2 rfl zer33 zok33 rfl)<|ys (agg (oXc r1 r2 1 1 r3.length)) (oXc r1 r2 1 1 r3.length) [⟨1, some zMx⟩, ⟨1, some (r3.map f32)⟩, ⟨1, some (oXc r1 r2 1 1 r3.length)⟩] siz33<|zN ?_
 refine yS<|zQ<|ym rfl (i64 a0)<|ym rfl (i64 0)<|zN ?_
 obtain ⟨z4, hz_4, h⟩ := oS h
 refine RunC.cutN (fun τ Γ => ∃ (L17 : List F), L17.length = r3.length ∧ WeakLe τ [(6, optr 0 1 0), (7, optr 2 1 0)] ∧ DeadLe Γ [⟨1, some zMx⟩, ⟨1, some (L17.map f32)⟩, ⟨1, some (oXc r1 r2 1 1 r3.length)⟩] ∧ z4 = .inl L17) ?_ ?_
 ·refine RunC.block (RunC.loop (RunL.loopM (x := z4) (i_made_2Fi_Matrix_flip_1_s3 a0 a1 a2 a3 a4 r1 r2 r3) (fun (s : (List F) × Int) τ Γ => s.1.length = r3.length ∧ WeakLe τ [(1, i64 a1), (2, fn (.func 160) [] [ptr (mXc a2 a3 a4)]), (6, optr 0 1 0), (7, optr 2 1 0), (13, i64 a0), (14, i64 s.2)] ∧ DeadLe Γ [⟨1, some zMx⟩, ⟨1, some (s.1.map f32)⟩, ⟨1, some (oXc r1 r2 1 1 r3.length)⟩]) ?_ _ _ _ hz_4 ⟨rfl, ⟨aR, aR, aR, aR, aR, aR, trivial⟩, ⟨⟨rfl, .inr rfl⟩, ⟨rfl, .inr rfl⟩, ⟨rfl, .inr rfl⟩, trivial⟩⟩))
  rintro ⟨L4, v6⟩ τ4 Γ4 y4_ ⟨hl5, hw4, hd4⟩ h4_ ho4 hr4
  refine RunC.wl (τ' := [(1, i64 a1), (2, fn (.func 160) [] [ptr (mXc a2 a3 a4)]), (6, optr 0 1 0), (7, optr 2 1 0), (13, i64 a0), (14, i64 v6)]) (Γ' := [⟨1, some zMx⟩, ⟨1, some (L4.map f32)⟩, ⟨1, some (oXc r1 r2 1 1 r3.length)⟩]) hw4 hd4 ?_
  replace hl5 : L4.length = r3.length := hl5
  replace h4_ : i_made_2Fi_Matrix_flip_1_b3 a0 a1 a2 a3 a4 r1 r2 r3 L4 v6 = some y4_ := h4_
  unfold i_made_2Fi_Matrix_flip_1_b3 at h4_
  refine yS ?_
  rcases oB h4_ with ⟨hc2, h4_⟩ | ⟨hc2, h4_⟩
  ·refine yW<|yl rfl (b true) (LOp.eqb (LOp.lss rfl rfl rfl) hc2)<|zN ?_
   refine yS<|yT<|RunC.skip<|yS<|RunC.block<|zQ<|ym rfl (i64 v6)<|ya rfl (i64 v6)<|zN ?_
   refine zQ<|ym rfl (i64 a1)<|ym rfl (i64 0)<|zN ?_
   obtain ⟨z5, hz_5, h4_⟩ := oS h4_
   refine RunC.cutN (fun τ Γ => ∃ (L14 : List F), L14.length = r3.length ∧ WeakLe τ [(1, i64 a1), (2, fn (.func 160) [] [ptr (mXc a2 a3 a4)]), (6, optr 0 1 0), (7, optr 2 1 0), (13, i64 a0), (14, i64 v6)] ∧ DeadLe Γ [⟨1, some zMx⟩, ⟨1, some (L14.map f32)⟩, ⟨1, some (oXc r1 r2 1 1 r3.length)⟩] ∧ z5 = .inl L14) ?_ ?_
   ·refine RunC.block (RunC.loop (RunL.loopM (x := z5) (i_made_2Fi_Matrix_flip_1_s2 a1 a2 a3 a4 r1 r2 r3 v6) (fun (s : (List F) × Int) τ Γ => s.1.length = r3.length ∧ WeakLe τ [(1, i64 a1), (2, fn (.func 160) [] [ptr (mXc a2 a3 a4)]), (6, optr 0 1 0), (7, optr 2 1 0), (8, i64 v6), (13, i64 a0), (14, i64 v6), (17, i64 a1), (18, i64 s.2)] ∧ DeadLe Γ [⟨1, some zMx⟩, ⟨1, some (s.1.map f32)⟩, ⟨1, some (oXc r1 r2 1 1 r3.length)⟩]) ?_ _ _ _ hz_5 ⟨hl5, ⟨aR, aR, aR, aR, aR, aR, aR, aR, aR, trivial⟩, ⟨⟨rfl, .inr rfl⟩, ⟨rfl, .inr rfl⟩, ⟨rfl, .inr rfl⟩, trivial⟩⟩))
    rintro ⟨L7, v9⟩ τ5 Γ5 y5_ ⟨hl8, hw5, hd5⟩ h5_ ho5 hr5
    refine RunC.wl (τ' := [(1, i64 a1), (2, fn (.func 160) [] [ptr (mXc a2 a3 a4)]), (6, optr 0 1 0), (7, optr 2 1 0), (8, i64 v6), (13, i64 a0), (14, i64 v6), (17, i64 a1), (18, i64 v9)]) (Γ' := [⟨1, some zMx⟩, ⟨1, some (L7.map f32)⟩, ⟨1, some (oXc r1 r2 1 1 r3.length)⟩]) hw5 hd5 ?_
    replace hl8 : L7.length = r3.length := hl8
    replace h5_ : i_made_2Fi_Matrix_flip_1_b2 a1 a2 a3 a4 r1 r2 r3 v6 L7 v9 = some y5_ := h5_
    unfold i_made_2Fi_Matrix_flip_1_b2 at h5_
    refine yS ?_
    rcases oB h5_ with ⟨hc3, h5_⟩ | ⟨hc3, h5_⟩
    ·refine yW<|yl rfl (b true) (LOp.eqb (LOp.lss rfl rfl rfl) hc3)<|zN ?_
     refine yS<|yT<|RunC.skip<|yS<|RunC.block<|zQ<|ym rfl (i64 v9)<|ya rfl (i64 v9)<|zN ?_
     obtain ⟨r11, hf5, h5_⟩ := oS h5_
     obtain ⟨r12, hf6, h5_⟩ := oS h5_
     obtain ⟨hn7, h5_⟩ := need_some h5_
     refine RunC.region_draw (Γ' := [⟨1, some zMx⟩, ⟨1, some (L7.map f32)⟩, ⟨1, some (oXc r1 r2 1 1 r3.length)⟩]) 7 mixed 
      (TR.d (r := agg (oXc r1 r2 1 1 r3.length)) (fs := []) rfl rfl (TOp.loadAgg_o rfl agg33 siz33 rfl rfl rfl rfl) <|
      (tm rfl (i64 v6) <|
      (tm rfl (i64 v9) <|
      (tm rfl (fn (.func 160) [] [ptr (mXc a2 a3 a4)]) <|
      (tm rfl (i64 v6) <|
      (tm rfl (i64 v9) <|
      (TR.d (r := f32 r11) (fs := []) rfl rfl (TOp.callB (CallAs.fn ent160 rfl rfl rfl rfl) (bP (bP (Bors.cons (Bor.ptr (bP (bP (bS bN)))) bN))) rfl rfl (i_Matrix_flip_1_ok v6 v9 a2 a3 a4 r11 hf5)) <|
      TR.nil))))))) rfl (by kernel_rfl) rfl fills_nil rfl ?_
     iterate 7 refine ROps.dropS ?_
     refine ROps.drop0<|ROps.callO (A := [agg (oXc r1 r2 1 1 r3.length), i64 v6, i64 v9, f32 r11]) (args := [agg (oXc r1 r2 0 0 L7.length), i64 v6, i64 v9, f32 r11]) (Γc := [⟨0, some (L7.map f32)⟩]) (Γc' := [⟨0, some (r12.map f32)⟩]) (r' := tup []) (Γ' := [⟨1, some zMx⟩, ⟨1, some (r12.map f32)⟩, ⟨1, some (oXc r1 r2 1 1 r3.length)⟩]) [(1, 1)] [] rfl (CallAs.func ent93 rfl rfl) rfl rfl (SelOk.of (ndB_ok rfl) (SelL.arr0 (f := f32) (fun _ => rfl) rfl trivial)) (live_of ⟨⟨_, _, rfl⟩, trivial⟩) (by simp [ren, rens, sigma, rens_f32, rens_f64, rens_i64, rens_ik, rens_str, rens_cp, hl8]) rfl (i_Matrix_set_02o_ok r1 r2 v6 v9 r11 L7 r12 hf6) rfl (news_of trivial) (ndB_ok rfl) (by simp [ren, rens, sigma, of_decide_eq_true hn7]) (by simp [backOb, sigma, ren, rens, rens_f32, rens_f64, rens_i64, rens_ik, rens_str, rens_cp])<|zN ?_
     obtain ⟨x13, hx8, h5_⟩ := oL h5_
     refine yW<|yl rfl (i64 x13) (LOp.eqr (LOp.add rfl rfl rfl) (congrArg (ik .i64) hx8))<|ym rfl (i64 x13)<|zN ?_
     cases oI h5_
     exact ⟨_, rfl, (of_decide_eq_true hn7), ⟨aR, aR, aR, aR, aR, aR, aR, aR, aR, trivial⟩, ⟨⟨rfl, .inr rfl⟩, ⟨rfl, .inr rfl⟩, ⟨rfl, .inr rfl⟩, trivial⟩⟩
    ·refine yW<|yl rfl (b false) (LOp.eqb (LOp.lss rfl rfl rfl) hc3)<|zN ?_
     refine yS<|yF<|RunC.exit ?_
     cases oI h5_
     have hx := ho5 _ rfl
     exact ⟨L7, hl8, ⟨aR, aR, aR, aR, aR, aR, trivial⟩, ⟨⟨rfl, .inr rfl⟩, ⟨rfl, .inr rfl⟩, ⟨rfl, .inr rfl⟩, trivial⟩, hx⟩
   ·rintro τ6 Γ6 ⟨L14, hl15, hw6, hd6, rfl⟩
    refine RunC.wl hw6 hd6 ?_
    replace h4_ : i_made_2Fi_Matrix_flip_1_k2 v6 L14 = some y4_ := h4_
    unfold i_made_2Fi_Matrix_flip_1_k2 at h4_
    obtain ⟨x16, hx9, h4_⟩ := oL h4_
    refine yW<|yl rfl (i64 x16) (LOp.eqr (LOp.add rfl rfl rfl) (congrArg (ik .i64) hx9))<|ym rfl (i64 x16)<|zN ?_
    cases oI h4_
    exact ⟨_, rfl, hl15, ⟨aR, aR, aR, aR, aR, aR, trivial⟩, ⟨⟨rfl, .inr rfl⟩, ⟨rfl, .inr rfl⟩, ⟨rfl, .inr rfl⟩, trivial⟩⟩
  ·refine yW<|yl rfl (b false) (LOp.eqb (LOp.lss rfl rfl rfl) hc2)<|zN ?_
   refine yS<|yF<|RunC.exit ?_
   cases oI h4_
   have hx := ho4 _ rfl
   exact ⟨L4, hl5, ⟨aR, aR, trivial⟩, ⟨⟨rfl, .inr rfl⟩, ⟨rfl, .inr rfl⟩, ⟨rfl, .inr rfl⟩, trivial⟩, hx⟩
 ·rintro τ7 Γ7 ⟨L17, hl18, hw7, hd7, rfl⟩
  refine RunC.wl hw7 hd7 ?_
  replace h : i_made_2Fi_Matrix_flip_1_k3 r1 r2 L17 = some (q0, q1, q2) := h
  unfold i_made_2Fi_Matrix_flip_1_k3 at h
  refine zQ<|yd rfl (agg (oXc r1 r2 1 1 r3.length)) (TOp.loadAgg_o rfl agg33 siz33 rfl rfl rfl rfl)<|ys (agg (oXc r1 r2 1 1 r3.length)) (oXc r1 r2 1 1 r3.length) [⟨1, some (oXc r1 r2 1 1 r3.length)⟩, ⟨1, some (L17.map f32)⟩, ⟨1, some (oXc r1 r2 1 1 r3.length)⟩] siz33<|zN ?_
  refine RunC.ret ?_
  have hq := oI h
  obtain ⟨hq0, hq⟩ := Prod.mk.inj hq
  obtain ⟨hq1, hq⟩ := Prod.mk.inj hq
  subst q0
  subst q1
  subst q2
  exact yB (agg (oXc r1 r2 1 1 L17.length)) [(1, 1)] (Res.eq (Res.one rfl (RV.cell agg33 siz33 rfl rfl rfl rfl)) (by rw [(show L17.length = r3.length from hl18)] <;> rfl)) (SelL.arr0 (f := f32) (fun _ => rfl) rfl trivial)
def i_Matrix_flip (a0 : Int) (a1 : Int) (a2 : List F) : Option (Int × Int × (List F)) :=
 obind3 (i_made_2Fi_Matrix_flip_1 a1 a0 a0 a1 a2) fun (r1 : Int) (r2 : Int) (r3 : List F) =>
 some (r1, r2, r3)
theorem i_Matrix_flip_ok (a0 : Int) (a1 : Int) (a2 : List F) (q0 : Int) (q1 : Int) (q2 : List F) (h : i_Matrix_flip a0 a1 a2 = some (q0, q1, q2)) : Ev Try.prog 111 [agg (mXc a0 a1 a2)] [] (agg (oXc q0 q1 0 0 q2.length)) [⟨0, some (q2.map f32)⟩] := by
 refine yE Try.func111 2 19 0 [(0, agg (mXc a0 a1 a2))] [⟨0, none⟩, ⟨0, none⟩] rfl ?_
 unfold i_Matrix_flip at h
 refine zQ<|yd rfl (ptr (mXc a0 a1 a2)) (TOp.box_s rfl rfl rfl)<|ye rfl (optr 0 1 0) [⟨1, some zMx⟩, ⟨0, none⟩] (TOp.alloc_o (g := ⟨0, none⟩) 0 rfl zer33 zok33 rfl)<|zN ?_
 refine yS ?_
 obtain ⟨r1, r2, r3, hf1, h⟩ := obind3_some h
 refine yW<|yl rfl (ptr [i64 a1, (sFc a2)]) (LOp.fap und33 rfl siz2 rfl rfl rfl)<|yl rfl (i64 a1) (y2 agg2)<|yl rfl (ptr (mXc a0 a1 a2)) (LOp.fap und33 rfl siz2 rfl rfl rfl)<|yl rfl (i64 a0) (y2 agg2)<|yl rfl (fn (.func 160) [] [ptr (mXc a0 a1 a2)]) (LOp.makeFunc rfl rfl)<|ye rfl (agg (oXc r1 r2 1 1 r3.length)) [⟨1, some zMx⟩, ⟨1, some (r3.map f32)⟩] (TOp.callBN (ls := [(r3.map f32)]) [1] (CallAs.func ent64 rfl rfl) (bP (bP (Bors.cons (Bor.fn bN (Bors.cons (Bor.ptr (bP (bP (bS bN)))) bN)) bN))) rfl (i_made_2Fi_Matrix_flip_1_ok a1 a0 a0 a1 a2 r1 r2 r3 hf1) (and_all (lts0_map (f := f32) (fun _ => rfl) _) rfl) (and_all (noss_map (f := f32) (fun _ => rfl) _) rfl) rfl (by decide) (ns_of ⟨⟨_, rfl⟩, trivial⟩))<|ys (agg (oXc r1 r2 1 1 r3.length)) (oXc r1 r2 1 1 r3.length) [⟨1, some (oXc r1 r2 1 1 r3.length)⟩, ⟨1, some (r3.map f32)⟩] siz33<|zN ?_
 refine RunC.ret ?_
 have hq := oI h
 obtain ⟨hq0, hq⟩ := Prod.mk.inj hq
 obtain ⟨hq1, hq⟩ := Prod.mk.inj hq
 subst q0
 subst q1
 subst q2
 exact yB (agg (oXc r1 r2 1 1 r3.length)) [(1, 1)] (Res.one rfl (RV.cell agg33 siz33 rfl rfl rfl rfl)) (SelL.arr0 (f := f32) (fun _ => rfl) rfl trivial)
end
end Go.Proofs.Ytkdociaoknmgbaa
